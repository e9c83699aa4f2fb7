/-
  WHAT THE PROOF STANDS ON, PART 3: contracts of the program's functions and the logic that they are proved in. No condition.
-/
import Derived.Test.YteehcinnfiaklaaGreatDoorRows
import Derived.ProofKit
import Derived.OpenShut
import Derived.JoinedCond
import Derived.ChangeSlices
import Derived.Carry
import Derived.KernelRfl
import Derived.Shelf.Strings.OnBuilder
import Derived.Shelf.Strings.Runes
import Derived.Test.YteehcinnfiaklaaGreatDoorProg
import Derived.Test.YteehcinnfiaklaaGreatDoorCards
import Derived.Deep.DeepHandedRow
import Derived.Deep.DeepWitnessRowRef
import Derived.Lib.LaidCaseMet
import Derived.Maps.Keyed
import Derived.DeepKeys3
import Derived.Test.YteehcinnfiaklaaGreatDoorQ2
set_option maxRecDepth 100000
set_option maxHeartbeats 4000000
set_option linter.unusedVariables false
set_option linter.unusedSimpArgs false
set_option linter.unusedSectionVars false
namespace Go.Abs
open Go Go.Proofs Go.Proofs.YteehcinnfiaklaaGreatDoor Go.ChangeShapes Go.WideShapes Go.ChangeAt Go.RowKit
theorem zMn : ownKnob Tryz.prog.godebug = none := by kernel_rfl
theorem zJt : laidOutB Tryz.prog = true := by kernel_rfl
abbrev zLy (w : World) : Nat → Prop := fun b => b < w.heap.size
theorem zHg (w : World) : SR (i8 w (zLy w) 0 (fun _ => .un)) (zLy w) (fun _ => .un) (hs []) W1 w :=
 ⟨.nil, rfl, fun t => .pure (.any _), fun o => rfl, fun o o' b c c' h => by simp [hs, zLV, AS.obj, lkO, AObj.live] at h, fun b hb => hb, fun o b c h => by simp [hs, zLV, AS.obj, lkO, AObj.live] at h,
  ⟨rfl, rfl, rfl, Nat.le_refl _, fun b _ _ => rfl, fun _ => Nat.le_refl _, fun p hp => by simp [zAO] at hp⟩, fun b hb => hb, fun b hb => .inl hb, fun k hk => absurd hk (Nat.not_lt_zero k)⟩
theorem zI5 {f : FuncId} {args : List AV} (sp : zLP Tryz.prog f args [] (bV true) []) (w : World) (vs : Array Value) (hl : vs.size = args.length) (hv : ∀ i (h : i < args.length) (h' : i < vs.size), PR w (zLy w) args[i] vs[i]) :
  Calls Tryz.prog f vs w fun e w' => e = .returned (.bool true) ∧ Below w.heap.size w w' := by
 refine (sp w (zLy w) (fun _ => .un) vs (zHg w) hl (fun i h h' => .pure (hv i h h'))).mono ?_
 rintro e w' ⟨v, I', loc', rfl, hp⟩
 have hr := hp.val.raw_eq
 subst hr
 have fr := hp.sr.fr
 exact ⟨rfl, fr.os, fr.tape, fr.output, fr.size, fun k hk => fr.block k hk (fun ⟨j, c, hj, _⟩ => absurd hj (Nat.not_lt_zero j))⟩
theorem zFc {H : Type} (d : DataW H) : 1 ≤ Rows.uptoBulk d := by
 cases d with
 | lit l => cases l <;> simp [Rows.uptoBulk]
 | _ => simp [Rows.uptoBulk]
theorem length_le {H : Type} (l : List (DataW H)) : l.length ≤ Rows.uptoBulkAll l := by
 induction l with
 | nil => simp [Rows.uptoBulkAll]
 | cons x r ih => have := zFc x; simp only [Rows.uptoBulkAll, List.length_cons]; omega
theorem zIM {H : Type} {enc : TypeId × Value → H} {W : World} {v : Value} {d : DataW H} {ps : List MemPlace} (hval : Value.okWide Tryz.prog W .any 0 23 v ∨ ∃ base, Value.okWide Tryz.prog W .any base 23 v)
    (h : DataW.Trod enc Tryz.prog W 0 (fun _ => true) true 23 v d ps) (hk : Rows.uptoBulk d ≤ 1048576) : ∃ l : List Int, PR W (zLy W) (.list (l.map iV)) v ∧ l.length ≤ 1048576 := by
  have hsl : ∃ a len cap, v = .slice a len cap := by
    rcases hval with hval | ⟨base, hval⟩
    · exact okWide_slice Tryz.underlying23 hval
    · exact okWide_slice Tryz.underlying23 hval
  obtain ⟨a, len, cap, rfl⟩ := hsl
  obtain ⟨fuel, hf⟩ := h
  have hc : Tryz.prog.cellsOf 3 = 1 := by kernel_rfl
  rcases open_ints Tryz.underlying23 Tryz.underlying3 hc hf with ⟨hcs, _⟩ | ⟨a0, len0, cap0, zs, hcs, _, hle, hm, hz, hx, hcell, hwz⟩
  · have e : Value.slice a len cap = .slice none 0 0 := by simpa [Value.cells] using hcs
    rw [e]
    exact ⟨[], .nil _ _, by simp⟩
  · have e : Value.slice a len cap = .slice (some a0) len0 cap0 := by simpa [Value.cells] using hcs
    rw [e]
    simp only [if_true] at hz
    have hd := congrArg Prod.fst hx
    simp only at hd
    subst hd
    have hlen : (zs.take len0).length = len0 := by simp; omega
    refine ⟨zs.take len0, ?_, ?_⟩
    · by_cases h0 : len0 = 0
      · subst h0; exact .nil _ _
      · have h1 := hcell 0 (by omega)
        have hspot : a0.spot = none := by
          unfold World.cell? at h1
          split at h1
          · split at h1
            · cases h1
            · rename_i hs
              simpa [Addr.add] using hs
          · cases h1
        have hblk : a0.block < W.heap.size := by
          unfold World.cell? at h1
          split at h1
          · rename_i hb
            have := (Array.getElem?_eq_some_iff.1 hb).1
            simpa [Addr.add] using this
          · cases h1
        obtain ⟨b, off, sp⟩ := a0
        simp only at hspot hblk
        subst hspot
        have key := PR.list (w := W) (I := zLy W) b off cap0 1 ((zs.take len0).map iV) (fun i _ => .int .i64 (zs.getD i 0)) hblk (by omega) (by simp; omega) (fun i hi => by simp [AV.cells])
          (fun i j hi hj => by
            have hi' : i < zs.length := by simp at hi; omega
            have := hcell i hi'
            have hj0 : j = 0 := by omega
            subst hj0
            have ea : (⟨b, off, none⟩ : Addr).add i = ⟨b, off + i * 1 + 0, none⟩ := by
              unfold Addr.add
              split
              · rename_i h; subst h; simp
              · simp
            rw [ea] at this; exact this)
          (fun i hi j hj => by
            have hi' : i < zs.length := by simp at hi; omega
            have hj0 : j = 0 := by simp [AV.cells] at hj; omega
            subst hj0
            have e2 : (((zs.take len0).map iV)[i]).cells[0] = iV (zs.getD i 0) := by simp [AV.cells, List.getD, hi']
            rw [e2]
            exact .raw _ rfl)
        rw [List.length_map, hlen] at key
        exact key
    · have h1 : (zs.take len0).length ≤ Rows.uptoBulkAll (H := H) (lits .i64 (zs.take len0)) := by
        have := length_le (H := H) (lits .i64 (zs.take len0))
        simpa [lits] using this
      simp only [Rows.uptoBulk] at hk
      omega
end Go.Abs

namespace Go.Abs
open Go Go.Proofs Go.Proofs.YteehcinnfiaklaaGreatDoor Go.ChangeShapes Go.WideShapes Go.ChangeAt Go.RowKit
inductive Sh where
 | int
 | str
 | sl (b : Bool) (e : Sh)
 | st (body : Sh)
 | emp
 | cat (x y : Sh)
def Sh.n : Sh → Nat
 | .int => 1
 | .str => 1
 | .sl _ _ => 1
 | .st b => b.n
 | .emp => 0
 | .cat x y => x.n + y.n
def Sh.ok : Sh → TypeId ⊕ (List Field × Nat) → Prop
 | .int, .inl t => Tryz.prog.underlying t = some (.int .i64)
 | .str, .inl t => Tryz.prog.underlying t = some .string
 | .sl b e, .inl t => ∃ u, Tryz.prog.underlying t = some (.slice u) ∧ Tryz.prog.cellsOf u = e.n ∧ 0 < e.n ∧ (b = true → e.n = 1) ∧ e.ok (.inl u)
 | .st b, .inl t => ∃ fs, Tryz.prog.underlying t = some (.struct fs) ∧ Tryz.prog.cellsOf t = b.n ∧ b.ok (.inr (fs.toList, 0))
 | .emp, .inr (l, _) => l = []
 | .cat x y, .inr (l, off) => ∃ f r, l = f :: r ∧ f.offset = off ∧ Tryz.prog.cellsOf f.type = x.n ∧ x.ok (.inl f.type) ∧ y.ok (.inr (r, off + x.n))
 | _, _ => False
def TyC (N : Nat) : Sh → List AV → Prop
 | .int, c => ∃ n : Int, (Lit.int .i64 n).wf = true ∧ c = [iV n]
 | .str, c => ∃ s : Str, s.length ≤ N ∧ c = [sV s]
 | .sl b e, c => ∃ xs, c = [.list xs] ∧ xs.length ≤ N ∧ ∀ x, x ∈ xs → ∃ d, TyC N e d ∧ x = if b = true then d.getD 0 .any else .agg d
 | .st b, c => TyC N b c
 | .emp, c => c = []
 | .cat x y, c => ∃ c1 c2, c = c1 ++ c2 ∧ TyC N x c1 ∧ TyC N y c2
theorem TyC.len {N : Nat} : ∀ {s : Sh} {c : List AV}, TyC N s c → c.length = s.n
 | .int, c, ⟨n, _, h⟩ => by subst h; rfl
 | .str, c, ⟨n, _, h⟩ => by subst h; rfl
 | .sl b e, c, ⟨xs, h, _⟩ => by subst h; rfl
 | .st b, c, h => TyC.len (s := b) h
 | .emp, c, h => by cases (show c = [] from h); rfl
 | .cat x y, c, ⟨c1, c2, h, h1, h2⟩ => by subst h; rw [List.length_append, TyC.len h1, TyC.len h2]; rfl
end Go.Abs

namespace Go.Abs
open Go Go.Proofs Go.Proofs.YteehcinnfiaklaaGreatDoor Go.ChangeShapes Go.WideShapes Go.ChangeAt Go.RowKit
theorem pick {α : Type} [Inhabited α] {len : Nat} {p : Nat → α → Prop} (h : ∀ i, i < len → ∃ a, p i a) : ∃ F : Nat → α, ∀ i, i < len → p i (F i) :=
 ⟨fun i => if h' : i < len then Classical.choose (h i h') else default, fun i hi => by simp only [hi, dif_pos]; exact Classical.choose_spec (h i hi)⟩
theorem TyC.bare {N : Nat} : ∀ {s : Sh} {c : List AV}, TyC N s c → ∀ x, x ∈ c → x.cells = [x]
 | .int, c, ⟨n, _, h⟩, x, hx => by subst h; cases List.mem_singleton.1 hx; rfl
 | .str, c, ⟨n, _, h⟩, x, hx => by subst h; cases List.mem_singleton.1 hx; rfl
 | .sl b e, c, ⟨xs, h, _⟩, x, hx => by subst h; cases List.mem_singleton.1 hx; rfl
 | .st b, c, h, x, hx => TyC.bare (s := b) h x hx
 | .emp, c, h, x, hx => by cases (show c = [] from h); cases hx
 | .cat a b, c, ⟨c1, c2, h, h1, h2⟩, x, hx => by
  subst h
  rcases List.mem_append.1 hx with h | h
  ·exact TyC.bare h1 x h
  ·exact TyC.bare h2 x h
section
variable {H : Type} {enc : TypeId × Value → H} {W : World} {N : Nat}
noncomputable abbrev trd (enc : TypeId × Value → H) (W : World) (n : Nat) (t : TypeId) (cs : List Value) := DataW.trod enc Tryz.prog W 0 (fun _ => true) true n t cs
def zCt (W : World) (c : List AV) (cs : List Value) : Prop := c.length = cs.length ∧ ∀ i (h : i < c.length) (h' : i < cs.length), PR W (zLy W) c[i] cs[i]
theorem zFr {n : Nat} {t : TypeId} {cs : List Value} {x : DataW H × List MemPlace} (ht : Sh.ok .str (.inl t)) (h : trd enc W n t cs = some x) (hk : Rows.uptoBulk x.1 ≤ N) : ∃ c, TyC N .str c ∧ zCt W c cs := by
 obtain ⟨b, rfl, rfl, _⟩ := DataW.trod_string ht h
 obtain ⟨l, rfl⟩ := zDC b
 refine ⟨[sV l], ⟨l, ?_, rfl⟩, rfl, fun i h h' => ?_⟩
 ·simp [Rows.uptoBulk] at hk; omega
 ·have : i = 0 := by simp at h; omega
  subst this
  exact .raw _ rfl
end
end Go.Abs

namespace Go.Abs
open Go
theorem Plate.lt_iff (a b : Plate) : a.lt b = true ↔ a.number < b.number ∨ (a.number = b.number ∧ a.letter < b.letter) := by simp [Plate.lt]
theorem House.lt_iff (a b : House) : a.lt b = true ↔ a.street < b.street ∨ (a.street = b.street ∧ (a.plate.number < b.plate.number ∨ (a.plate.number = b.plate.number ∧ a.plate.letter < b.plate.letter))) := by simp [House.lt, Plate.lt]
theorem Plate.lt_irrefl (a : Plate) : ¬ a.lt a = true := by rw [Plate.lt_iff]; omega
theorem House.lt_irrefl (a : House) : ¬ a.lt a = true := by rw [House.lt_iff]; omega
abbrev Strict (l : List House) : Prop := l.Pairwise (fun a b => a.lt b = true)
theorem Strict.nodup {l : List House} (h : Strict l) : l.Nodup := h.imp (fun {a b} hab e => by subst e; exact House.lt_irrefl _ hab)
theorem Valid.row {p : zLY} (v : Valid p) (s : Int) : Sound (U2 p s) := by
 unfold U2
 by_cases h : s.toNat < p.length
 ·exact v.rows _ (i3 h)
 ·simp only [List.getD_eq_getElem?_getD, List.getElem?_eq_none (Nat.le_of_not_lt h), Option.getD_none]
  show Sound []
  exact ⟨by simp, fun x hx => by simp at hx, List.Pairwise.nil⟩
end Go.Abs

namespace Go.Abs
open Go
structure Fit (p : zLY) (c : Change) : Prop where
 kind : 1 ≤ c.kind ∧ c.kind ≤ 7
 street : 0 ≤ c.street ∧ c.street < p.length
 other : c.kind = 4 ∨ c.kind = 7 → 0 ≤ c.other ∧ c.other < p.length ∧ c.other ≠ c.street
 fits : zAu p c = 0
theorem Sound.nodup {l : List Plate} (h : Sound l) : l.Nodup := h.sorted.imp (fun {a b} hab e => by subst e; exact Plate.lt_irrefl _ hab)
section
variable {p : zLY} {c : Change} {x : Plate}
end
end Go.Abs

namespace Go.Abs
open Go
end Go.Abs

namespace Go.Abs
open Go
abbrev w7 (a b : Str) : Bool := Op.bytesLess a b
theorem zAD (a b : UInt8) (x y : Str) : w7 (a :: x) (b :: y) = (decide (a < b) || (a == b && w7 x y)) := rfl
theorem zAE : ∀ a : Str, w7 a a = false
 | [] => rfl
 | a :: x => by rw [zAD, zAE x]; simp
theorem zAF : ∀ {a b c : Str}, w7 a b = true → w7 b c = true → w7 a c = true
 | [], [], _, h, _ => by cases h
 | [], _ :: _, [], _, h => by cases h
 | [], _ :: _, _ :: _, _, _ => rfl
 | _ :: _, [], _, h, _ => by cases h
 | _ :: _, _ :: _, [], _, h => by cases h
 | a :: x, b :: y, c :: z, h1, h2 => by
  rw [zAD, Bool.or_eq_true, Bool.and_eq_true, decide_eq_true_eq, beq_iff_eq] at h1 h2 ⊢
  rw [UInt8.lt_iff_toNat_lt] at h1 h2 ⊢
  rcases h1 with h1 | ⟨rfl, h1⟩
  ·rcases h2 with h2 | ⟨rfl, h2⟩
   ·exact .inl (by omega)
   ·exact .inl h1
  ·rcases h2 with h2 | ⟨rfl, h2⟩
   ·exact .inl h2
   ·exact .inr ⟨rfl, zAF h1 h2⟩
theorem P7 : ∀ {a b : Str}, w7 a b = false → w7 b a = false → a = b
 | [], [], _, _ => rfl
 | [], _ :: _, h, _ => by cases h
 | _ :: _, [], _, h => by cases h
 | a :: x, b :: y, h1, h2 => by
  rw [zAD, Bool.or_eq_false_iff] at h1 h2
  have e1 : ¬ a < b := by simpa using h1.1
  have e2 : ¬ b < a := by simpa using h2.1
  rw [UInt8.lt_iff_toNat_lt] at e1 e2
  have e : a = b := UInt8.toNat_inj.1 (by omega)
  subst e
  have g1 : w7 x y = false := by simpa using h1.2
  have g2 : w7 y x = false := by simpa using h2.2
  rw [P7 g1 g2]
theorem zAC {a b : Str} (h : w7 a b = true) : w7 b a = false := by
 cases e : w7 b a with
 | false => rfl
 | true => have := zAF h e; rw [zAE] at this; cases this
def zLS (a b : Str) : Int := if w7 a b = true then -1 else if w7 b a = true then 1 else 0
theorem cmpS_neg {a b : Str} : zLS a b < 0 ↔ w7 a b = true := by
 unfold zLS
 by_cases h : w7 a b = true
 ·rw [if_pos h]; simp [h]
 ·rw [if_neg h]
  split <;> simp [h]
theorem cmpS_zero {a b : Str} : zLS a b = 0 ↔ a = b := by
 unfold zLS
 constructor
 ·intro h
  by_cases h1 : w7 a b = true
  ·rw [if_pos h1] at h; cases h
  ·rw [if_neg h1] at h
   by_cases h2 : w7 b a = true
   ·rw [if_pos h2] at h; cases h
   ·exact P7 (by simpa using h1) (by simpa using h2)
 ·rintro rfl
  simp [zAE]
def y7 (c : UInt8) : Bool := decide (97 ≤ c.toNat) && decide (c.toNat ≤ 122)
def x5 (c : UInt8) : Bool := decide (65 ≤ c.toNat) && decide (c.toNat ≤ 90) && !(c == 72 || c == 81 || c == 87)
def x9 (c : UInt8) : Int := if y7 c = true then 1 else if x5 c = true then 2 else 0
def y5 (c : UInt8) : Str := if c = 67 then [99, 104] else if c = 74 then [106, 117] else if c = 88 then [115, 104] else if c = 89 then [106, 97] else if 65 ≤ c.toNat ∧ c.toNat ≤ 90 then [UInt8.ofNat (c.toNat + 32)] else [c]
def zLO (s : Str) : Str := s.flatMap y5
def o9 (s : Str) : Bool := s.all y7 || s.all x5
def y9 (s : Str) : Int := if s.length = 0 then 7 else if 6 < s.length then 10 else if o9 s = true then 0 else 2
structure ValidN (s : Str) : Prop where
 ne : 0 < s.length
 len : s.length ≤ 6
 form : o9 s = true
theorem checkN_zero {s : Str} : y9 s = 0 ↔ ValidN s := by
 unfold y9
 constructor
 ·intro h
  split at h
  ·cases h
  ·split at h
   ·cases h
   ·split at h
    ·rename_i h1 h2 h3; exact ⟨by omega, by omega, h3⟩
    ·cases h
 ·intro v
  have h1 := v.ne
  have h2 := v.len
  rw [if_neg (by omega), if_neg (by omega), if_pos v.form]
theorem zGP {c : UInt8} (h : y7 c = true) : y5 c = [c] := by
 unfold y7 at h
 rw [Bool.and_eq_true, decide_eq_true_eq, decide_eq_true_eq] at h
 have ne : ∀ d : UInt8, d.toNat < 97 → ¬ c = d := fun d hd e => by subst e; omega
 unfold y5
 rw [if_neg (ne 67 (by decide)), if_neg (ne 74 (by decide)), if_neg (ne 88 (by decide)), if_neg (ne 89 (by decide)), if_neg (by omega)]
theorem D7 : ∀ {s : Str}, s.all y7 = true → zLO s = s
 | [], _ => rfl
 | c :: r, h => by
  rw [List.all_cons, Bool.and_eq_true] at h
  show y5 c ++ zLO r = _
  rw [zGP h.1, D7 h.2]; rfl
theorem Q7 (c : UInt8) : 1 ≤ (y5 c).length ∧ (y5 c).length ≤ 2 := by
 unfold y5
 repeat' split
 all_goals simp
theorem V5 : ∀ s : Str, s.length ≤ (zLO s).length ∧ (zLO s).length ≤ 2 * s.length
 | [] => by simp [zLO]
 | c :: r => by
  have h1 := Q7 c
  have h2 := V5 r
  have e : zLO (c :: r) = y5 c ++ zLO r := rfl
  rw [e, List.length_append, List.length_cons]
  omega
theorem zGQ {c : UInt8} (h : x5 c = true) : ∀ d, d ∈ y5 c → y7 d = true := by
 unfold x5 at h
 rw [Bool.and_eq_true, Bool.and_eq_true, decide_eq_true_eq, decide_eq_true_eq] at h
 obtain ⟨⟨h1, h2⟩, _⟩ := h
 unfold y5
 split
 ·decide
 ·split
  ·decide
  ·split
   ·decide
   ·split
    ·decide
    ·rw [if_pos ⟨h1, h2⟩]
     intro d hd
     rw [List.mem_singleton.1 hd]
     unfold y7
     have : (UInt8.ofNat (c.toNat + 32)).toNat = c.toNat + 32 := UInt8.toNat_ofNat_of_lt' (by show c.toNat + 32 < 256; omega)
     rw [this]
     simp; omega
theorem zE3 {s : Str} (h : o9 s = true) : (zLO s).all y7 = true := by
 unfold o9 at h
 rw [Bool.or_eq_true] at h
 rcases h with h | h
 ·rw [D7 h]; exact h
 ·rw [List.all_eq_true] at h ⊢
  intro d hd
  obtain ⟨c, hc, hd⟩ := List.mem_flatMap.1 hd
  exact zGQ (h c hc) d hd
def o8 (s : Str) : Int := x9 (s.getD 0 0)
def o5 (a b : Str) : Int := orI (zLS (zLO a) (zLO b)) (zLc (o8 a) (o8 b))
def zAW (a b : Str) : Bool := if zLO a = zLO b then y7 (a.getD 0 0) && !y7 (b.getD 0 0) else w7 (zLO a) (zLO b)
end Go.Abs

namespace Go.Abs
open Go
structure Rule where
 src : Str
 dst : Str
 deriving DecidableEq, Inhabited
@[reducible] def Rule.enc (r : Rule) : AV := .agg [sV r.src, sV r.dst]
def x8 (s : Str) (lo hi : Nat) : Bool := decide (lo ≤ s.length) && (decide (s.length ≤ hi) && s.all y7)
def Rule.ok (r : Rule) : Bool := x8 r.src 1 2 && (x8 r.dst 0 2 && !(decide (r.src = r.dst)))
def l4 (l : List Rule) : Int := if 4 < l.length then 6 else if l.all Rule.ok = true then 0 else 2
def r4 : List Str → Int
 | [] => 0
 | s :: r => if y9 s = 0 then r4 r else y9 s
def p6 (l : List Str) : Int := if 6 < l.length then 6 else r4 l
def Q5 (k a b : Str) (i : Nat) : List Str := (List.range' i (k.length + 1 - i)).flatMap fun i => if a.isPrefixOf (k.drop i) = true ∧ x8 (k.take i ++ b ++ k.drop (i + a.length)) 1 12 = true then [k.take i ++ b ++ k.drop (i + a.length)] else []
def l3 (k a b : Str) : List Str := Q5 k a b 0
def p4 (l : List Rule) (k : Str) : List Str := l.flatMap fun r => l3 k r.src r.dst ++ l3 k r.dst r.src
def Z9 (met : List Str) : List Str → List Str
 | [] => []
 | x :: r => if x ∈ met then Z9 met r else x :: Z9 (x :: met) r
theorem C7 : ∀ (l met : List Str) (x : Str), x ∈ Z9 met l ↔ x ∈ l ∧ x ∉ met
 | [], met, x => by simp [Z9]
 | y :: r, met, x => by
  rw [Z9]
  split
  ·rename_i h
   rw [C7 r met x]
   constructor
   ·rintro ⟨h1, h2⟩; exact ⟨by simp [h1], h2⟩
   ·rintro ⟨h1, h2⟩
    refine ⟨?_, h2⟩
    rcases List.mem_cons.1 h1 with rfl | h1
    ·exact absurd h h2
    ·exact h1
  ·rename_i h
   rw [List.mem_cons, C7 r _ x]
   simp only [List.mem_cons, not_or]
   constructor
   ·rintro (rfl | ⟨h1, h2, h3⟩)
    ·exact ⟨.inl rfl, h⟩
    ·exact ⟨.inr h1, h3⟩
   ·rintro ⟨h1, h2⟩
    by_cases e : x = y
    ·exact .inl e
    ·exact .inr ⟨h1.resolve_left e, e, h2⟩
def J0 (l : List Str) : List Str := Z9 [] l
theorem mem_dedupN {l : List Str} {x : Str} : x ∈ J0 l ↔ x ∈ l := by unfold J0; rw [C7]; simp
def p5 (l : List Rule) (to : Str) : Nat → Str → List Str → List (List Str)
 | 0, now, pre => if now = to then [pre ++ [now]] else []
 | n + 1, now, pre => (J0 (p4 l now)).flatMap fun s => p5 l to n s (pre ++ [now])
inductive IsChain (l : List Rule) (to : Str) : Nat → Str → List Str → Prop
 | nil : IsChain l to 0 to [to]
 | cons {n : Nat} {s s' : Str} {c : List Str} : s' ∈ p4 l s → IsChain l to n s' c → IsChain l to (n + 1) s (s :: c)
theorem mem_chainsN {l : List Rule} {to : Str} : ∀ {n : Nat} {s : Str} {pre c : List Str}, c ∈ p5 l to n s pre ↔ ∃ d, c = pre ++ d ∧ IsChain l to n s d
 | 0, s, pre, c => by
  rw [p5]
  constructor
  ·intro h
   split at h
   ·rename_i e
    subst e
    exact ⟨[s], List.mem_singleton.1 h, .nil⟩
   ·cases h
  ·rintro ⟨d, rfl, h⟩
   cases h
   simp
 | n + 1, s, pre, c => by
  rw [p5, List.mem_flatMap]
  constructor
  ·rintro ⟨s', h1, h2⟩
   obtain ⟨d, rfl, h⟩ := mem_chainsN.1 h2
   exact ⟨s :: d, by simp, .cons (mem_dedupN.1 h1) h⟩
  ·rintro ⟨d, rfl, h⟩
   cases h with
   | cons h1 h2 => exact ⟨_, mem_dedupN.2 h1, mem_chainsN.2 ⟨_, by simp, h2⟩⟩
def zLU : List Str → List Str → Int
 | [], [] => 0
 | [], _ :: _ => -1
 | _ :: _, [] => 1
 | a :: x, b :: y => if zLS a b = 0 then zLU x y else zLS a b
theorem K9 (a b : Str) : zLS b a = -zLS a b := by
 unfold zLS
 cases h : w7 a b with
 | true => rw [zAC h]; simp
 | false => cases h2 : w7 b a <;> simp
def x4 {α : Type} (cmp : α → α → Int) : Option α → List α → Option α
 | b, [] => b
 | none, x :: r => x4 cmp (some x) r
 | some y, x :: r => if cmp x y < 0 then x4 cmp (some x) r else x4 cmp (some y) r
def d7 {α : Type} (cmp : α → α → Int) (l : List α) : Option α := x4 cmp none l
def U7 {α : Type} (cmp : α → α → Int) (S : α → Prop) (b : α) : Prop := S b ∧ ∀ x, S x → ¬ cmp x b < 0
section
variable {α : Type} {cmp : α → α → Int} (tr : ∀ x y z, ¬ cmp x y < 0 → ¬ cmp y z < 0 → ¬ cmp x z < 0) (asy : ∀ x y, cmp x y < 0 → ¬ cmp y x < 0)
include tr asy
theorem E3 : ∀ (l : List α) (y : α), ∃ b, x4 cmp (some y) l = some b ∧ U7 cmp (fun x => x = y ∨ x ∈ l) b
 | [], y => ⟨y, rfl, .inl rfl, fun x hx => by
  rcases hx with rfl | hx
  ·exact fun h => asy _ _ h h
  ·cases hx⟩
 | x :: r, y => by
  rw [x4]
  split
  ·rename_i h
   obtain ⟨b, h1, h2, h3⟩ := E3 r x
   refine ⟨b, h1, ?_, fun z hz => ?_⟩
   ·rcases h2 with h2 | h2
    ·exact .inr (by simp [h2])
    ·exact .inr (by simp [h2])
   ·rcases hz with rfl | hz
    ·exact tr _ _ _ (asy _ _ h) (h3 x (.inl rfl))
    ·rcases List.mem_cons.1 hz with rfl | hz
     ·exact h3 _ (.inl rfl)
     ·exact h3 _ (.inr hz)
  ·rename_i h
   obtain ⟨b, h1, h2, h3⟩ := E3 r y
   refine ⟨b, h1, ?_, fun z hz => ?_⟩
   ·rcases h2 with h2 | h2
    ·exact .inl h2
    ·exact .inr (by simp [h2])
   ·rcases hz with rfl | hz
    ·exact h3 _ (.inl rfl)
    ·rcases List.mem_cons.1 hz with rfl | hz
     ·exact tr _ _ _ h (h3 y (.inl rfl))
     ·exact h3 _ (.inr hz)
theorem E4 {l : List α} (hl : l ≠ []) : ∃ b, d7 cmp l = some b ∧ U7 cmp (· ∈ l) b := by
 cases l with
 | nil => exact absurd rfl hl
 | cons x r =>
  obtain ⟨b, h1, h2, h3⟩ := E3 tr asy r x
  refine ⟨b, h1, ?_, fun z hz => h3 z ?_⟩
  ·rcases h2 with rfl | h2
   ·simp
   ·simp [h2]
  ·exact List.mem_cons.1 hz
end
theorem zDw {α : Type} {cmp : α → α → Int} : d7 cmp ([] : List α) = none := rfl
theorem zMZ {x y z : Str} (h1 : ¬ zLS x y < 0) (h2 : ¬ zLS y z < 0) : ¬ zLS x z < 0 := by
 rw [cmpS_neg] at *
 intro h
 by_cases e : w7 y x = true
 ·exact h2 (zAF e h)
 ·have : x = y := P7 (by simpa using h1) (by simpa using e)
  subst this; exact h2 h
def Z8 (l : List Rule) (n : Nat) (k to : Str) : Option (List Str) := d7 zLU (p5 l to n k [])
def zC7 (s : Str) : Option (List Str) → Str → Option (List Str) → Option (List Str)
 | best, _, none => best
 | none, _, some rest => some (s :: rest)
 | some b, x, some rest => if w7 x (b.getD 1 []) = true then some (s :: rest) else some b
def zDN (l : List Rule) (to : Str) : Nat → Str → Option (List Str)
 | 0, s => if s = to then some [s] else none
 | n + 1, s => (p4 l s).foldl (fun best x => zC7 s best x (zDN l to n x)) none
theorem IsChain.head {l : List Rule} {to : Str} {n : Nat} {s : Str} {c : List Str} (h : IsChain l to n s c) : ∃ r, c = s :: r := by
 cases h with
 | nil => exact ⟨_, rfl⟩
 | cons _ _ => exact ⟨_, rfl⟩
def zMi (l : List Rule) (to : Str) (n : Nat) (s : Str) (xs : List Str) (c : List Str) : Prop := ∃ x r, x ∈ xs ∧ c = s :: r ∧ IsChain l to n x r
end Go.Abs

namespace Go.Abs
open Go
def zLu : Str → Str → Bool
 | [], _ => true
 | _ :: _, [] => false
 | a :: x, b :: y => if a = b then zLu x y else zLu (a :: x) y
def Z5 (k whole : Str) : Bool := decide (k.length < whole.length) && (k.getD 0 0 == whole.getD 0 0 && zLu k whole)
def i5 (k : Str) (l : List Str) (own : Str) : Bool := l.any fun s => !(decide (zLO s = own)) && Z5 k (zLO s)
def P9 : Str → List Str
 | [] => [[]]
 | a :: r => (P9 r).map (a :: ·) ++ P9 r
theorem mem_subsL : ∀ {k s : Str}, s ∈ P9 k ↔ s.Sublist k
 | [], s => by simp [P9]
 | a :: r, s => by
  rw [P9, List.mem_append, List.mem_map]
  constructor
  ·rintro (⟨t, ht, rfl⟩ | h)
   ·exact (mem_subsL.1 ht).cons_cons a
   ·exact (mem_subsL.1 h).cons a
  ·intro h
   cases h with
   | cons _ h => exact .inr (mem_subsL.2 h)
   | cons_cons _ h => exact .inl ⟨_, mem_subsL.2 h, rfl⟩
def Z7 (k s : Str) : Prop := ∃ t : Str, t.Sublist (k.drop 1) ∧ s = k.take 1 ++ t ∧ s.length < k.length
def Y9 (k : Str) : List Str := ((P9 (k.drop 1)).map (k.take 1 ++ ·)).filter fun s => decide (s.length < k.length)
theorem zFP {k s : Str} : s ∈ Y9 k ↔ Z7 k s := by
 unfold Y9 Z7
 rw [List.mem_filter, List.mem_map, decide_eq_true_eq]
 constructor
 ·rintro ⟨⟨t, ht, rfl⟩, h⟩; exact ⟨t, mem_subsL.1 ht, rfl, h⟩
 ·rintro ⟨t, ht, rfl, h⟩; exact ⟨⟨t, mem_subsL.2 ht, rfl⟩, h⟩
def zLT (up : Bool) (a b : Str) : Int := orI (if up = true then (a.length : Int) - b.length else (b.length : Int) - a.length) (zLS a b)
theorem F5 {up : Bool} {a b : Str} : zLT up a b < 0 ↔ (if up = true then a.length < b.length else b.length < a.length) ∨ (a.length = b.length ∧ w7 a b = true) := by
 unfold zLT orI
 cases up
 ·simp only [Bool.false_eq_true, if_false]
  by_cases h : (b.length : Int) - a.length = 0
  ·rw [if_pos h, cmpS_neg]
   constructor
   ·intro k; exact .inr ⟨by omega, k⟩
   ·rintro (k | k)
    ·omega
    ·exact k.2
  ·rw [if_neg h]
   constructor
   ·intro k; exact .inl (by omega)
   ·rintro (k | k)
    ·omega
    ·omega
 ·simp only [if_true]
  by_cases h : (a.length : Int) - b.length = 0
  ·rw [if_pos h, cmpS_neg]
   constructor
   ·intro k; exact .inr ⟨by omega, k⟩
   ·rintro (k | k)
    ·omega
    ·exact k.2
  ·rw [if_neg h]
   constructor
   ·intro k; exact .inl (by omega)
   ·rintro (k | k)
    ·omega
    ·omega
theorem zCb {x y z : Str} (h1 : ¬ w7 x y = true) (h2 : ¬ w7 y z = true) : ¬ w7 x z = true := by
 rw [← cmpS_neg] at *; exact zMZ h1 h2
theorem zMS {up : Bool} {x y z : Str} (h1 : ¬ zLT up x y < 0) (h2 : ¬ zLT up y z < 0) : ¬ zLT up x z < 0 := by
 rw [F5] at *
 cases up
 ·simp only [Bool.false_eq_true, if_false, not_or, not_and] at *
  refine ⟨by omega, fun e => ?_⟩
  exact zCb (h1.2 (by omega)) (h2.2 (by omega))
 ·simp only [if_true, not_or, not_and] at *
  refine ⟨by omega, fun e => ?_⟩
  exact zCb (h1.2 (by omega)) (h2.2 (by omega))
theorem G7 {up : Bool} (x y : Str) (h : zLT up x y < 0) : ¬ zLT up y x < 0 := by
 rw [F5] at *
 cases up
 ·simp only [Bool.false_eq_true, if_false, not_or, not_and] at *
  rcases h with h | h
  ·exact ⟨by omega, fun e => by omega⟩
  ·exact ⟨by omega, fun _ => by rw [zAC h.2]; simp⟩
 ·simp only [if_true, not_or, not_and] at *
  rcases h with h | h
  ·exact ⟨by omega, fun e => by omega⟩
  ·exact ⟨by omega, fun _ => by rw [zAC h.2]; simp⟩
theorem zBT {up : Bool} {S : Str → Prop} {a b : Str} (ha : U7 (zLT up) S a) (hb : U7 (zLT up) S b) : a = b := by
 have h1 := ha.2 b hb.1
 have h2 := hb.2 a ha.1
 rw [F5] at h1 h2
 have hl : a.length = b.length := by
  cases up
  ·simp only [Bool.false_eq_true, if_false, not_or] at h1 h2; omega
  ·simp only [if_true, not_or] at h1 h2; omega
 simp only [not_or, not_and] at h1 h2
 exact P7 (by simpa using h2.2 hl) (by simpa using h1.2 hl.symm)
def U8 (l : List Str) (own : Str) (most : Int) (s : Str) : Prop := Z7 own s ∧ (s.length : Int) ≤ most ∧ i5 s l own = false
def zLb (l : List Str) (own : Str) (most : Int) (up : Bool) : Option Str := d7 (zLT up) ((Y9 own).filter fun s => decide ((s.length : Int) ≤ most) && !i5 s l own)
theorem mem_ok {l : List Str} {own : Str} {most : Int} {s : Str} : s ∈ (Y9 own).filter (fun s => decide ((s.length : Int) ≤ most) && !i5 s l own) ↔ U8 l own most s := by
 unfold U8
 rw [List.mem_filter, zFP, Bool.and_eq_true, decide_eq_true_eq, Bool.not_eq_true']
theorem zDg {l : List Str} {own : Str} {most : Int} {up : Bool} {L : List Str} (h : ∀ s, s ∈ L ↔ U8 l own most s) : d7 (zLT up) L = zLb l own most up := by
  have hm : ∀ s, s ∈ L ↔ s ∈ (Y9 own).filter (fun s => decide ((s.length : Int) ≤ most) && !i5 s l own) := fun s => (h s).trans mem_ok.symm
  unfold zLb
  by_cases e : L = []
  · have e2 : (Y9 own).filter (fun s => decide ((s.length : Int) ≤ most) && !i5 s l own) = [] := by
      rw [List.eq_nil_iff_forall_not_mem]
      intro x hx
      have := (hm x).2 hx
      rw [e] at this; cases this
    rw [e, e2]
  · have e2 : (Y9 own).filter (fun s => decide ((s.length : Int) ≤ most) && !i5 s l own) ≠ [] := fun k => e (by
      rw [List.eq_nil_iff_forall_not_mem]
      intro x hx
      have := (hm x).1 hx
      rw [k] at this; cases this)
    obtain ⟨a, a1, a2⟩ := E4 (cmp := zLT up) (fun _ _ _ => zMS) G7 e
    obtain ⟨b, b1, b2⟩ := E4 (cmp := zLT up) (fun _ _ _ => zMS) G7 e2
    rw [a1, b1, zBT a2 ⟨(hm b).2 b2.1, fun x hx => b2.2 x ((hm x).1 hx)⟩]
theorem cutN_some {l : List Str} {own : Str} {most : Int} {up : Bool} {s : Str} : zLb l own most up = some s ↔ U7 (zLT up) (U8 l own most) s := by
 unfold zLb
 by_cases e : (Y9 own).filter (fun s => decide ((s.length : Int) ≤ most) && !i5 s l own) = []
 ·rw [e, zDw]
  constructor
  ·intro h; cases h
  ·intro h
   have := mem_ok.2 h.1
   rw [e] at this; cases this
 ·obtain ⟨b, b1, b2⟩ := E4 (cmp := zLT up) (fun _ _ _ => zMS) G7 e
  have hb : U7 (zLT up) (U8 l own most) b := ⟨mem_ok.1 b2.1, fun x hx => b2.2 x (mem_ok.2 hx)⟩
  rw [b1]
  constructor
  ·intro h; cases h; exact hb
  ·intro h; rw [zBT h hb]
def B8 : Nat → Str → List Str
 | 0, _ => [[]]
 | n + 1, s => match s with
  | [] => []
  | a :: r => (B8 n r).map (a :: ·) ++ B8 (n + 1) r
 termination_by n s => (n, s.length)
def zIv (l : List Str) (own : Str) (many : Nat) : Option Str :=
 if own.length ≤ many then none else d7 zLS (((B8 (many - 1) (own.drop 1)).map (own.take 1 ++ ·)).filter fun s => !i5 s l own)
end Go.Abs

namespace Go.Abs
open Go
theorem zE0 {own s : Str} (h : Z7 own s) : 1 ≤ s.length := by
 obtain ⟨t, ht, rfl, hl⟩ := h
 cases own with
 | nil => simp at hl
 | cons a r => simp
def zIK (l : List Str) (own : Str) (m : Nat) (s : Str) : Prop := Z7 own s ∧ s.length = m ∧ i5 s l own = false
theorem zAt {α β : Type} {f : α → Option β} {b : β} : ∀ {L : List α}, u0 f L = some b → ∃ pre x post, L = pre ++ x :: post ∧ f x = some b ∧ ∀ y, y ∈ pre → f y = none
 | [], h => by cases h
 | y :: r, h => by
  rw [u0] at h
  split at h
  ·rename_i e; cases h; exact ⟨[], y, r, rfl, e, fun _ h => by cases h⟩
  ·rename_i e
   obtain ⟨pre, x, post, rfl, h1, h2⟩ := zAt h
   exact ⟨y :: pre, x, post, rfl, h1, fun z hz => by
    rcases List.mem_cons.1 hz with rfl | hz
    ·exact e
    ·exact h2 z hz⟩
def v8 (l : List Str) (i : Int) : Str := zLO (l.getD i.toNat [])
def j3 (l : List Str) (i : Int) : Int := if p6 l = 0 then if i < 0 ∨ (l.length : Int) ≤ i then 3 else 0 else p6 l
def zMJ (s : Str) : Str := s ++ [46]
def A5 (l : List Str) (i : Int) : Int := if j3 l i = 0 then if (zLb l (v8 l i) 12 true).isSome = true then 0 else 11 else j3 l i
def A6 (l : List Str) (i : Int) : Str := if j3 l i = 0 then ((zLb l (v8 l i) 12 true).map zMJ).getD [] else []
def E5 (l : List Str) (i w : Int) : Int := if j3 l i = 0 then if w < 1 then 1 else if ((v8 l i).length : Int) ≤ w then 0 else if (zLb l (v8 l i) (w - 1) false).isSome = true then 0 else 11 else j3 l i
def zMR (l : List Str) (i w : Int) : Str := if j3 l i = 0 then if w < 1 then [] else if ((v8 l i).length : Int) ≤ w then v8 l i else ((zLb l (v8 l i) (w - 1) false).map zMJ).getD [] else []
def zDj : Nat → List Nat
 | 0 => []
 | n + 1 => (n + 1) :: zDj n
end Go.Abs

namespace Go.Abs
open Go
def otherL : List UInt8 := [65, 66, 67, 68, 69, 70, 71, 73, 74, 75, 76, 77, 78, 79, 80, 82, 83, 84, 85, 86, 88, 89, 90]
theorem mem_otherL {c : UInt8} : c ∈ otherL ↔ x5 c = true := by
 unfold otherL x5
 constructor
 ·intro h
  simp only [List.mem_cons, List.not_mem_nil, or_false] at h
  rcases h with rfl | rfl | rfl | rfl | rfl | rfl | rfl | rfl | rfl | rfl | rfl | rfl | rfl | rfl | rfl | rfl | rfl | rfl | rfl | rfl | rfl | rfl | rfl <;> decide
 ·intro h
  rw [Bool.and_eq_true, Bool.and_eq_true, decide_eq_true_eq, decide_eq_true_eq, Bool.not_eq_true', Bool.or_eq_false_iff, Bool.or_eq_false_iff, beq_eq_false_iff_ne, beq_eq_false_iff_ne, beq_eq_false_iff_ne] at h
  obtain ⟨⟨h1, h2⟩, ⟨h3, h4⟩, h5⟩ := h
  have key : ∀ n : Nat, 65 ≤ n → n ≤ 90 → n ≠ 72 → n ≠ 81 → n ≠ 87 → UInt8.ofNat n ∈ otherL := by
   intro n a b c d e
   have : n = 65 ∨ n = 66 ∨ n = 67 ∨ n = 68 ∨ n = 69 ∨ n = 70 ∨ n = 71 ∨ n = 73 ∨ n = 74 ∨ n = 75 ∨ n = 76 ∨ n = 77 ∨ n = 78 ∨ n = 79 ∨ n = 80 ∨ n = 82 ∨ n = 83 ∨ n = 84 ∨ n = 85 ∨ n = 86 ∨ n = 88 ∨ n = 89 ∨ n = 90 := by omega
   rcases this with rfl | rfl | rfl | rfl | rfl | rfl | rfl | rfl | rfl | rfl | rfl | rfl | rfl | rfl | rfl | rfl | rfl | rfl | rfl | rfl | rfl | rfl | rfl <;> decide
  have ne : ∀ d : UInt8, c ≠ d → c.toNat ≠ d.toNat := fun d hd e => hd (UInt8.toNat_inj.1 e)
  have := key c.toNat h1 h2 (ne 72 h3) (ne 81 h4) (ne 87 h5)
  rw [UInt8.ofNat_toNat] at this
  exact this
def r6 : Nat → Str → Option Str
 | _, [] => some []
 | 0, _ :: _ => none
 | n + 1, a :: r => u0 (fun c => if (y5 c).isPrefixOf (a :: r) = true then (r6 n ((a :: r).drop (y5 c).length)).map (c :: ·) else none) otherL
def J1 (k : Str) : Option Str := r6 k.length k
def u9 : Nat → Str → List Str
 | _, [] => [[]]
 | 0, _ :: _ => []
 | n + 1, a :: r => otherL.flatMap fun c => if (y5 c).isPrefixOf (a :: r) = true then (u9 n ((a :: r).drop (y5 c).length)).map (c :: ·) else []
theorem zA8 {α β : Type} (f : α → List β) : ∀ L : List α, (L.flatMap f).head? = u0 (fun x => (f x).head?) L
 | [] => rfl
 | x :: r => by
  rw [List.flatMap_cons, u0]
  cases h : f x with
  | nil => simp only [List.nil_append, List.head?_nil]; exact zA8 f r
  | cons y t => simp
theorem zAr {α β : Type} {f g : α → Option β} : ∀ {L : List α}, (∀ x, x ∈ L → f x = g x) → u0 f L = u0 g L
 | [], _ => rfl
 | x :: r, h => by
  rw [u0, u0, h x (by simp), zAr (fun y hy => h y (by simp [hy]))]
theorem zBu : ∀ (n : Nat) (k : Str), (u9 n k).head? = r6 n k
 | _, [] => by rw [u9, r6]; rfl
 | 0, _ :: _ => rfl
 | n + 1, a :: r => by
  rw [u9, r6, zA8]
  refine zAr (fun c _ => ?_)
  split
  ·rw [← zBu n]
   cases u9 n ((a :: r).drop (y5 c).length) <;> rfl
  ·rfl
def R4 (s : Str) : Int := if y9 s = 0 then if (J1 (zLO s)).isSome = true then 0 else 11 else y9 s
def R5 (s : Str) : Str := if y9 s = 0 then (J1 (zLO s)).getD [] else []
def f7 (r : List Rule) (a b : Str) : Int := if l4 r = 0 then if y9 a = 0 then y9 b else y9 a else l4 r
def O8 (r : List Rule) (a b : Str) : Option (List Str) := u0 (fun n => Z8 r n (zLO a) (zLO b)) [0, 1, 2]
def j8 (r : List Rule) (a b : Str) : Int := if f7 r a b = 0 then if (O8 r a b).isSome = true then 0 else 11 else f7 r a b
def zDO (r : List Rule) (a b : Str) : List Str := if f7 r a b = 0 then (O8 r a b).getD [] else []
def zCi (r : List Rule) (a b : Str) : Int := if j8 r a b = 0 then ((zDO r a b).length : Int) - 1 else 0
def zLJ (r : List Rule) (a b : Str) : Int := if j8 r a b = 11 then 2 else if j8 r a b = 0 then (if zCi r a b = 0 then 1 else 3) else 0
def zLI (r : List Rule) (a b : Str) : Int := if j8 r a b = 11 then 0 else j8 r a b
theorem zDP {r : List Rule} {to : Str} {n : Nat} {s : Str} {c : List Str} (h : IsChain r to n s c) : c.length = n + 1 := by
 induction h with
 | nil => rfl
 | cons _ _ ih => rw [List.length_cons, ih]
def I4 (r : List Rule) (s : Str) (l : List Str) (n : Int) (i : Nat) : List Int := (List.range' i (l.length - i)).flatMap fun (i : Nat) => if j8 r s (l.getD i []) = 0 ∧ zCi r s (l.getD i []) = n then [(i : Int)] else []
def zKJ (r : List Rule) (s : Str) (l : List Str) : List Int := I4 r s l 0 0 ++ I4 r s l 1 0 ++ I4 r s l 2 0
def zKI (r : List Rule) (s : Str) (l : List Str) : Int := if l4 r = 0 then if y9 s = 0 then p6 l else y9 s else l4 r
end Go.Abs

namespace Go.Abs
open Go
structure Dice where
 list : List Int
 at_ : Nat
 seed : Int
 deriving Inhabited
abbrev uV (n : Int) : AV := .raw (.int .u64 n)
def p7 (d : Dice) : AObj := .box [.list (d.list.map iV), iV d.at_, uV d.seed]
def b8 (a b : Int) : Int := IntKind.u64.wrap (BitVec.ofInt IntKind.u64.bits a ^^^ BitVec.ofInt IntKind.u64.bits b).toNat
def L5 (a : Int) (k : Nat) : Int := IntKind.u64.wrap (a * 2 ^ (min k IntKind.u64.bits))
def j6 (a : Int) (k : Nat) : Int := a.fdiv (2 ^ (min k IntKind.u64.bits))
def zMT (s : Int) : Int := b8 s (L5 s 13)
def zMU (s : Int) : Int := b8 s (j6 s 7)
def zMV (s : Int) : Int := b8 s (L5 s 17)
def M3 (s : Int) : Int := zMV (zMU (zMT s))
def zLt (d : Dice) : Int := if d.at_ < d.list.length then IntKind.u64.wrap (M3 d.seed + IntKind.u64.wrap (IntKind.u64.wrap (d.list.getD d.at_ default) * 13787848793156543929)) else M3 d.seed
def zLn (d : Dice) : Dice := ⟨d.list, if d.at_ < d.list.length then d.at_ + 1 else d.at_, zLt d⟩
def zMG (n : Int) : Int := IntKind.u64.wrap (b8 n (j6 n 30) * 10723151780598845931)
def zLp (d : Dice) : Int := b8 (zMG (zLt d)) (j6 (zMG (zLt d)) 31)
theorem zHw (n : Int) : 0 ≤ IntKind.u64.wrap n ∧ IntKind.u64.wrap n < 18446744073709551616 := by
 rw [IntKind.wrap_u64]; omega
theorem zFq (d : Dice) : 0 ≤ zLp d ∧ zLp d < 18446744073709551616 := zHw _
def toN (n : Int) (d : Dice) : Int := if n < 1 then 0 else (j6 (zLp d) 16).tmod (n + 1)
def toD (n : Int) (d : Dice) : Dice := if n < 1 then d else zLn d
theorem zGK (n : Int) (h0 : 0 ≤ n) : 0 ≤ j6 n 16 := by
 unfold j6
 rw [Int.fdiv_eq_ediv_of_nonneg _ (by decide)]
 exact Int.ediv_nonneg h0 (by decide)
theorem zCg (n : Int) (d : Dice) : 0 ≤ toN n d ∧ (toN n d ≤ n ∨ toN n d = 0) := by
 unfold toN
 split
 ·omega
 ·have h := zGK _ (zFq d).1
  rw [Int.tmod_eq_emod_of_nonneg h]
  have h1 := Int.emod_nonneg (j6 (zLp d) 16) (b := n + 1) (by omega)
  have h2 := Int.emod_lt_of_pos (j6 (zLp d) 16) (b := n + 1) (by omega)
  omega
theorem O0 {n : Int} (h : 0 ≤ n) (d : Dice) : 0 ≤ toN n d ∧ toN n d ≤ n := by
 have := zCg n d; omega
def d8 (lo hi : Int) (d : Dice) : Int := lo + toN (hi - lo) d
def Q0 (lo hi : Int) (d : Dice) : Dice := toD (hi - lo) d
theorem E7 {lo hi : Int} (h : lo ≤ hi) (d : Dice) : lo ≤ d8 lo hi d ∧ d8 lo hi d ≤ hi := by
 have := O0 (n := hi - lo) (by omega) d
 unfold d8; omega
def V8 (k : Int) (d : Dice) : Bool := toN (k - 1) d == 0
def f5 (k : Int) (d : Dice) : Dice := toD (k - 1) d
end Go.Abs

namespace Go.Abs
open Go
theorem mem_replacedN {k a b s : Str} : s ∈ l3 k a b ↔ ∃ i, i ≤ k.length ∧ a.isPrefixOf (k.drop i) = true ∧ x8 s 1 12 = true ∧ s = k.take i ++ b ++ k.drop (i + a.length) := by
 unfold l3 Q5
 rw [List.mem_flatMap]
 constructor
 ·rintro ⟨i, hi, h⟩
  rw [List.mem_range'_1] at hi
  split at h
  ·rename_i hc
   have := List.mem_singleton.1 h
   subst this
   exact ⟨i, by omega, hc.1, hc.2, rfl⟩
  ·cases h
 ·rintro ⟨i, hi, h1, h2, rfl⟩
  refine ⟨i, by rw [List.mem_range'_1]; omega, ?_⟩
  rw [if_pos ⟨h1, h2⟩]
  simp
theorem B9 {a x : Str} (h : a.isPrefixOf x = true) : x = a ++ x.drop a.length := by
 obtain ⟨t, rfl⟩ := List.isPrefixOf_iff_prefix.1 h
 simp
theorem zB3 {k a b s : Str} (hk : x8 k 1 12 = true) (h : s ∈ l3 k a b) : k ∈ l3 s b a := by
  obtain ⟨i, hi, h1, h2, rfl⟩ := mem_replacedN.1 h
  have e := B9 h1
  have hti : (k.take i).length = i := by rw [List.length_take]; omega
  refine mem_replacedN.2 ⟨i, by simp; omega, ?_, hk, ?_⟩
  · rw [List.append_assoc, List.drop_append_of_le_length (by omega), List.drop_of_length_le (by omega : (k.take i).length ≤ i), List.nil_append]
    exact List.isPrefixOf_iff_prefix.2 ⟨_, rfl⟩
  · have e1 : (k.take i ++ b ++ k.drop (i + a.length)).take i = k.take i := by
      rw [List.append_assoc, List.take_append_of_le_length (by omega), List.take_of_length_le (by omega)]
    have e2 : (k.take i ++ b ++ k.drop (i + a.length)).drop (i + b.length) = k.drop (i + a.length) := by
      rw [List.drop_append, List.drop_of_length_le (by simp; omega), List.nil_append]
      have : i + b.length - (k.take i ++ b).length = 0 := by simp; omega
      rw [this]; rfl
    rw [e1, e2]
    have e3 : k.drop (i + a.length) = (k.drop i).drop a.length := by rw [List.drop_drop]
    rw [e3, List.append_assoc, ← e, List.take_append_drop]
theorem zHp {l : List Rule} {k s : Str} (hk : x8 k 1 12 = true) (h : s ∈ p4 l k) : k ∈ p4 l s ∧ x8 s 1 12 = true := by
 unfold p4 at *
 obtain ⟨r, hr, h⟩ := List.mem_flatMap.1 h
 rcases List.mem_append.1 h with h | h
 ·exact ⟨List.mem_flatMap.2 ⟨r, hr, List.mem_append.2 (.inr (zB3 hk h))⟩, by obtain ⟨_, _, _, h2, _⟩ := mem_replacedN.1 h; exact h2⟩
 ·exact ⟨List.mem_flatMap.2 ⟨r, hr, List.mem_append.2 (.inl (zB3 hk h))⟩, by obtain ⟨_, _, _, h2, _⟩ := mem_replacedN.1 h; exact h2⟩
def Far (l : List Rule) (n : Nat) (s t : Str) : Prop := ∃ c, IsChain l t n s c
theorem Far.zero {l : List Rule} {s t : Str} : Far l 0 s t ↔ s = t := by
 constructor
 ·rintro ⟨c, h⟩; cases h; rfl
 ·rintro rfl; exact ⟨_, .nil⟩
theorem Far.step {l : List Rule} {n : Nat} {s t : Str} : Far l (n + 1) s t ↔ ∃ x, x ∈ p4 l s ∧ Far l n x t := by
 constructor
 ·rintro ⟨c, h⟩
  cases h with
  | cons h1 h2 => exact ⟨_, h1, _, h2⟩
 ·rintro ⟨x, h1, c, h2⟩; exact ⟨_, .cons h1 h2⟩
theorem Far.join {l : List Rule} : ∀ {n m : Nat} {s t u : Str}, Far l n s t → Far l m t u → Far l (n + m) s u
 | 0, m, s, t, u, h1, h2 => by rw [Far.zero.1 h1, Nat.zero_add]; exact h2
 | n + 1, m, s, t, u, h1, h2 => by
  obtain ⟨x, hx, h⟩ := Far.step.1 h1
  rw [show n + 1 + m = (n + m) + 1 by omega]
  exact Far.step.2 ⟨x, hx, h.join h2⟩
theorem Far.back {l : List Rule} : ∀ {n : Nat} {s t : Str}, x8 s 1 12 = true → Far l n s t → Far l n t s
 | 0, s, t, _, h => by rw [Far.zero.1 h]; exact Far.zero.2 rfl
 | n + 1, s, t, hs, h => by
  obtain ⟨x, hx, h⟩ := Far.step.1 h
  obtain ⟨g1, g2⟩ := zHp hs hx
  have := (h.back g2).join (m := 1) (Far.step.2 ⟨s, g1, Far.zero.2 rfl⟩)
  exact this
theorem Far.more {l l' : List Rule} (h : ∀ r, r ∈ l → r ∈ l') : ∀ {n : Nat} {s t : Str}, Far l n s t → Far l' n s t
 | 0, s, t, k => Far.zero.2 (Far.zero.1 k)
 | n + 1, s, t, k => by
  obtain ⟨x, hx, k⟩ := Far.step.1 k
  refine Far.step.2 ⟨x, ?_, k.more h⟩
  unfold p4 at *
  obtain ⟨r, hr, hx⟩ := List.mem_flatMap.1 hx
  exact List.mem_flatMap.2 ⟨r, h r hr, hx⟩
def zMl (r : List Rule) (a b : Str) : Int := match O8 r a b with
 | some c => (c.length : Int) - 1
 | none => 9
theorem D8 {s : Str} (v : ValidN s) : x8 (zLO s) 1 12 = true := by
 have h1 := V5 s
 have h2 := v.ne
 have h3 := v.len
 unfold x8
 rw [Bool.and_eq_true, Bool.and_eq_true, decide_eq_true_eq, decide_eq_true_eq]
 exact ⟨by omega, by omega, zE3 v.form⟩
end Go.Abs

namespace Go.Abs
open Go
section
variable {α : Type} (cf : α → α → Int)
def zLw (x : α) : List α → List α
 | [] => [x]
 | y :: r => if cf x y < 0 then y :: zLw x r else x :: y :: r
def zLe (pre : List α) (x : α) : List α := (zLw cf x pre.reverse).reverse
def p9 (xs : List α) : List α := xs.foldl (zLe cf) []
theorem zBE (x : α) : ∀ l : List α, (zLw cf x l).Perm (x :: l)
 | [] => .refl _
 | y :: r => by
  unfold zLw
  split
  ·exact ((zBE x r).cons y).trans (.swap x y r)
  ·exact .refl _
theorem zEw (pre : List α) (x : α) : (zLe cf pre x).Perm (pre ++ [x]) := by
 unfold zLe
 refine (List.reverse_perm _).trans ((zBE cf x _).trans ?_)
 exact ((List.reverse_perm pre).cons x).trans (List.perm_append_comm (l₁ := [x]) (l₂ := pre))
theorem zBI : ∀ (xs pre : List α), (xs.foldl (zLe cf) pre).Perm (pre ++ xs)
 | [], pre => by simp
 | x :: r, pre => by
  rw [List.foldl_cons]
  refine (zBI r _).trans ?_
  refine ((zEw cf pre x).append_right r).trans ?_
  simp
theorem D6 (xs : List α) : (p9 cf xs).Perm xs := by have := zBI cf xs []; simpa [p9] using this
theorem zBJ (xs : List α) : (p9 cf xs).length = xs.length := (D6 cf xs).length_eq
theorem zE2 (xs : List α) (x : α) : p9 cf (xs ++ [x]) = zLe cf (p9 cf xs) x := by simp [p9, List.foldl_append]
def zLl (S : List α) (x : α) (R : List α) (d : Nat) : List α := S.take (S.length - d) ++ x :: (S.drop (S.length - d) ++ R)
theorem zDa (S : List α) (x : α) (R : List α) (d : Nat) : (zLl S x R d).length = S.length + 1 + R.length := by simp [zLl]; omega
variable [Inhabited α]
theorem zDc (S : List α) (x : α) (R : List α) {d : Nat} (h : d ≤ S.length) : (zLl S x R d).getD (S.length - d) default = x := by
 unfold zLl
 simp only [List.getD_eq_getElem?_getD]
 rw [List.getElem?_append_right (by simp)]
 simp [show min (S.length - d) S.length = S.length - d by omega]
theorem zDd (S : List α) (x : α) (R : List α) {d : Nat} (h : d < S.length) : (zLl S x R d).getD (S.length - d - 1) default = S.getD (S.length - d - 1) default := by
 unfold zLl
 simp only [List.getD_eq_getElem?_getD]
 rw [List.getElem?_append_left (by simp; omega), List.getElem?_take, if_pos (by omega)]
theorem zDb (S : List α) (x : α) (R : List α) {d : Nat} (h : d < S.length) :
  ((zLl S x R d).set (S.length - d) (S.getD (S.length - d - 1) default)).set (S.length - d - 1) x = zLl S x R (d + 1) := by
 obtain ⟨j, hj⟩ : ∃ j, S.length - d = j + 1 := ⟨S.length - d - 1, by omega⟩
 have hj' : S.length - (d + 1) = j := by omega
 have hlt : j < S.length := by omega
 unfold zLl
 rw [hj, hj']
 have e1 : S.take (j + 1) = S.take j ++ [S.getD j default] := by rw [List.take_add_one]; simp [List.getD, hlt]
 have e2 : S.drop j = S.getD j default :: S.drop (j + 1) := o6 hlt
 rw [e1, e2]
 simp only [Nat.add_sub_cancel]
 have hl : (S.take j).length = j := by simp; omega
 rw [List.append_assoc, List.set_append_right _ _ (by omega), hl]
 simp only [Nat.add_sub_cancel_left, List.singleton_append, List.set_cons_succ, List.set_cons_zero]
 rw [List.set_append_right _ _ (by omega), hl]
 simp
theorem zEy (pre : List α) (x y : α) (h : cf x y < 0) : zLe cf (pre ++ [y]) x = zLe cf pre x ++ [y] := by
 have _ := (default : α)
 unfold zLe; simp [zLw, h]
theorem zEx (pre : List α) (x y : α) (h : ¬ cf x y < 0) : zLe cf (pre ++ [y]) x = pre ++ [y] ++ [x] := by
 have _ := (default : α)
 unfold zLe; simp [zLw, h]
theorem zHj {l : List α} {i : Nat} (h : i < l.length) : l.take (i + 1) = l.take i ++ [l.getD i default] := by
 rw [List.take_add_one]; simp [List.getD, h]
def InsP (S : List α) (x : α) (R : List α) (cur : List α) (d : Nat) : Prop := cur = zLl S x R d ∧ zLe cf S x = zLe cf (S.take (S.length - d)) x ++ S.drop (S.length - d)
theorem InsP.start (S : List α) (x : α) (R : List α) : InsP cf S x R (S ++ x :: R) 0 := by simp [InsP, zLl]
theorem InsP.next {S : List α} {x : α} {R cur : List α} {d : Nat} (h : InsP cf S x R cur d) (hd : d < S.length) (hc : cf x (S.getD (S.length - d - 1) default) < 0) :
  InsP cf S x R ((cur.set (S.length - d) (S.getD (S.length - d - 1) default)).set (S.length - d - 1) x) (d + 1) := by
 obtain ⟨h1, h2⟩ := h
 refine ⟨by rw [h1, zDb S x R hd], ?_⟩
 obtain ⟨j, hj⟩ : ∃ j, S.length - d = j + 1 := ⟨S.length - d - 1, by omega⟩
 have hj' : S.length - (d + 1) = j := by omega
 have hlt : j < S.length := by omega
 have e1 : S.take (j + 1) = S.take j ++ [S.getD j default] := by rw [List.take_add_one]; simp [List.getD, hlt]
 have e2 : S.drop j = S.getD j default :: S.drop (j + 1) := o6 hlt
 rw [hj] at h2 hc
 simp only [Nat.add_sub_cancel] at hc
 rw [h2, hj', e1, zEy cf _ _ _ hc, e2, List.append_assoc]; rfl
theorem InsP.stop {S : List α} {x : α} {R cur : List α} {d : Nat} (h : InsP cf S x R cur d) (hd : d ≤ S.length) (hc : d < S.length → ¬ cf x (S.getD (S.length - d - 1) default) < 0) : cur = zLe cf S x ++ R := by
 obtain ⟨h1, h2⟩ := h
 rw [h1, h2]
 unfold zLl
 by_cases e : d = S.length
 ·subst e; simp [zLe, zLw]
 ·obtain ⟨j, hj⟩ : ∃ j, S.length - d = j + 1 := ⟨S.length - d - 1, by omega⟩
  have hlt : j < S.length := by omega
  have e1 : S.take (j + 1) = S.take j ++ [S.getD j default] := by rw [List.take_add_one]; simp [List.getD, hlt]
  have hc' := hc (by omega)
  rw [hj] at hc' ⊢
  simp only [Nat.add_sub_cancel] at hc'
  rw [e1, zEx cf _ _ _ hc']; simp
end
end Go.Abs

namespace Go.Abs
open Go
theorem zDX (a b : Int) : zLc b a = -zLc a b := by
 unfold zLc
 repeat' split
 all_goals omega
theorem zDY (a b : Str) : o5 b a = -o5 a b := by
 unfold o5 orI
 rw [K9 (zLO a) (zLO b), zDX (o8 a) (o8 b)]
 by_cases h : zLS (zLO a) (zLO b) = 0
 ·rw [if_pos h, if_pos (by omega)]
 ·rw [if_neg h, if_neg (by omega)]
theorem zEU {x y z : Str} (h1 : ¬ o5 x y < 0) (h2 : ¬ o5 y z < 0) : ¬ o5 x z < 0 := by
 unfold o5 orI at *
 have a1 := K9 (zLO x) (zLO y)
 have a2 := K9 (zLO y) (zLO z)
 have gS := fun (p : ¬ zLS (zLO x) (zLO y) < 0) (q : ¬ zLS (zLO y) (zLO z) < 0) => zMZ p q
 by_cases e1 : zLS (zLO x) (zLO y) = 0
 ·rw [if_pos e1] at h1
  rw [cmpS_zero.1 e1]
  by_cases e2 : zLS (zLO y) (zLO z) = 0
  ·rw [if_pos e2] at h2 ⊢
   unfold zLc at *
   repeat' split at h1
   all_goals repeat' split at h2
   all_goals repeat' split
   all_goals omega
  ·rw [if_neg e2] at h2 ⊢
   exact h2
 ·rw [if_neg e1] at h1
  by_cases e2 : zLS (zLO y) (zLO z) = 0
  ·rw [if_pos e2] at h2
   rw [← cmpS_zero.1 e2, if_neg e1]; exact h1
  ·rw [if_neg e2] at h2
   have h3 := gS h1 h2
   by_cases e3 : zLS (zLO x) (zLO z) = 0
   ·have e := cmpS_zero.1 e3
    rw [e] at a1 h1
    have := K9 (zLO y) (zLO z)
    omega
   ·rw [if_neg e3]; exact h3
def M8 : List Str → Bool
 | [] => true
 | [_] => true
 | a :: b :: r => !(decide (o5 b a < 0)) && M8 (b :: r)
def zFl (l : List Str) (s : Str) : Int := if p6 l = 0 then if y9 s = 0 then if M8 l = true then 0 else 5 else y9 s else p6 l
def zKh (l : List Str) (s : Str) : Int := if zFl l s = 0 then (l.countP fun x => decide (o5 x s < 0) : Nat) else 0
def P6 (l : List Str) : List Nat := p9 (fun a b => o5 (l.getD a []) (l.getD b [])) (List.range l.length)
def zMj (set i : Nat) : Bool := set.testBit i
def zFg (n set : Nat) : List Nat := (List.range n).filter fun i => set.testBit i
def zFv (l : List Str) (set : Nat) : List Str := ((List.range l.length).filter fun i => !set.testBit i).map fun i => l.getD i []
def zAc : List Nat → List Nat → Int
 | [], [] => 0
 | [], _ :: _ => -1
 | _ :: _, [] => 1
 | a :: x, b :: y => if zLc a b = 0 then zAc x y else zLc a b
def zGJ (a b : List Nat) : Int := orI (zLc a.length b.length) (zAc a b)
def zFy (l : List Str) : List (List Nat) := (List.range (2 ^ l.length)).filterMap fun set => if M8 (zFv l set) = true then some (zFg l.length set) else none
def zLN (l : List Str) : List Nat := (d7 zGJ (zFy l)).getD []
end Go.Abs

namespace Go.Abs
open Go
def wordsL : List Str := [[97, 101, 115], [115, 104, 101, 116, 97], [115, 109, 105, 116, 121, 104, 97], [99, 104, 106, 97], [97, 110, 110, 101]]
def wordsU : List Str := [[65, 69, 83], [88, 69, 84, 65], [83, 77, 73, 84, 89, 65], [67, 74, 65, 88], [65, 78, 78, 69]]
def wordsF : List Str := [[101], [121], [115, 104], [97], [110, 110], [116, 104], [109]]
def wordsT : List Str := [[], [105], [115], [116], [97, 101], [106], [110]]
def Z4 (ws : List Str) (d : Dice) : Str := ws.getD (toN ((ws.length : Int) - 1) d).toNat []
def o3 (ws : List Str) (d : Dice) : Dice := toD ((ws.length : Int) - 1) d
theorem I8 {ws : List Str} (h : 0 < ws.length) (d : Dice) : Z4 ws d ∈ ws := by
 have := O0 (n := (ws.length : Int) - 1) (by omega) d
 unfold Z4
 have hlt : (toN ((ws.length : Int) - 1) d).toNat < ws.length := by omega
 simp [List.getD, hlt]
def i4 (set : Str) : Nat → Dice → Str → Str × Dice
 | 0, d, s => (s, d)
 | n + 1, d, s => i4 set n (toD ((set.length : Int) - 1) d) (s ++ [set.getD (toN ((set.length : Int) - 1) d).toNat 0])
def zMO (t : Bool) (d d2 : Dice) (a : Str) : Str × Dice := if t = true then (Z4 wordsU d2, o3 wordsU d2) else (a, d2)
def zLq (d : Dice) : Str × Dice := zMO (V8 3 (o3 wordsL d)) d (f5 3 (o3 wordsL d)) (Z4 wordsL d)
def I3 (most : Int) (p : Str × Dice) : Str × Dice := i4 p.1 (d8 1 (min most 6) p.2).toNat (Q0 1 (min most 6) p.2) []
def Z1 (d : Dice) (most : Int) : Str × Dice := I3 most (zLq d)
theorem zBW (set : Str) : ∀ (n : Nat) (d : Dice) (s : Str), (i4 set n d s).1.length = s.length + n
 | 0, d, s => rfl
 | n + 1, d, s => by rw [i4, zBW set n]; simp; omega
theorem C0 (set : Str) (p : UInt8 → Bool) (h0 : 0 < set.length) (hp : set.all p = true) : ∀ (n : Nat) (d : Dice) (s : Str), s.all p = true → (i4 set n d s).1.all p = true
 | 0, d, s, h => h
 | n + 1, d, s, h => by
  rw [i4]
  refine C0 set p h0 hp n _ _ ?_
  have := O0 (n := (set.length : Int) - 1) (by omega) d
  have hlt : (toN ((set.length : Int) - 1) d).toNat < set.length := by omega
  rw [List.all_append, h, Bool.true_and, List.all_cons, List.all_nil, Bool.and_true]
  refine List.all_eq_true.1 hp _ ?_
  simp [List.getD, hlt]
theorem Y0 (n : Int) (d : Dice) : (toD n d).list = d.list := by unfold toD; split <;> rfl
theorem zBX (set : Str) : ∀ (n : Nat) (d : Dice) (s : Str), (i4 set n d s).2.list = d.list
 | 0, d, s => rfl
 | n + 1, d, s => by rw [i4, zBX set n, Y0]
theorem zHu {x : Str} (h : x ∈ wordsU) : 0 < x.length ∧ x.all x5 = true := by
 have key : (wordsU.all fun x => decide (0 < x.length) && x.all x5) = true := by decide
 have := List.all_eq_true.1 key x h
 simpa using this
theorem zHt {x : Str} (h : x ∈ wordsL) : 0 < x.length ∧ x.all y7 = true := by
 have key : (wordsL.all fun x => decide (0 < x.length) && x.all y7) = true := by decide
 have := List.all_eq_true.1 key x h
 simpa using this
theorem zCC (d : Dice) : 0 < (zLq d).1.length ∧ ((zLq d).1.all y7 = true ∨ (zLq d).1.all x5 = true) ∧ (zLq d).2.list = d.list := by
 unfold zLq zMO
 split
 ·have := zHu (I8 (ws := wordsU) (by decide) (f5 3 (o3 wordsL d)))
  exact ⟨this.1, .inr this.2, by simp only [o3, f5, Y0]⟩
 ·have := zHt (I8 (ws := wordsL) (by decide) d)
  exact ⟨this.1, .inl this.2, by simp only [o3, f5, Y0]⟩
theorem zFS {d : Dice} {most : Int} (h : 1 ≤ most) : ValidN (Z1 d most).1 ∧ ((Z1 d most).1.length : Int) ≤ most ∧ (Z1 d most).2.list = d.list := by
 obtain ⟨h1, h2, h3⟩ := zCC d
 unfold Z1 I3
 generalize zLq d = p at *
 have hr := E7 (lo := 1) (hi := min most 6) (by omega) p.2
 have hl := zBW p.1 (d8 1 (min most 6) p.2).toNat (Q0 1 (min most 6) p.2) []
 simp only [List.length_nil, Nat.zero_add] at hl
 refine ⟨⟨by rw [hl]; omega, by rw [hl]; omega, ?_⟩, by rw [hl]; omega, ?_⟩
 ·unfold o9
  rw [Bool.or_eq_true]
  rcases h2 with h2 | h2
  ·exact .inl (C0 p.1 y7 h1 h2 _ _ [] rfl)
  ·exact .inr (C0 p.1 x5 h1 h2 _ _ [] rfl)
 ·rw [zBX]
  unfold Q0
  rw [Y0, h3]
def zDf (s : Str) (at_ : Nat) : Str := s.take at_ ++ s.drop (at_ + 1)
def zHr (s : Str) (t : Bool) (d : Dice) : Str × Dice := if t = true then (zDf s (toN ((s.length : Int) - 1) d).toNat, toD ((s.length : Int) - 1) d) else (s, d)
def zHs (s : Str) (d : Dice) : Str × Dice := if 97 ≤ (s.getD 0 0).toNat ∧ 1 < s.length then zHr s (V8 2 d) (f5 2 d) else (s, d)
def zFk (out : List Str) (d : Dice) : Str := out.getD (toN ((out.length : Int) - 1) d).toNat []
def zC0 (out : List Str) (p : Str × Dice) (t : Bool) (d : Dice) : Str × Dice := if t = true then zHs (zFk out d) (toD ((out.length : Int) - 1) d) else (p.1, d)
def zAQ (out : List Str) (p : Str × Dice) : Str × Dice := if 0 < out.length then zC0 out p (V8 3 p.2) (f5 3 p.2) else p
def zBm (most : Int) : Nat → Dice → List Str → List Str × Dice
 | 0, d, out => (out, d)
 | n + 1, d, out => zBm most n (zAQ out (Z1 d most)).2 (out ++ [(zAQ out (Z1 d most)).1])
def zJ1 (d : Dice) (many most : Int) : List Str × Dice := zBm most (toN many d).toNat (toD many d) []
def zIJ (most : Int) (s : Str) : Prop := ValidN s ∧ (s.length : Int) ≤ most
def zB5 : Nat → Dice → List Rule → List Rule × Dice
 | 0, d, out => (out, d)
 | n + 1, d, out => zB5 n (o3 wordsT (o3 wordsF d)) (out ++ [⟨Z4 wordsF d, Z4 wordsT (o3 wordsF d)⟩])
def zK6 (d : Dice) (many : Int) : List Rule × Dice := zB5 (toN many d).toNat (toD many d) []
def L6 (key : Str) : Nat → Nat → Dice → Str → Str × Dice
 | 0, _, d, s => (s, d)
 | n + 1, i, d, s => if i = 0 then L6 key n (i + 1) d (s ++ [key.getD i 0]) else if V8 2 d = true then L6 key n (i + 1) (f5 2 d) (s ++ [key.getD i 0]) else L6 key n (i + 1) (f5 2 d) s
def zLA (d : Dice) (key : Str) : Str × Dice := ((L6 key key.length 0 d []).1 ++ [46], (L6 key key.length 0 d []).2)
end Go.Abs

namespace Go.Abs
open Go
def zLE (l : List Nat) : Str := l.map UInt8.ofNat
def zL6 : Str := [67, 65, 68]
def M4 : Str := [99, 104, 97, 100]
def J9 : Str := [97, 110, 110, 97]
def zMM : Str := [66, 69, 78]
def Z0 : Str := [115, 109, 121, 116, 104, 101]
def M5 : Str := [115, 109, 105, 116, 104, 101]
def c5 : Str := [115, 109, 105, 116, 104]
def C9 : Str := [115, 109, 121, 116, 104]
def zMW : Str := [115, 97, 109]
def rulesX : List Rule := [⟨[112, 104], [102]⟩, ⟨[121], [105]⟩, ⟨[101], []⟩]
def smithsX : List Str := [c5, C9, zMW]
theorem zH3 : zLO zL6 = M4 := by kernel_rfl
theorem zH0 : y9 zL6 = 0 := by kernel_rfl
theorem zH7 : P6 [M4, zL6, J9, zMM] = [2, 3, 0, 1] := by kernel_rfl
theorem zH4 : p6 [M4, zL6, J9, zMM] = 0 := by kernel_rfl
theorem zCp : f7 rulesX Z0 c5 = 0 := by kernel_rfl
theorem zCo : O8 rulesX Z0 c5 = some [Z0, M5, c5] := by kernel_rfl
theorem zH5 : A6 smithsX 0 = [115, 105, 46] := by kernel_rfl
theorem zH6 : A5 smithsX 0 = 0 := by kernel_rfl
theorem zH1 : zMR smithsX 0 4 = [115, 105, 104, 46] := by kernel_rfl
theorem zH2 : E5 smithsX 0 4 = 0 := by kernel_rfl
end Go.Abs

namespace Go.Abs
open Go
section
variable (l : List Str)
def cfI (a b : Nat) : Int := o5 (l.getD a []) (l.getD b [])
def Prec (a b : Nat) : Prop := cfI l a b < 0 ∨ (¬ cfI l b a < 0 ∧ a < b)
theorem F2 (a b : Nat) : cfI l b a = -cfI l a b := zDY _ _
theorem F3 {a b c : Nat} (h1 : ¬ cfI l a b < 0) (h2 : ¬ cfI l b c < 0) : ¬ cfI l a c < 0 := zEU h1 h2
theorem Prec.trans {a b c : Nat} (h1 : Prec l a b) (h2 : Prec l b c) : Prec l a c := by
 have ab := F2 l a b
 have bc := F2 l b c
 have ac := F2 l a c
 unfold Prec at *
 have g1 : ¬ cfI l b a < 0 := by rcases h1 with h1 | h1 <;> omega
 have g2 : ¬ cfI l c b < 0 := by rcases h2 with h2 | h2 <;> omega
 have g3 : ¬ cfI l c a < 0 := F3 l g2 g1
 by_cases e : cfI l a c < 0
 ·exact .inl e
 ·refine .inr ⟨g3, ?_⟩
  -- all three are alike
  have e1 : ¬ cfI l a b < 0 := fun h => by
   have : ¬ cfI l a b < 0 := F3 l (b := c) e g2
   exact this h
  have e2 : ¬ cfI l b c < 0 := fun h => by
   have : ¬ cfI l b c < 0 := F3 l (b := a) g1 e
   exact this h
  rcases h1 with h1 | h1
  ·exact absurd h1 e1
  ·rcases h2 with h2 | h2
   ·exact absurd h2 e2
   ·omega
theorem zGO : (P6 l).Perm (List.range l.length) := D6 _ _
theorem zGN : (P6 l).length = l.length := by rw [(zGO l).length_eq, List.length_range]
def zKq (i : Nat) : Nat := (List.range l.length).countP fun k => zAW (l.getD k []) (l.getD i []) || (decide (k < i) && !zAW (l.getD i []) (l.getD k []))
end
end Go.Abs

namespace Go.Proofs
open Go.Shelf
def Tryz.lays159_ren : Go.Shelf.Ren := ⟨fun | 159 => 143 | 165 => 163 | 166 => 164 | 167 => 165 | 169 => 166 | 230 => 167 | 204 => 168 | 240 => 182 | 241 => 183 | 197 => 184 | 118 => 185 | 168 => 186 | 270 => 187 | 262 => 188 | 276 => 194 | 277 => 195 | 260 => 196 | 242 => 197 | 313 => 198 | 278 => 200 | 274 => 201 | 275 => 202 | n => n, fun | 9 => 9 | 4 => 4 | 3 => 3 | 5 => 5 | 72 => 180 | 0 => 0 | 76 => 182 | 75 => 147 | 107 => 187 | 70 => 178 | 20 => 20 | 37 => 141 | 127 => 207 | 21 => 21 | 105 => 208 | 164 => 165 | 162 => 219 | 203 => 217 | 119 => 220 | 46 => 89 | 139 => 223 | 138 => 222 | 51 => 224 | 160 => 225 | 208 => 231 | 206 => 229 | 80 => 185 | n => n, fun | 13 => 2 | 3 => 3 | 4 => 4 | n => n⟩
theorem Tryz.lays159 : Go.Proofs.Lays.n159 Tryz.prog Tryz.lays159_ren := {
 mixed := by kernel_rfl
 f118 := Tryz.func185.trans (congrArg some (by kernel_rfl))
 f159 := Tryz.func143.trans (congrArg some (by kernel_rfl))
 f165 := Tryz.func163.trans (congrArg some (by kernel_rfl))
 f166 := Tryz.func164.trans (congrArg some (by kernel_rfl))
 f167 := Tryz.func165.trans (congrArg some (by kernel_rfl))
 f168 := Tryz.func186.trans (congrArg some (by kernel_rfl))
 f169 := Tryz.func166.trans (congrArg some (by kernel_rfl))
 f197 := Tryz.func184.trans (congrArg some (by kernel_rfl))
 f204 := Tryz.func168.trans (congrArg some (by kernel_rfl))
 f230 := Tryz.func167.trans (congrArg some (by kernel_rfl))
 f240 := Tryz.func182.trans (congrArg some (by kernel_rfl))
 f241 := Tryz.func183.trans (congrArg some (by kernel_rfl))
 f242 := Tryz.func197.trans (congrArg some (by kernel_rfl))
 f260 := Tryz.func196.trans (congrArg some (by kernel_rfl))
 f262 := Tryz.func188.trans (congrArg some (by kernel_rfl))
 f270 := Tryz.func187.trans (congrArg some (by kernel_rfl))
 f274 := Tryz.func201.trans (congrArg some (by kernel_rfl))
 f275 := Tryz.func202.trans (congrArg some (by kernel_rfl))
 f276 := Tryz.func194.trans (congrArg some (by kernel_rfl))
 f277 := Tryz.func195.trans (congrArg some (by kernel_rfl))
 f278 := Tryz.func200.trans (congrArg some (by kernel_rfl))
 f313 := Tryz.func198.trans (congrArg some (by kernel_rfl))
 t0 := Tryz.underlying0
 a0 := Tryz.isAgg0
 z0 := Tryz.sizeOf0
 v0 := Tryz.zeroValue0
 t3 := Tryz.underlying3
 a3 := Tryz.isAgg3
 z3 := Tryz.sizeOf3
 v3 := Tryz.zeroValue3
 t4 := Tryz.underlying4
 a4 := Tryz.isAgg4
 z4 := Tryz.sizeOf4
 v4 := Tryz.zeroValue4
 t5 := Tryz.underlying5
 a5 := Tryz.isAgg5
 z5 := Tryz.sizeOf5
 v5 := Tryz.zeroValue5
 t9 := Tryz.underlying9
 a9 := Tryz.isAgg9
 z9 := Tryz.sizeOf9
 v9 := Tryz.zeroValue9
 t20 := Tryz.underlying20
 a20 := Tryz.isAgg20
 z20 := Tryz.sizeOf20
 v20 := Tryz.zeroValue20
 t21 := Tryz.underlying21
 a21 := Tryz.isAgg21
 z21 := Tryz.sizeOf21
 v21 := Tryz.zeroValue21
 t37 := Tryz.underlying141
 a37 := Tryz.isAgg141
 z37 := Tryz.sizeOf141
 v37 := Tryz.zeroValue141
 t46 := Tryz.underlying89
 a46 := Tryz.isAgg89
 z46 := Tryz.sizeOf89
 v46 := Tryz.zeroValue89
 t51 := Tryz.underlying224
 a51 := Tryz.isAgg224
 z51 := Tryz.sizeOf224
 v51 := Tryz.zeroValue224
 t70 := Tryz.underlying178
 a70 := Tryz.isAgg178
 z70 := Tryz.sizeOf178
 v70 := Tryz.zeroValue178
 t72 := Tryz.underlying180
 a72 := Tryz.isAgg180
 z72 := Tryz.sizeOf180
 v72 := Tryz.zeroValue180
 t75 := Tryz.underlying147
 a75 := Tryz.isAgg147
 z75 := Tryz.sizeOf147
 v75 := Tryz.zeroValue147
 t76 := Tryz.underlying182
 a76 := Tryz.isAgg182
 z76 := Tryz.sizeOf182
 v76 := Tryz.zeroValue182
 t105 := Tryz.underlying208
 a105 := Tryz.isAgg208
 z105 := Tryz.sizeOf208
 v105 := Tryz.zeroValue208
 t107 := Tryz.underlying187
 a107 := Tryz.isAgg187
 z107 := Tryz.sizeOf187
 v107 := Tryz.zeroValue187
 t119 := Tryz.underlying220
 a119 := Tryz.isAgg220
 z119 := Tryz.sizeOf220
 t127 := Tryz.underlying207
 a127 := Tryz.isAgg207
 z127 := Tryz.sizeOf207
 v127 := Tryz.zeroValue207
 t138 := Tryz.underlying222
 a138 := Tryz.isAgg222
 z138 := Tryz.sizeOf222
 v138 := Tryz.zeroValue222
 t139 := Tryz.underlying223
 a139 := Tryz.isAgg223
 z139 := Tryz.sizeOf223
 v139 := Tryz.zeroValue223
 t160 := Tryz.underlying225
 a160 := Tryz.isAgg225
 z160 := Tryz.sizeOf225
 v160 := Tryz.zeroValue225
 t162 := Tryz.underlying219
 a162 := Tryz.isAgg219
 z162 := Tryz.sizeOf219
 v162 := Tryz.zeroValue219
 t164 := Tryz.underlying165
 a164 := Tryz.isAgg165
 z164 := Tryz.sizeOf165
 v164 := Tryz.zeroValue165
 t203 := Tryz.underlying217
 a203 := Tryz.isAgg217
 z203 := Tryz.sizeOf217
 v203 := Tryz.zeroValue217
 t206 := Tryz.underlying229
 a206 := Tryz.isAgg229
 z206 := Tryz.sizeOf229
 v206 := Tryz.zeroValue229
 t208 := Tryz.underlying231
 a208 := Tryz.isAgg231
 z208 := Tryz.sizeOf231
 v208 := Tryz.zeroValue231
 g3 := by kernel_rfl
 g4 := by kernel_rfl
 g13 := by kernel_rfl }
theorem Tryz.Builder_Extra_159 : Builder.Extra Tryz.prog Tryz.lays159_ren := {
 sizeBuilder := by kernel_rfl
 liesBuilder := by kernel_rfl
 t5 := Tryz.underlying5
 a5 := Tryz.isAgg5
 z5 := Tryz.sizeOf5
 v5 := Tryz.zeroValue5
 infoByte := by kernel_rfl
 cellsByte := by kernel_rfl
 sizeByte := by kernel_rfl
 neB5 := by decide }
open Go.RowKit in
theorem Tryz.strings_ToLower_ascii (s : ByteArray) (w : World) (hs : s.size ≤ 140737488355328) (hascii : ∀ (j : Nat) (b : UInt8), s.data.toList[j]? = some b → b.toNat < 128) :
  Calls Tryz.prog 143 #[.string s] w fun e w' => e = .returned (.string ⟨(Lib.toLowerA s.data.toList).toArray⟩) ∧ Below w.heap.size w w' := Any.strings_ToLower_ascii Tryz.lays159 Tryz.Builder_Extra_159 s w hs hascii
def Tryz.lays151_ren : Go.Shelf.Ren := ⟨fun | 151 => 128 | 152 => 152 | 137 => 173 | 119 => 174 | 224 => 175 | 225 => 176 | 217 => 191 | 266 => 199 | n => n, fun | 9 => 9 | 21 => 21 | 4 => 4 | 3 => 3 | 5 => 5 | 0 => 0 | 46 => 89 | n => n, fun | n => n⟩
theorem Tryz.lays151 : Go.Proofs.Lays.n151 Tryz.prog Tryz.lays151_ren := {
 mixed := by kernel_rfl
 f119 := Tryz.func174.trans (congrArg some (by kernel_rfl))
 f137 := Tryz.func173.trans (congrArg some (by kernel_rfl))
 f151 := Tryz.func128.trans (congrArg some (by kernel_rfl))
 f152 := Tryz.func152.trans (congrArg some (by kernel_rfl))
 f217 := Tryz.func191.trans (congrArg some (by kernel_rfl))
 f224 := Tryz.func175.trans (congrArg some (by kernel_rfl))
 f225 := Tryz.func176.trans (congrArg some (by kernel_rfl))
 f266 := Tryz.func199.trans (congrArg some (by kernel_rfl))
 t0 := Tryz.underlying0
 a0 := Tryz.isAgg0
 z0 := Tryz.sizeOf0
 v0 := Tryz.zeroValue0
 t3 := Tryz.underlying3
 a3 := Tryz.isAgg3
 z3 := Tryz.sizeOf3
 v3 := Tryz.zeroValue3
 t4 := Tryz.underlying4
 a4 := Tryz.isAgg4
 z4 := Tryz.sizeOf4
 v4 := Tryz.zeroValue4
 t5 := Tryz.underlying5
 a5 := Tryz.isAgg5
 z5 := Tryz.sizeOf5
 v5 := Tryz.zeroValue5
 t9 := Tryz.underlying9
 a9 := Tryz.isAgg9
 z9 := Tryz.sizeOf9
 v9 := Tryz.zeroValue9
 t21 := Tryz.underlying21
 a21 := Tryz.isAgg21
 z21 := Tryz.sizeOf21
 v21 := Tryz.zeroValue21
 t46 := Tryz.underlying89
 a46 := Tryz.isAgg89
 z46 := Tryz.sizeOf89
 v46 := Tryz.zeroValue89 }
open Go.RowKit Go.Lib in
theorem Tryz.strings_ContainsRune_ascii (s : ByteArray) (r : Int) (w : World) (h0 : 0 ≤ r) (h1 : r < 128) :
  Calls Tryz.prog 128 #[.string s, .int .i32 r] w fun e w' => e = .returned (.bool (decide (0 ≤ Lib.indexByte s.data.toList r.toNat.toUInt8))) ∧ w' = w := Any.strings_ContainsRune_ascii Tryz.lays151 s r w h0 h1
end Go.Proofs

namespace Go.Abs
open Go Go.Proofs Go.Proofs.YteehcinnfiaklaaGreatDoor
theorem zFB {P : Program} {w : World} {a b c : String × DataW Unit} (h : laidMet P [a, c, b] w) : laidMet P [a, b, c] w := by
 obtain ⟨ps, hv, hn, hr⟩ := h
 obtain ⟨n1, d1⟩ := a
 obtain ⟨n2, d2⟩ := b
 obtain ⟨n3, d3⟩ := c
 obtain ⟨g1, t1, c1, f1, p1, q1, a1, b1, v1, r1, ⟨g3, t3, c3, f3, p3, q3, a3, b3, v3, r3, ⟨g2, t2, c2, f2, p2, q2, a2, b2, v2, r2, e2, rfl⟩, rfl⟩, rfl⟩ := hv
 cases (show q2 = [] from e2)
 have hp : ((MemPlace.row ⟨g1, 0, none⟩ c1.size ++ p1) ++ ((MemPlace.row ⟨g3, 0, none⟩ c3.size ++ p3) ++ ((MemPlace.row ⟨g2, 0, none⟩ c2.size ++ p2) ++ []))).Perm ((MemPlace.row ⟨g1, 0, none⟩ c1.size ++ p1) ++ ((MemPlace.row ⟨g2, 0, none⟩ c2.size ++ p2) ++ ((MemPlace.row ⟨g3, 0, none⟩ c3.size ++ p3) ++ []))) := by
  simp only [List.append_nil]
  exact List.Perm.append_left _ List.perm_append_comm
 exact ⟨_, ⟨g1, t1, c1, f1, p1, _, a1, b1, v1, r1, ⟨g2, t2, c2, f2, p2, _, a2, b2, v2, r2, ⟨g3, t3, c3, f3, p3, [], a3, b3, v3, r3, rfl, rfl⟩, rfl⟩, rfl⟩, hp.nodup_iff.1 hn, fun b off hm => hr b off (hp.mem_iff.2 hm)⟩
noncomputable def zFC (os : Os) : World :=
 let N := (World.settled Tryz.prog os).heap.size
 let w0 := World.holding Tryz.prog os ⟨#[.cells Lib.caseCells5 (Tryz.lays159_ren.t 208)], #[], []⟩
 let put (h : Array Obj) (g : Nat) (cs : Array Value) : Array Obj := h.modify g fun
  | .cells _ t frozen => .cells cs t frozen
  | o => o
 let h1 := put w0.heap 3 (Lib.firstTab.map fun z => Value.int .u8 z).toArray
 let h2 := put h1 4 ((List.range 16).flatMap fun i => [Value.int .u8 (Lib.accLo i), Value.int .u8 (Lib.accHi i)]).toArray
 let h3 := put h2 2 #[.slice (some ⟨N, 0, none⟩) 336 336]
 { w0 with heap := h3 }
theorem zCy : (Rows.laid_unicode_utf8_acceptRanges : DataW Unit) = Lib.acceptData := by kernel_rfl
theorem zDK : Rows.laid_unicode_CaseRanges = Lib.caseData := by kernel_rfl
theorem zDx : Rows.laid_unicode_utf8_first = Lib.firstData := by kernel_rfl
theorem zJu (os : Os) (args : Array Value) : laidMet Tryz.prog [("unicode/utf8.acceptRanges", Rows.laid_unicode_utf8_acceptRanges), ("unicode.CaseRanges", Rows.laid_unicode_CaseRanges), ("unicode/utf8.first", Rows.laid_unicode_utf8_first)] ((zFC os).forCall (fun _ _ => 0) ⟨#[], args, []⟩).memory := by
 rw [zCy, zDK, zDx]
 refine zFB ?_
 exact laidMet_with_case (ρ := Tryz.lays159_ren) { Tryz.lays159 with } Tryz.lays159.t206 ⟨by kernel_rfl, by kernel_rfl, by kernel_rfl, by kernel_rfl, by kernel_rfl, by kernel_rfl⟩
  (l := [("unicode/utf8.acceptRanges", Lib.acceptData), ("unicode/utf8.first", Lib.firstData)])
  10 (by kernel_rfl) (by kernel_rfl) (by kernel_rfl) ((World.settled Tryz.prog default).heap.size) (Tryz.lays159_ren.t 208) (of_decide_eq_true (by kernel_rfl)) (by kernel_rfl) (by kernel_rfl) (by kernel_rfl)
theorem zKd : laidOutB Tryz.pinned.checked.prog = true := by kernel_rfl
theorem zKf : mapsRowed Tryz.pinned.checked.prog = true := by kernel_rfl
theorem zKg : (Tryz.pinned.checked.prog.stops == []) = true := by kernel_rfl
theorem zKc : (Tryz.pinned.checked.prog.stopKnobs == []) = true := by kernel_rfl
theorem zKb : Tryz.pinned.checked.prog.stopsHeard = true := by kernel_rfl
theorem zKa : Tryz.pinned.checked.prog.mayEnter = true := by kernel_rfl
theorem zKe : true = Tryz.pinned.checked.prog.looks [] := by kernel_rfl
end Go.Abs

namespace Go.Abs
open Go Go.Proofs Tryz
attribute [local irreducible] y3 Hold y8
attribute [go_sem] p7 Nat.le_refl Nat.sub_zero Int.reduceGT Nat.reduceGT Int.reduceGE
@[go_sem ↓] theorem zJr (a b : Int) (K : Cont) : zL4 .xor .u64 a b K = K (uV (b8 a b)) [] [] := rfl
@[go_sem ↓] theorem zK8 (a b : Int) (K : Cont) : U3 .shl .u64 a b K = (0 ≤ b ∧ K (uV (L5 a b.toNat)) [] []) := rfl
@[go_sem ↓] theorem zK9 (a b : Int) (K : Cont) : U3 .shr .u64 a b K = (0 ≤ b ∧ K (uV (j6 a b.toNat)) [] []) := rfl
@[go_sem] theorem zJE (s : Int) : b8 s (L5 s 13) = zMT s := rfl
@[go_sem] theorem zJF (s : Int) : b8 s (j6 s 7) = zMU s := rfl
@[go_sem] theorem zJG (s : Int) : b8 s (L5 s 17) = zMV s := rfl
@[go_sem] theorem zJH (s : Int) : zMV (zMU (zMT s)) = M3 s := rfl
@[go_sem] theorem zJI (n : Int) : IntKind.u64.wrap (b8 n (j6 n 30) * 10723151780598845931) = zMG n := rfl
theorem zHM (d : Dice) (h : d.list.length ≤ 4294967296) : zLP prog 77 [.ptr 0 0] [p7 d] (uV (zLp d)) [p7 (zLn d)] := by
 have e2 : (zLn d).list = d.list := rfl
 have e4 : (zLn d).seed = zLt d := rfl
 have e6 : zLp d = b8 (zMG (zLt d)) (j6 (zMG (zLt d)) 31) := rfl
 by_cases q : d.at_ < d.list.length
 ·have q2 : ((d.at_ : Int) < (d.list.length : Int)) := by omega
  have e1 : zLt d = IntKind.u64.wrap (M3 d.seed + IntKind.u64.wrap (IntKind.u64.wrap (d.list.getD d.at_ default) * 13787848793156543929)) := by unfold zLt; rw [if_pos q]
  have e3 : (zLn d).at_ = d.at_ + 1 := by unfold zLn; simp only; rw [if_pos q]
  have e5 : IntKind.i64.wrap ((d.at_ : Int) + 1) = ((d.at_ + 1 : Nat) : Int) := u5 (by omega)
  generalize zLn d = d' at *
  refine q9 func77 rfl (fun E hE => ?_); simp only [go_sem, ntmps77]
  repeat' (first | (refine Qr rfl ?_; try intro _ hK; try simp only [go_sem, *]) | refine Qh rfl ?_ | refine Qd rfl (by kernel_rfl) ?_ | (refine Qc rfl rfl ?_ ?_ <;> (intro hb; have hc := hb; try simp only [go_sem] at hc)) | refine q8 rfl ?_ | (refine Qb ?_ ?_; focus kernel_rfl) | ((with_reducible apply And.intro); focus omega) | (refine q7 hK ?_; clear hK; simp only [go_sem, *]) | simp only [q6, z8, go_sem, *])
  all_goals first | contradiction | omega | skip
  refine ⟨[_], [some 0], [], ⟨rfl, trivial⟩, ?_⟩
  simp only [go_sem, *]
 ·have q2 : ¬ ((d.at_ : Int) < (d.list.length : Int)) := by omega
  have e1 : zLt d = M3 d.seed := by unfold zLt; rw [if_neg q]
  have e3 : (zLn d).at_ = d.at_ := by unfold zLn; simp only; rw [if_neg q]
  generalize zLn d = d' at *
  refine q9 func77 rfl (fun E hE => ?_); simp only [go_sem, ntmps77]
  repeat' (first | (refine Qr rfl ?_; try intro _ hK; try simp only [go_sem, *]) | refine Qh rfl ?_ | refine Qd rfl (by kernel_rfl) ?_ | (refine Qc rfl rfl ?_ ?_ <;> (intro hb; have hc := hb; try simp only [go_sem] at hc)) | refine q8 rfl ?_ | (refine Qb ?_ ?_; focus kernel_rfl) | ((with_reducible apply And.intro); focus omega) | (refine q7 hK ?_; clear hK; simp only [go_sem, *]) | simp only [q6, z8, go_sem, *])
  all_goals first | contradiction | omega | skip
  refine ⟨[_], [some 0], [], ⟨rfl, trivial⟩, ?_⟩
  simp only [go_sem, *]
theorem L7 (d : Dice) (n : Int) (h : d.list.length ≤ 4294967296) (hn : n ≤ 4294967296) : zLP prog 26 [.ptr 0 0, iV n] [p7 d] (iV (toN n d)) [p7 (toD n d)] := by
 by_cases q : n < 1
 ·have e1 : toN n d = 0 := by unfold toN; rw [if_pos q]
  have e2 : toD n d = d := by unfold toD; rw [if_pos q]
  refine q9 func26 rfl (fun E hE => ?_); simp only [go_sem, ntmps26]
  repeat' (first | (refine Qr rfl ?_; try intro _ hK; try simp only [go_sem, *]) | refine Qh rfl ?_ | (refine Qc rfl rfl ?_ ?_ <;> (intro hb; have hc := hb; try simp only [go_sem] at hc)) | refine q8 rfl ?_ | ((with_reducible apply And.intro); focus omega) | (refine q7 hK ?_; clear hK; simp only [go_sem, *]) | simp only [q6, z8, go_sem, *])
  all_goals first | contradiction | omega | skip
  refine ⟨[_], [some 0], [], ⟨rfl, trivial⟩, ?_⟩
  simp only [go_sem, *]
 ·have e1 : toN n d = (j6 (zLp d) 16).tmod (n + 1) := by unfold toN; rw [if_neg q]
  have e2 : toD n d = zLn d := by unfold toD; rw [if_neg q]
  have hr := zCg n d
  rw [e1] at hr
  have e3 : IntKind.i64.wrap (n + 1) = n + 1 := wrap_i64 (by omega) (by omega)
  have e4 : IntKind.u64.wrap (n + 1) = n + 1 := by rw [IntKind.wrap_u64]; omega
  have e5 : IntKind.i64.wrap ((j6 (zLp d) 16).tmod (n + 1)) = (j6 (zLp d) 16).tmod (n + 1) := wrap_i64 (by omega) (by omega)
  have e6 : ¬ n + 1 = 0 := by omega
  have sr := zHM d h
  generalize zLp d = r at *
  generalize zLn d = d' at *
  clear hr
  refine q9 func26 rfl (fun E hE => ?_); simp only [go_sem, ntmps26]
  repeat' (first | (refine Qr rfl ?_; try intro _ hK; try simp only [go_sem, *]) | refine Qh rfl ?_ | (refine Qc rfl rfl ?_ ?_ <;> (intro hb; have hc := hb; try simp only [go_sem] at hc)) | refine q8 rfl ?_ | (refine w8 [0] (sr) ?_; simp only [go_sem, *]) | ((with_reducible apply And.intro); focus omega) | (refine q7 hK ?_; clear hK; simp only [go_sem, *]) | simp only [q6, z8, go_sem, *])
  all_goals first | contradiction | omega | skip
  refine ⟨[_], [some 0], [], ⟨rfl, trivial⟩, ?_⟩
  simp only [go_sem, *]
theorem zGh (d : Dice) (lo hi : Int) (h : d.list.length ≤ 4294967296) (hl : 0 ≤ lo ∧ lo ≤ hi) (hh : hi ≤ 4294967296) : zLP prog 27 [.ptr 0 0, iV lo, iV hi] [p7 d] (iV (d8 lo hi d)) [p7 (Q0 lo hi d)] := by
 have st := L7 d (hi - lo) h (by omega)
 have hf := E7 hl.2 d
 have e1 : IntKind.i64.wrap (hi - lo) = hi - lo := wrap_i64 (by omega) (by omega)
 have e2 : IntKind.i64.wrap (lo + toN (hi - lo) d) = d8 lo hi d := by
  have : lo + toN (hi - lo) d = d8 lo hi d := rfl
  rw [this]; exact wrap_i64 (by omega) (by omega)
 have e3 : Q0 lo hi d = toD (hi - lo) d := rfl
 rw [e3]
 generalize d8 lo hi d = r at *
 clear e3 hf hl
 refine q9 func27 rfl (fun E hE => ?_); simp only [go_sem, ntmps27]
 repeat' (first | (refine Qr rfl ?_; try intro _ hK; try simp only [go_sem, *]) | refine Qh rfl ?_ | (refine Qc rfl rfl ?_ ?_ <;> (intro hb; have hc := hb; try simp only [go_sem] at hc)) | refine q8 rfl ?_ | (refine w8 [0] (st) ?_; simp only [go_sem, *]) | ((with_reducible apply And.intro); focus omega) | (refine q7 hK ?_; clear hK; simp only [go_sem, *]) | simp only [q6, z8, go_sem, *])
 refine ⟨[_], [some 0], [], ⟨rfl, trivial⟩, ?_⟩
 simp only [go_sem, *]
theorem zGm (d : Dice) (k : Int) (h : d.list.length ≤ 4294967296) (hk : 0 ≤ k ∧ k ≤ 4294967296) : zLP prog 34 [.ptr 0 0, iV k] [p7 d] (bV (V8 k d)) [p7 (f5 k d)] := by
 have st := L7 d (k - 1) h (by omega)
 have e1 : IntKind.i64.wrap (k - 1) = k - 1 := wrap_i64 (by omega) (by omega)
 have e2 : V8 k d = (toN (k - 1) d == 0) := rfl
 have e3 : f5 k d = toD (k - 1) d := rfl
 rw [e3, e2]
 clear e2 e3 hk
 refine q9 func34 rfl (fun E hE => ?_); simp only [go_sem, ntmps34]
 repeat' (first | (refine Qr rfl ?_; try intro _ hK; try simp only [go_sem, *]) | refine Qh rfl ?_ | (refine Qc rfl rfl ?_ ?_ <;> (intro hb; have hc := hb; try simp only [go_sem] at hc)) | refine q8 rfl ?_ | (refine w8 [0] (st) ?_; simp only [go_sem, *]) | ((with_reducible apply And.intro); focus omega) | (refine q7 hK ?_; clear hK; simp only [go_sem, *]) | simp only [q6, z8, go_sem, *])
 refine ⟨[_], [some 0], [], ⟨rfl, trivial⟩, ?_⟩
 simp only [go_sem, *]
@[reducible] def X1 (l : List Int) : AV := .list (l.map iV)
def zBn (l : List Int) : Dice := ⟨l, 0, 11400714819323198485⟩
theorem zGl (l : List Int) : zLP prog 23 [X1 l] [] (.ptr 0 0) [p7 (zBn l)] := by
 refine q9 func23 rfl (fun E hE => ?_); simp only [go_sem, ntmps23]
 repeat' (first | (refine Qr rfl ?_; try intro _ hK; try simp only [go_sem, *]) | refine Qh rfl ?_ | (refine Qc rfl rfl ?_ ?_ <;> (intro hb; have hc := hb; try simp only [go_sem] at hc)) | refine q8 rfl ?_ | ((with_reducible apply And.intro); focus omega) | (refine q7 hK ?_; clear hK; simp only [go_sem, *]) | simp only [q6, z8, go_sem, *])
 refine ⟨[_], [some 0], [], ⟨rfl, trivial⟩, ?_⟩
 simp only [go_sem, zBn, *]
 try rfl
end Go.Abs

namespace Go.Abs
open Go
end Go.Abs

namespace Go.Abs
open Go
def N5 (x : Str) : Prop := x.head? ≠ some 104
theorem zGW : (otherL.all fun a => otherL.all fun b => decide (a = b) || (!((y5 a).head? == (y5 b).head?) || ((a == 83 && b == 88) || (a == 88 && b == 83) || (a == 74 && b == 89) || (a == 89 && b == 74)))) = true := by decide
theorem zGV : (otherL.all fun a => !((y5 a).head? == some 104)) = true := by decide
theorem S7 (a : UInt8) (r : Str) : zLO (a :: r) = y5 a ++ zLO r := rfl
theorem A7 (a : UInt8) : y5 a ≠ [] := fun h => by have := (Q7 a).1; rw [h] at this; simp at this
theorem zBN : ∀ {x : Str}, x.all x5 = true → N5 (zLO x)
 | [], _ => by simp [N5, zLO]
 | a :: r, h => by
  rw [List.all_cons, Bool.and_eq_true] at h
  have := List.all_eq_true.1 zGV a (mem_otherL.2 h.1)
  unfold N5
  rw [S7, List.head?_append]
  cases e : (y5 a).head? with
  | none => exact absurd (List.head?_eq_none_iff.1 e) (A7 a)
  | some b => rw [e] at this; simpa using this
theorem zGX {a b : UInt8} (ha : x5 a = true) (hb : x5 b = true) {x y : Str} (hx : N5 x) (hy : N5 y) (h : y5 a ++ x = y5 b ++ y) : a = b ∧ x = y := by
 have key := List.all_eq_true.1 (List.all_eq_true.1 zGW a (mem_otherL.2 ha)) b (mem_otherL.2 hb)
 rw [Bool.or_eq_true, decide_eq_true_eq] at key
 rcases key with rfl | key
 ·exact ⟨rfl, List.append_cancel_left h⟩
 ·exfalso
  have hh := congrArg List.head? h
  rw [List.head?_append, List.head?_append] at hh
  have e1 : ∃ p, (y5 a).head? = some p := by
   cases e : (y5 a).head? with
   | none => exact absurd (List.head?_eq_none_iff.1 e) (A7 a)
   | some p => exact ⟨p, rfl⟩
  have e2 : ∃ p, (y5 b).head? = some p := by
   cases e : (y5 b).head? with
   | none => exact absurd (List.head?_eq_none_iff.1 e) (A7 b)
   | some p => exact ⟨p, rfl⟩
  obtain ⟨p, hp⟩ := e1
  obtain ⟨q, hq⟩ := e2
  rw [hp, hq] at hh
  rw [Bool.or_eq_true] at key
  rcases key with key | key
  ·rw [hp, hq] at key
   simp at hh key
   exact key hh
  ·simp only [Bool.or_eq_true, Bool.and_eq_true, beq_iff_eq] at key
   rcases key with ((⟨rfl, rfl⟩ | ⟨rfl, rfl⟩) | ⟨rfl, rfl⟩) | ⟨rfl, rfl⟩
   ·have e : y5 83 = [115] := by decide
    have e' : y5 88 = [115, 104] := by decide
    rw [e, e'] at h
    simp at h
    exact hx (by rw [h]; rfl)
   ·have e : y5 83 = [115] := by decide
    have e' : y5 88 = [115, 104] := by decide
    rw [e, e'] at h
    simp at h
    exact hy (by rw [← h]; rfl)
   ·have e : y5 74 = [106, 117] := by decide
    have e' : y5 89 = [106, 97] := by decide
    rw [e, e'] at h
    simp at h
   ·have e : y5 74 = [106, 117] := by decide
    have e' : y5 89 = [106, 97] := by decide
    rw [e, e'] at h
    simp at h
theorem zBO : ∀ {x y : Str}, x.all x5 = true → y.all x5 = true → zLO x = zLO y → x = y
 | [], [], _, _, _ => rfl
 | [], b :: y, _, _, h => by
  rw [S7] at h
  have := congrArg List.length h
  have hb := (Q7 b).1
  have e0 : (zLO []).length = 0 := rfl
  rw [List.length_append] at this
  omega
 | a :: x, [], _, _, h => by
  rw [S7] at h
  have := congrArg List.length h
  have hb := (Q7 a).1
  have e0 : (zLO []).length = 0 := rfl
  rw [List.length_append] at this
  omega
 | a :: x, b :: y, hx, hy, h => by
  rw [List.all_cons, Bool.and_eq_true] at hx hy
  rw [S7, S7] at h
  obtain ⟨rfl, h2⟩ := zGX hx.1 hy.1 (zBN hx.2) (zBN hy.2) h
  rw [zBO hx.2 hy.2 h2]
theorem zAz : ∀ (n : Nat) (k o : Str), r6 n k = some o → o.all x5 = true ∧ zLO o = k
 | _, [], o, h => by
  rw [r6] at h
  cases h; exact ⟨rfl, rfl⟩
 | 0, _ :: _, o, h => by cases h
 | n + 1, a :: r, o, h => by
  rw [r6] at h
  obtain ⟨pre, c, post, hL, h1, _⟩ := zAt h
  have hc : c ∈ otherL := by rw [hL]; simp
  split at h1
  ·rename_i hp
   cases e : r6 n ((a :: r).drop (y5 c).length) with
   | none => rw [e] at h1; cases h1
   | some o' =>
    rw [e] at h1
    cases h1
    obtain ⟨g1, g2⟩ := zAz n _ o' e
    refine ⟨by rw [List.all_cons, mem_otherL.1 hc, g1]; rfl, ?_⟩
    rw [S7, g2]
    obtain ⟨t, ht⟩ := List.isPrefixOf_iff_prefix.1 hp
    rw [← ht]; simp
  ·cases h1
end Go.Abs

namespace Go.Abs
open Go
def Asc (n : Nat) (c : List Nat) : Prop := c.Pairwise (· < ·) ∧ ∀ i, i ∈ c → i < n
def zCk (l : List Str) (c : List Nat) : List Str := ((List.range l.length).filter fun i => !decide (i ∈ c)).map fun i => l.getD i []
def zIO (l : List Str) (c : List Nat) : Prop := Asc l.length c ∧ M8 (zCk l c) = true
def zBy (n : Nat) : Nat → Nat → List (List Nat)
 | 0, _ => [[]]
 | m + 1, lo => (List.range' lo (n - lo)).flatMap fun i => (zBy n m (i + 1)).map (i :: ·)
theorem pairwise_flatMap {α β : Type} {R : β → β → Prop} {f : α → List β} {L : List α} {S : α → α → Prop} (h1 : ∀ a, a ∈ L → (f a).Pairwise R) (h2 : L.Pairwise S) (h3 : ∀ a b, S a b → ∀ x, x ∈ f a → ∀ y, y ∈ f b → R x y) : (L.flatMap f).Pairwise R := by
 induction L with
 | nil => exact .nil
 | cons a L ih =>
  obtain ⟨g1, g2⟩ := List.pairwise_cons.1 h2
  rw [List.flatMap_cons]
  refine List.pairwise_append.2 ⟨h1 a (by simp), ih (fun b hb => h1 b (by simp [hb])) g2, fun x hx y hy => ?_⟩
  obtain ⟨b, hb, hy⟩ := List.mem_flatMap.1 hy
  exact h3 a b (g1 b hb) x hx y hy
def zLM (l : List Str) (m : Nat) : Option (List Nat) := u0 (fun c => if M8 (zCk l c) = true then some c else none) (zBy l.length m 0)
end Go.Abs

namespace Go.Abs
open Go
def b5 (r : Int) : Int := if 97 ≤ r ∧ r ≤ 122 then 1 else if 65 ≤ r ∧ r ≤ 90 ∧ ¬ (r = 72 ∨ r = 81 ∨ r = 87) then 2 else 0
theorem zE8 : ((List.range 256).all fun n => decide (b5 n = x9 (UInt8.ofNat n))) = true := by kernel_rfl
theorem J6 (c : UInt8) : b5 (c.toNat : Int) = x9 c := by
 have := List.all_eq_true.1 zE8 c.toNat (List.mem_range.2 c.toNat_lt)
 rw [decide_eq_true_eq, UInt8.ofNat_toNat] at this
 exact this
theorem zBR {r : Int} (h : 128 ≤ r) : b5 r = 0 := by
 unfold b5
 rw [if_neg (by omega), if_neg (by omega)]
theorem zBQ {c : UInt8} (h : 128 ≤ c.toNat) : x9 c = 0 := by rw [← J6, zBR (by omega)]
theorem zE6 {c : UInt8} (h : x9 c ≠ 0) : c.toNat < 128 := by
 apply Decidable.of_not_not
 intro hn
 exact h (zBQ (by omega))
theorem zFA : ((List.range 256).all fun n => (y7 (UInt8.ofNat n) == decide (x9 (UInt8.ofNat n) = 1)) && (x5 (UInt8.ofNat n) == decide (x9 (UInt8.ofNat n) = 2))) = true := by kernel_rfl
theorem zBS (c : UInt8) : y7 c = decide (x9 c = 1) ∧ x5 c = decide (x9 c = 2) := by
 have := List.all_eq_true.1 zFA c.toNat (List.mem_range.2 c.toNat_lt)
 rw [UInt8.ofNat_toNat, Bool.and_eq_true, beq_iff_eq, beq_iff_eq] at this
 exact this
theorem latin_kind {c : UInt8} : y7 c = true ↔ x9 c = 1 := by rw [(zBS c).1, decide_eq_true_eq]
theorem other_kind {c : UInt8} : x5 c = true ↔ x9 c = 2 := by rw [(zBS c).2, decide_eq_true_eq]
def FormTo (s : Str) (i : Nat) (k : Int) : Prop := (i = 0 ∧ k = 0) ∨ (0 < i ∧ k ≠ 0 ∧ ∀ j, j < i → x9 (s.getD j 0) = k)
theorem zE7 (c : UInt8) : x9 c = 0 ∨ x9 c = 1 ∨ x9 c = 2 := by
 unfold x9
 repeat' split
 all_goals simp
theorem FormTo.end {s : Str} {i : Nat} {k : Int} (h : FormTo s i k) (hi : i = s.length) (h0 : 0 < s.length) : o9 s = true := by
 rcases h with h | ⟨_, hk, h⟩
 ·omega
 ·unfold o9
  rw [Bool.or_eq_true, List.all_eq_true, List.all_eq_true]
  have hm : ∀ c, c ∈ s → x9 c = k := fun c hc => by
   obtain ⟨j, hj, rfl⟩ := List.getElem_of_mem hc
   have := h j (by omega)
   simpa [List.getD, hj] using this
  have hr : k = 1 ∨ k = 2 := by
   cases s with
   | nil => simp at h0
   | cons c r =>
    have h1 := hm c (by simp)
    rcases zE7 c with h2 | h2 | h2 <;> omega
  rcases hr with rfl | rfl
  ·exact .inl (fun c hc => latin_kind.2 (hm c hc))
  ·exact .inr (fun c hc => other_kind.2 (hm c hc))
theorem FormTo.next {s : Str} {i : Nat} {k : Int} (h : FormTo s i k) (hk : x9 (s.getD i 0) ≠ 0) (he : k = 0 ∨ x9 (s.getD i 0) = k) : FormTo s (i + 1) (x9 (s.getD i 0)) := by
 refine .inr ⟨by omega, hk, fun j hj => ?_⟩
 by_cases e : j = i
 ·rw [e]
 ·rcases h with ⟨rfl, rfl⟩ | ⟨h0, h1, h⟩
  ·omega
  ·rw [h j (by omega)]
   rcases he with he | he
   ·exact absurd he h1
   ·exact he.symm
theorem FormTo.bad {s : Str} {i : Nat} {k : Int} (h : FormTo s i k) (hi : i < s.length) (hb : x9 (s.getD i 0) = 0 ∨ (k ≠ 0 ∧ x9 (s.getD i 0) ≠ k)) : o9 s = false := by
 have hm : s.getD i 0 ∈ s := by simp [List.getD, hi]
 cases hf : o9 s with
 | false => rfl
 | true =>
  exfalso
  unfold o9 at hf
  rw [Bool.or_eq_true, List.all_eq_true, List.all_eq_true] at hf
  have hall : ∃ q, q ≠ 0 ∧ ∀ c, c ∈ s → x9 c = q := by
   rcases hf with hf | hf
   ·exact ⟨1, by decide, fun c hc => latin_kind.1 (hf c hc)⟩
   ·exact ⟨2, by decide, fun c hc => other_kind.1 (hf c hc)⟩
  obtain ⟨q, hq, hall⟩ := hall
  have h1 := hall _ hm
  rcases hb with hb | ⟨hb1, hb2⟩
  ·exact hq (h1.symm.trans hb)
  ·rcases h with ⟨_, h⟩ | ⟨h0, _, h⟩
   ·exact hb1 h
   ·have h2 := h 0 h0
    have h3 : s.getD 0 0 ∈ s := by
     have : 0 < s.length := by omega
     simp [List.getD, this]
    have := hall _ h3
    exact hb2 (by omega)
end Go.Abs

namespace Go.Abs
open Go Go.Proofs Tryz
attribute [local irreducible] y3 Hold y8
theorem zG9 (n : Int) : zLP prog 153 [iV n] [] (bV false) [] := by
 refine q9 func153 rfl (fun E hE => ?_); simp only [go_sem, ntmps153]
 repeat' (first | (refine Qr rfl ?_; try intro _ hK; try simp only [go_sem, *]) | refine Qh rfl ?_ | (refine Qc rfl rfl ?_ ?_ <;> (intro hb; have hc := hb; try simp only [go_sem] at hc)) | refine q8 rfl ?_ | ((with_reducible apply And.intro); focus omega) | (refine q7 hK ?_; clear hK; simp only [go_sem, *]) | simp only [q6, z8, go_sem, *])
 all_goals (refine ⟨[_], [], [], ⟨rfl, trivial⟩, ?_⟩; simp only [go_sem, *])
 all_goals simp_all
theorem zGZ (a b : Int) : zLP prog 130 [iV a, iV b] [] (iV (zLc a b)) [] := by
 refine q9 func130 rfl (fun E hE => ?_); simp only [go_sem, ntmps130]
 repeat' (first | (refine Qr rfl ?_; try intro _ hK; try simp only [go_sem, *]) | refine Qh rfl ?_ | (refine Qc rfl rfl ?_ ?_ <;> (intro hb; have hc := hb; try simp only [go_sem] at hc)) | refine q8 rfl ?_ | (refine y2 (zG9 _) ?_; simp only [go_sem, *]) | ((with_reducible apply And.intro); focus omega) | (refine q7 hK ?_; clear hK; simp only [go_sem, *]) | simp only [q6, z8, go_sem, *])
 all_goals (refine ⟨[_], [], [], ⟨rfl, trivial⟩, ?_⟩; simp only [go_sem, *])
 all_goals (refine N7 ?_; unfold zLc; repeat' split)
 all_goals omega
def orL : List Int → Int
 | [] => 0
 | x :: r => if x = 0 then orL r else x
theorem zCH (l : List Int) (hl : l.length ≤ 4294967296) : zLP prog 119 [.list (l.map iV)] [] (iV (orL l)) [] := by
 refine q9 func119 rfl (fun E hE => ?_); simp only [go_sem, ntmps119]
 repeat' (first | (refine Qr rfl ?_; try intro _ hK; try simp only [go_sem, *]) | refine Qh rfl ?_ | (refine Qc rfl rfl ?_ ?_ <;> (intro hb; have hc := hb; try simp only [go_sem] at hc)) | refine q8 rfl ?_ | ((with_reducible apply And.intro); focus omega) | (refine q7 hK ?_; clear hK; simp only [go_sem, *]) | simp only [q6, z8, go_sem, *])
 refine r8 rfl (l.length) (fun i => orL (l.drop i) = orL l) 18 (fun i => [(8, iV i), (7, iV l.length), (6, .list (l.map iV)), (3, iV 0)]) (fun i => []) [] [] (by simp) ?_; intro i hi hP
 repeat' (first | (refine Qr rfl ?_; try intro _ hK; try simp only [go_sem, *]) | refine Qh rfl ?_ | (refine Qc rfl rfl ?_ ?_ <;> (intro hb; have hc := hb; try simp only [go_sem] at hc)) | refine q8 rfl ?_ | ((with_reducible apply And.intro); focus omega) | (refine q7 hK ?_; clear hK; simp only [go_sem, *]) | simp only [q6, z8, go_sem, *])
 ·(refine ⟨[_], [], [], ⟨rfl, trivial⟩, ?_⟩; simp only [go_sem, *])
  rw [← hP, o6 ‹_›, orL, if_neg ‹_›]
 ·exact n0 (i' := i + 1) [] [] (by rw [← hP, o6 (i := i) ‹_›, orL, if_pos ‹_›])
 ·(refine ⟨[_], [], [], ⟨rfl, trivial⟩, ?_⟩; simp only [go_sem, *])
  rw [← hP, j9 (by omega), orL]
theorem zBq (a b : Int) : orL [a, b] = orI a b := by
 simp only [orL, orI]; repeat' split
 all_goals omega
theorem zHA (s : Str) : zLP prog 142 [sV s] [] (bV false) [] := by
 refine q9 func142 rfl (fun E hE => ?_); simp only [go_sem, ntmps142]
 repeat' (first | (refine Qr rfl ?_; try intro _ hK; try simp only [go_sem, *]) | refine Qh rfl ?_ | (refine Qc rfl rfl ?_ ?_ <;> (intro hb; have hc := hb; try simp only [go_sem] at hc)) | refine q8 rfl ?_ | ((with_reducible apply And.intro); focus omega) | (refine q7 hK ?_; clear hK; simp only [go_sem, *]) | simp only [q6, z8, go_sem, *])
 all_goals (refine ⟨[_], [], [], ⟨rfl, trivial⟩, ?_⟩; simp only [go_sem, *])
 all_goals simp_all
theorem zHB (s : Str) : zLP prog 172 [sV s] [] (bV false) [] := by
 refine q9 func172 rfl (fun E hE => ?_); simp only [go_sem, ntmps172]
 repeat' (first | (refine Qr rfl ?_; try intro _ hK; try simp only [go_sem, *]) | refine Qh rfl ?_ | (refine Qc rfl rfl ?_ ?_ <;> (intro hb; have hc := hb; try simp only [go_sem] at hc)) | refine q8 rfl ?_ | ((with_reducible apply And.intro); focus omega) | (refine q7 hK ?_; clear hK; simp only [go_sem, *]) | simp only [q6, z8, go_sem, *])
 all_goals (refine ⟨[_], [], [], ⟨rfl, trivial⟩, ?_⟩; simp only [go_sem, *])
 all_goals simp_all
theorem zCD (a b : Str) : zLP prog 120 [sV a, sV b] [] (iV (zLS a b)) [] := by
 refine q9 func120 rfl (fun E hE => ?_); simp only [go_sem, ntmps120]
 repeat' (first | (refine Qr rfl ?_; try intro _ hK; try simp only [go_sem, *]) | refine Qh rfl ?_ | (refine Qc rfl rfl ?_ ?_ <;> (intro hb; have hc := hb; try simp only [go_sem] at hc)) | refine q8 rfl ?_ | (refine y2 (zHA _) ?_; simp only [go_sem, *]) | ((with_reducible apply And.intro); focus omega) | (refine q7 hK ?_; clear hK; simp only [go_sem, *]) | simp only [q6, z8, go_sem, *])
 all_goals (refine ⟨[_], [], [], ⟨rfl, trivial⟩, ?_⟩; simp only [go_sem, *])
 all_goals (refine N7 ?_; unfold zLS w7; simp_all)
 all_goals (apply Decidable.of_not_not; intro h; exact absurd (P7 (by assumption) (by simpa using h)) (by assumption))
theorem zGb (a b : Str) : zLP prog 150 [sV a, sV b] [] (iV (zLS a b)) [] := by
 refine q9 func150 rfl (fun E hE => ?_); simp only [go_sem, ntmps150]
 repeat' (first | (refine Qr rfl ?_; try intro _ hK; try simp only [go_sem, *]) | refine Qh rfl ?_ | (refine Qc rfl rfl ?_ ?_ <;> (intro hb; have hc := hb; try simp only [go_sem] at hc)) | refine q8 rfl ?_ | (refine y2 (zHB _) ?_; simp only [go_sem, *]) | ((with_reducible apply And.intro); focus omega) | (refine q7 hK ?_; clear hK; simp only [go_sem, *]) | simp only [q6, z8, go_sem, *])
 all_goals (refine ⟨[_], [], [], ⟨rfl, trivial⟩, ?_⟩; simp only [go_sem, *])
 all_goals (refine N7 ?_; unfold zLS w7; simp_all)
 all_goals (apply Decidable.of_not_not; intro h; exact absurd (P7 (by assumption) (by simpa using h)) (by assumption))
end Go.Abs

namespace Go.Abs
open Go Go.Proofs Tryz
attribute [local irreducible] y3 Hold y8
theorem zFY : ¬ W6 := fun h => h
def hqw (r : Int) : Bool := decide (0 ≤ Lib.indexByte [72, 81, 87] r.toNat.toUInt8)
theorem zEs : ((List.range 128).all fun n => hqw n == (n == 72 || n == 81 || n == 87)) = true := by kernel_rfl
theorem zEt {r : Int} (h0 : 0 ≤ r) (h1 : r < 128) : hqw r = decide (r = 72 ∨ r = 81 ∨ r = 87) := by
 obtain ⟨n, rfl⟩ := Int.eq_ofNat_of_zero_le h0
 have := List.all_eq_true.1 zEs n (List.mem_range.2 (by omega))
 rw [beq_iff_eq] at this
 rw [this, Bool.eq_iff_iff]
 simp
 omega
theorem zG6 (r : Int) (h0 : 0 ≤ r) (h1 : r < 128) : zLP prog 128 [sV [72, 81, 87], .raw (.int .i32 r)] [] (bV (hqw r)) [] :=
 zHc [.string ⟨[72, 81, 87].toArray⟩, .int .i32 r] (.bool (hqw r)) rfl (fun w => Tryz.strings_ContainsRune_ascii _ r w h0 h1)
theorem G2 (r : Int) : zLP prog 92 [.raw (.int .i32 r)] [] (iV (b5 r)) [] := by
 by_cases q : 65 ≤ r ∧ r ≤ 90
 ·have sh := zG6 r (by omega) (by omega)
  have e := zEt (r := r) (by omega) (by omega)
  generalize hqw r = b at *
  have e0 : b = decide (r = 72 ∨ r = 81 ∨ r = 87) := e
  clear e
  refine q9 func92 rfl (fun E hE => ?_); simp only [go_sem, ntmps92]
  repeat' (first | (refine Qr rfl ?_; try intro _ hK; try simp only [go_sem, *]) | (refine Qi rfl rfl rfl rfl ?_ ?_ <;> (intro hb; (try intro _ hK); have hc := hb; try simp only [go_sem] at hc; simp only [go_sem, *])) | refine Qh rfl ?_ | (refine Qc rfl rfl ?_ ?_ <;> (intro hb; have hc := hb; try simp only [go_sem] at hc)) | refine q8 rfl ?_ | (refine y2 (sh) ?_; simp only [go_sem, *]) | ((with_reducible apply And.intro); focus omega) | (refine q7 hK ?_; clear hK; simp only [go_sem, *]) | simp only [q6, z8, go_sem, *])
  all_goals (refine ⟨[_], [], [], ⟨rfl, trivial⟩, ?_⟩; simp only [go_sem, *])
  all_goals (refine N7 ?_; unfold b5; simp_all)
  all_goals omega
 ·refine q9 func92 rfl (fun E hE => ?_); simp only [go_sem, ntmps92]
  repeat' (first | (refine Qr rfl ?_; try intro _ hK; try simp only [go_sem, *]) | (refine Qi rfl rfl rfl rfl ?_ ?_ <;> (intro hb; (try intro _ hK); have hc := hb; try simp only [go_sem] at hc; simp only [go_sem, *])) | refine Qh rfl ?_ | (refine Qc rfl rfl ?_ ?_ <;> (intro hb; have hc := hb; try simp only [go_sem] at hc)) | refine q8 rfl ?_ | ((with_reducible apply And.intro); focus omega) | (refine q7 hK ?_; clear hK; simp only [go_sem, *]) | simp only [q6, z8, go_sem, *])
  all_goals try omega
  all_goals (refine ⟨[_], [], [], ⟨rfl, trivial⟩, ?_⟩; simp only [go_sem, *])
  all_goals (refine N7 ?_; unfold b5; simp_all)
  all_goals omega
end Go.Abs

namespace Go.Abs
open Go Go.Proofs Tryz
attribute [local irreducible] y3 Hold y8
theorem zFK : ((List.range 128).all fun n => n == 67 || n == 74 || n == 88 || n == 89 || decide (Lib.toLowerA [UInt8.ofNat n] = y5 (UInt8.ofNat n))) = true := by kernel_rfl
theorem zFL {c : UInt8} (h : c.toNat < 128) (h1 : ¬ c.toNat = 67) (h2 : ¬ c.toNat = 74) (h3 : ¬ c.toNat = 88) (h4 : ¬ c.toNat = 89) : Lib.toLowerA [c] = y5 c := by
 have := List.all_eq_true.1 zFK c.toNat (List.mem_range.2 h)
 simpa [h1, h2, h3, h4] using this
theorem zHE (c : UInt8) (h : c.toNat < 128) : zLP prog 143 [sV [c]] [] (sV (Lib.toLowerA [c])) [] :=
 zHZ zFY [.string ⟨[c].toArray⟩] (.string ⟨(Lib.toLowerA [c]).toArray⟩) rfl (fun w => Tryz.strings_ToLower_ascii ⟨[c].toArray⟩ w (by simp) (fun j b hb => by
  cases j with
  | zero => simp at hb; subst hb; exact h
  | succ j => simp at hb))
theorem zGR : y5 67 = [99, 104] := by decide
theorem zGS : y5 74 = [106, 117] := by decide
theorem zGT : y5 88 = [115, 104] := by decide
theorem zGU : y5 89 = [106, 97] := by decide
theorem zCU (c : UInt8) (h : c.toNat < 128) : zLP prog 122 [.raw (.int .i32 (c.toNat : Int))] [] (sV (y5 c)) [] := by
 have sl := zHE c h
 have ee := F9 (n := (c.toNat : Int)) (by omega) (by omega)
 rw [Int.toNat_natCast, UInt8.ofNat_toNat] at ee
 have hl := zFL h
 have k1 : c.toNat = 67 → y5 c = [99, 104] := fun e => by rw [UInt8.toNat_inj.1 (show c.toNat = (67 : UInt8).toNat from e), zGR]
 have k2 : c.toNat = 74 → y5 c = [106, 117] := fun e => by rw [UInt8.toNat_inj.1 (show c.toNat = (74 : UInt8).toNat from e), zGS]
 have k3 : c.toNat = 88 → y5 c = [115, 104] := fun e => by rw [UInt8.toNat_inj.1 (show c.toNat = (88 : UInt8).toNat from e), zGT]
 have k4 : c.toNat = 89 → y5 c = [106, 97] := fun e => by rw [UInt8.toNat_inj.1 (show c.toNat = (89 : UInt8).toNat from e), zGU]
 generalize c.toNat = n at *
 generalize y5 c = sb at *
 have fin : n < 128 → ¬ n = 67 → ¬ n = 74 → ¬ n = 88 → ¬ n = 89 → Lib.toLowerA [c] = sb := fun _ => hl
 clear hl
 generalize Lib.toLowerA [c] = lb at *
 generalize he : Utf8.encode (n : Int) = eb at *
 obtain ⟨ev, hev⟩ : ∃ v, v = Value.string eb := ⟨_, rfl⟩
 have sl2 : zLP prog 143 [.raw (.string eb)] [] (sV lb) [] := by rw [ee]; exact sl
 clear ee sl hev ev
 refine q9 func122 rfl (fun E hE => ?_); simp only [go_sem, ntmps122]
 repeat' (first | (refine Qr rfl ?_; try intro _ hK; try simp only [go_sem, *]) | refine Qh rfl ?_ | (refine Qc rfl rfl ?_ ?_ <;> (intro hb; have hc := hb; try simp only [go_sem] at hc)) | refine q8 rfl ?_ | (refine y2 (sl2) ?_; simp only [go_sem, *]) | ((with_reducible apply And.intro); focus omega) | (refine q7 hK ?_; clear hK; simp only [go_sem, *]) | simp only [q6, z8, go_sem, *])
 all_goals (refine ⟨[_], [], [], ⟨rfl, trivial⟩, ?_⟩; simp only [go_sem, *])
 ·rw [k1 (by omega)]
 ·rw [k2 (by omega)]
 ·rw [k4 (by omega)]
 ·rw [k3 (by omega)]
 ·rw [fin (by omega) (by omega) (by omega) (by omega) (by omega)]
end Go.Abs

namespace Go.Abs
open Go Go.Proofs Tryz
attribute [local irreducible] y3 Hold y8
theorem zCB (s : Str) {i : Nat} (h : i < s.length) : b5 ((Utf8.decode ⟨s.toArray⟩ i).1 : Int) = x9 (s.getD i 0) ∧ (x9 (s.getD i 0) ≠ 0 → (Utf8.decode ⟨s.toArray⟩ i).2 = 1) := by
 by_cases q : (s.getD i 0).toNat < 128
 ·rw [F6 h q]
  exact ⟨J6 _, fun _ => rfl⟩
 ·have := zDh h (by omega)
  rw [zBQ (by omega), zBR (by omega)]
  exact ⟨rfl, fun h => absurd rfl h⟩
def NoQ (_ : Nat) : Prop := True
theorem G1 (s : Str) : zLP prog 44 [sV s] [] (iV (y9 s)) [] := by
 have e0 : s.length = 0 → y9 s = 7 := fun h => by unfold y9; rw [if_pos h]
 have e1 : 6 < s.length → y9 s = 10 := fun h => by unfold y9; rw [if_neg (by omega), if_pos h]
 have e2 : 0 < s.length → s.length ≤ 6 → y9 s = if o9 s = true then 0 else 2 := fun h h' => by unfold y9; rw [if_neg (by omega), if_neg (by omega)]
 refine q9 func44 rfl (fun E hE => ?_); simp only [go_sem, ntmps44]
 repeat' (first | (refine Qr rfl ?_; try intro _ hK; try simp only [go_sem, *]) | (refine Qi rfl rfl rfl rfl ?_ ?_ <;> (intro hb; (try intro _ hK); have hc := hb; try simp only [go_sem] at hc; simp only [go_sem, *])) | refine Qh rfl ?_ | (refine Qc rfl rfl ?_ ?_ <;> (intro hb; have hc := hb; try simp only [go_sem] at hc)) | refine q8 rfl ?_ | ((with_reducible apply And.intro); focus omega) | (refine q7 hK ?_; clear hK; simp only [go_sem, *]) | simp only [q6, z8, go_sem, *])
 ·(refine ⟨[_], [], [], ⟨rfl, trivial⟩, ?_⟩; simp only [go_sem, *])
  rw [e0 (by omega)]
 ·(refine ⟨[_], [], [], ⟨rfl, trivial⟩, ?_⟩; simp only [go_sem, *])
  rw [e1 (by omega)]
 ·have e3 := e2 (by omega) (by omega)
  have h0 : 0 < s.length := by omega
  have h6 : s.length ≤ 6 := by omega
  clear e0 e1 e2
  refine c0 rfl (s.length) (fun i (k : Int) => FormTo s i k) 30 (fun i k => [(14, .ptr 0 0), (3, iV k)]) (fun i k => [.siter ⟨s.toArray⟩ i]) [some 0] [] (0) (by exact .inl ⟨rfl, rfl⟩) ?_; intro i k hi hP
  by_cases hi2 : i < s.length
  ·obtain ⟨r1, r2⟩ := zCB s hi2
   have hbad := hP.bad hi2
   have hnext := hP.next
   have sk := G2 ((Utf8.decode ⟨s.toArray⟩ i).1 : Int)
   rw [r1] at sk
   generalize hde : Utf8.decode ⟨s.toArray⟩ i = d at *
   obtain ⟨d1, d2⟩ := d
   simp only at r2 sk
   clear r1 hP
   generalize x9 (s.getD i 0) = kb at *
   repeat' (first | (refine Qr rfl ?_; try intro _ hK; try simp only [go_sem, *]) | (refine Qi rfl rfl rfl rfl ?_ ?_ <;> (intro hb; (try intro _ hK); have hc := hb; try simp only [go_sem] at hc; simp only [go_sem, *])) | refine Qh rfl ?_ | (refine Qc rfl rfl ?_ ?_ <;> (intro hb; have hc := hb; try simp only [go_sem] at hc)) | refine q8 rfl ?_ | (refine y2 (sk) ?_; simp only [go_sem, *]) | ((with_reducible apply And.intro); focus omega) | (refine q7 hK ?_; clear hK; simp only [go_sem, *]) | simp only [q6, z8, go_sem, *])
   all_goals first | (exact r9 (i' := i + 1) [some 0] [] (kb) (by exact hnext (by assumption) (by first | (left; assumption) | (right; omega)))) | (focus ((refine ⟨[_], [], [], ⟨rfl, trivial⟩, ?_⟩; simp only [go_sem, *]); done))
  ·have hf := hP.end (by omega) h0
   rw [if_pos hf] at e3
   clear hP
   repeat' (first | (refine Qr rfl ?_; try intro _ hK; try simp only [go_sem, *]) | (refine Qi rfl rfl rfl rfl ?_ ?_ <;> (intro hb; (try intro _ hK); have hc := hb; try simp only [go_sem] at hc; simp only [go_sem, *])) | refine Qh rfl ?_ | (refine Qc rfl rfl ?_ ?_ <;> (intro hb; have hc := hb; try simp only [go_sem] at hc)) | refine q8 rfl ?_ | ((with_reducible apply And.intro); focus omega) | (refine q7 hK ?_; clear hK; simp only [go_sem, *]) | simp only [q6, z8, go_sem, *])
   (refine ⟨[_], [], [], ⟨rfl, trivial⟩, ?_⟩; simp only [go_sem, *])
theorem zBM {s : Str} {i : Nat} (h : i < s.length) : zLO (s.take (i + 1)) = zLO (s.take i) ++ y5 (s.getD i 0) := by
 rw [List.take_succ_eq_append_getElem h, zLO, List.flatMap_append]
 simp [zLO, List.getD, h]
@[go_sem] theorem zJs : zLO [] = [] := rfl
theorem zBL (s : Str) (i : Nat) : (zLO (s.take i)).length ≤ 2 * s.length := by
 have h1 := (V5 (s.take i)).2
 simp at h1
 omega
theorem zFT {s : Str} (v : o9 s = true) {i : Nat} (h : i < s.length) : (s.getD i 0).toNat < 128 := by
 apply zE6
 have hm : s.getD i 0 ∈ s := by simp [List.getD, h]
 unfold o9 at v
 rw [Bool.or_eq_true, List.all_eq_true, List.all_eq_true] at v
 rcases v with v | v
 ·rw [latin_kind.1 (v _ hm)]; decide
 ·rw [other_kind.1 (v _ hm)]; decide
theorem W3 (s : Str) (v : o9 s = true) (hl : s.length ≤ 1000) : zLP prog 85 [sV s] [] (sV (zLO s)) [] := by
 refine q9 func85 rfl (fun E hE => ?_); simp only [go_sem, ntmps85]
 repeat' (first | (refine Qr rfl ?_; try intro _ hK; try simp only [go_sem, *]) | refine Qh rfl ?_ | (refine Qc rfl rfl ?_ ?_ <;> (intro hb; have hc := hb; try simp only [go_sem] at hc)) | refine q8 rfl ?_ | ((with_reducible apply And.intro); focus omega) | (refine q7 hK ?_; clear hK; simp only [go_sem, *]) | simp only [q6, z8, go_sem, *])
 refine r8 rfl (s.length) (fun i => NoQ i) 16 (fun i => [(7, .ptr 0 0), (3, sV (zLO (s.take i)))]) (fun i => [.siter ⟨s.toArray⟩ i]) [some 0] [] (by trivial) ?_; intro i hi hP
 have hk2 := zBL s i
 by_cases hi2 : i < s.length
 ·have ha := zFT v hi2
  have hd := F6 hi2 ha
  have ss := zCU _ ha
  have hs2 := (Q7 (s.getD i 0)).2
  have hkt := zBM hi2
  generalize y5 (s.getD i 0) = sb at *
  generalize zLO (s.take i) = kt at *
  repeat' (first | (refine Qr rfl ?_; try intro _ hK; try simp only [go_sem, *]) | refine Qh rfl ?_ | (refine Qc rfl rfl ?_ ?_ <;> (intro hb; have hc := hb; try simp only [go_sem] at hc)) | refine q8 rfl ?_ | (refine y2 (ss) ?_; simp only [go_sem, *]) | ((with_reducible apply And.intro); focus omega) | (refine q7 hK ?_; clear hK; simp only [go_sem, *]) | simp only [q6, z8, go_sem, *])
  exact n0 (i' := i + 1) [some 0] [] (by trivial)
 ·have e : s.take i = s := List.take_of_length_le (by omega)
  rw [e]
  clear hk2
  repeat' (first | (refine Qr rfl ?_; try intro _ hK; try simp only [go_sem, *]) | refine Qh rfl ?_ | (refine Qc rfl rfl ?_ ?_ <;> (intro hb; have hc := hb; try simp only [go_sem] at hc)) | refine q8 rfl ?_ | ((with_reducible apply And.intro); focus omega) | (refine q7 hK ?_; clear hK; simp only [go_sem, *]) | simp only [q6, z8, go_sem, *])
  (refine ⟨[_], [], [], ⟨rfl, trivial⟩, ?_⟩; simp only [go_sem, *])
theorem zCG (s : Str) : zLP prog 37 [sV s] [] (.tup [sV (if y9 s = 0 then zLO s else []), iV (y9 s)]) [] := by
 have sc := G1 s
 by_cases q : y9 s = 0
 ·have v := checkN_zero.1 q
  have so := W3 s v.form (by have := v.len; omega)
  rw [if_pos q]
  rw [q] at sc ⊢
  refine q9 func37 rfl (fun E hE => ?_); simp only [go_sem, ntmps37]
  repeat' (first | (refine Qr rfl ?_; try intro _ hK; try simp only [go_sem, *]) | refine Qh rfl ?_ | (refine Qc rfl rfl ?_ ?_ <;> (intro hb; have hc := hb; try simp only [go_sem] at hc)) | refine q8 rfl ?_ | ((first | refine y2 (sc) ?_ | refine y2 (so) ?_); simp only [go_sem, *]) | ((with_reducible apply And.intro); focus omega) | (refine q7 hK ?_; clear hK; simp only [go_sem, *]) | simp only [q6, z8, go_sem, *])
  all_goals try contradiction
  (refine ⟨[_, _], [], [], ⟨rfl, rfl, trivial⟩, ?_⟩; simp only [go_sem, *])
 ·rw [if_neg q]
  generalize y9 s = e at *
  refine q9 func37 rfl (fun E hE => ?_); simp only [go_sem, ntmps37]
  repeat' (first | (refine Qr rfl ?_; try intro _ hK; try simp only [go_sem, *]) | refine Qh rfl ?_ | (refine Qc rfl rfl ?_ ?_ <;> (intro hb; have hc := hb; try simp only [go_sem] at hc)) | refine q8 rfl ?_ | (refine y2 (sc) ?_; simp only [go_sem, *]) | ((with_reducible apply And.intro); focus omega) | (refine q7 hK ?_; clear hK; simp only [go_sem, *]) | simp only [q6, z8, go_sem, *])
  all_goals try contradiction
  (refine ⟨[_, _], [], [], ⟨rfl, rfl, trivial⟩, ?_⟩; simp only [go_sem, *])
end Go.Abs

namespace Go.Abs
open Go Go.Proofs Tryz
attribute [local irreducible] y3 Hold y8
abbrev fnV (f : FuncId) : AV := .raw (.func (.func f) #[] #[])
abbrev y6 (l : List Str) : AV := .list (l.map sV)
theorem zFU {l : List Str} {i : Nat} (h : i < l.length) : r4 (l.drop i) = if y9 (l.getD i default) = 0 then r4 (l.drop (i + 1)) else y9 (l.getD i default) := by
 rw [o6 h, r4]
theorem zCJ (l : List Str) (hl : l.length ≤ 4294967296) : zLP prog 87 [y6 l] [] (iV (r4 l)) [] := by
 refine q9 func87 rfl (fun E hE => ?_); simp only [go_sem, ntmps87]
 repeat' (first | (refine Qr rfl ?_; try intro _ hK; try simp only [go_sem, *]) | refine Qh rfl ?_ | (refine Qc rfl rfl ?_ ?_ <;> (intro hb; have hc := hb; try simp only [go_sem] at hc)) | refine q8 rfl ?_ | ((with_reducible apply And.intro); focus omega) | (refine q7 hK ?_; clear hK; simp only [go_sem, *]) | simp only [q6, z8, go_sem, *])
 refine r8 rfl (l.length) (fun i => r4 (l.drop i) = r4 l) 18 (fun i => [(8, iV i), (7, iV l.length), (6, y6 l)]) (fun i => []) [] [] (by simp) ?_; intro i hi hP
 by_cases hi2 : i < l.length
 ·have hs := zFU hi2
  have sc := G1 (l.getD i default)
  by_cases q : y9 (l.getD i default) = 0
  ·rw [if_pos q] at hs
   rw [q] at sc
   repeat' (first | (refine Qr rfl ?_; try intro _ hK; try simp only [go_sem, *]) | refine Qh rfl ?_ | (refine Qc rfl rfl ?_ ?_ <;> (intro hb; have hc := hb; try simp only [go_sem] at hc)) | refine q8 rfl ?_ | (refine y2 (sc) ?_; simp only [go_sem, *]) | ((with_reducible apply And.intro); focus omega) | (refine q7 hK ?_; clear hK; simp only [go_sem, *]) | simp only [q6, z8, go_sem, *])
   all_goals try contradiction
   exact n0 (i' := i + 1) [] [] (by rw [← hP, hs])
  ·rw [if_neg q] at hs
   rw [hs] at hP
   generalize y9 (l.getD i default) = e at *
   subst hP
   repeat' (first | (refine Qr rfl ?_; try intro _ hK; try simp only [go_sem, *]) | refine Qh rfl ?_ | (refine Qc rfl rfl ?_ ?_ <;> (intro hb; have hc := hb; try simp only [go_sem] at hc)) | refine q8 rfl ?_ | (refine y2 (sc) ?_; simp only [go_sem, *]) | ((with_reducible apply And.intro); focus omega) | (refine q7 hK ?_; clear hK; simp only [go_sem, *]) | simp only [q6, z8, go_sem, *])
   all_goals try contradiction
   (refine ⟨[_], [], [], ⟨rfl, trivial⟩, ?_⟩; simp only [go_sem, *])
 ·have e : r4 l = 0 := by rw [← hP, j9 (by omega)]; rfl
  rw [e]
  repeat' (first | (refine Qr rfl ?_; try intro _ hK; try simp only [go_sem, *]) | refine Qh rfl ?_ | (refine Qc rfl rfl ?_ ?_ <;> (intro hb; have hc := hb; try simp only [go_sem] at hc)) | refine q8 rfl ?_ | ((with_reducible apply And.intro); focus omega) | (refine q7 hK ?_; clear hK; simp only [go_sem, *]) | simp only [q6, z8, go_sem, *])
  (refine ⟨[_], [], [], ⟨rfl, trivial⟩, ?_⟩; simp only [go_sem, *])
theorem zCP (l : List Str) (hl : l.length ≤ 4294967296) : zLP prog 95 [y6 l] [] (iV (p6 l)) [] := by
 have sc := zCJ l hl
 have e0 : 6 < l.length → p6 l = 6 := fun h => by unfold p6; rw [if_pos h]
 have e1 : l.length ≤ 6 → p6 l = r4 l := fun h => by unfold p6; rw [if_neg (by omega)]
 generalize r4 l = e at *
 generalize p6 l = r at *
 refine q9 func95 rfl (fun E hE => ?_); simp only [go_sem, ntmps95]
 repeat' (first | (refine Qr rfl ?_; try intro _ hK; try simp only [go_sem, *]) | refine Qh rfl ?_ | (refine Qc rfl rfl ?_ ?_ <;> (intro hb; have hc := hb; try simp only [go_sem] at hc)) | refine q8 rfl ?_ | (refine y2 (sc) ?_; simp only [go_sem, *]) | ((with_reducible apply And.intro); focus omega) | (refine q7 hK ?_; clear hK; simp only [go_sem, *]) | simp only [q6, z8, go_sem, *])
 ·(refine ⟨[_], [], [], ⟨rfl, trivial⟩, ?_⟩; simp only [go_sem, *])
  rw [e0 (by omega)]
 ·(refine ⟨[_], [], [], ⟨rfl, trivial⟩, ?_⟩; simp only [go_sem, *])
  rw [e1 (by omega)]
theorem zCT (s : Str) (h : 0 < s.length) : zLP prog 129 [sV s] [] (iV (o8 s)) [] := by
 have sk := G2 ((s.getD 0 0).toNat : Int)
 rw [J6] at sk
 have hw : IntKind.i32.wrap ((s.getD 0 0).toNat : Int) = ((s.getD 0 0).toNat : Int) := by
  have := (s.getD 0 0).toNat_lt
  rw [IntKind.wrap_i32]; omega
 have e : o8 s = x9 (s.getD 0 0) := rfl
 rw [e]
 generalize x9 (s.getD 0 0) = k at *
 refine q9 func129 rfl (fun E hE => ?_); simp only [go_sem, ntmps129]
 repeat' (first | (refine Qr rfl ?_; try intro _ hK; try simp only [go_sem, *]) | refine Qh rfl ?_ | (refine Qc rfl rfl ?_ ?_ <;> (intro hb; have hc := hb; try simp only [go_sem] at hc)) | refine q8 rfl ?_ | (refine y2 (sk) ?_; simp only [go_sem, *]) | ((with_reducible apply And.intro); focus omega) | (refine q7 hK ?_; clear hK; simp only [go_sem, *]) | simp only [q6, z8, go_sem, *])
 (refine ⟨[_], [], [], ⟨rfl, trivial⟩, ?_⟩; simp only [go_sem, *])
theorem zGy (a b : Str) (va : ValidN a) (vb : ValidN b) : zLP prog 96 [sV a, sV b] [] (iV (o5 a b)) [] := by
 have sa := W3 a va.form (by have := va.len; omega)
 have sb := W3 b vb.form (by have := vb.len; omega)
 have ta := zCT a va.ne
 have tb := zCT b vb.ne
 have e : o5 a b = orI (zLS (zLO a) (zLO b)) (zLc (o8 a) (o8 b)) := rfl
 have s1 := zCD (zLO a) (zLO b)
 have s2 := zGZ (o8 a) (o8 b)
 have so := zCH [zLS (zLO a) (zLO b), zLc (o8 a) (o8 b)] (by simp)
 rw [zBq] at so
 rw [e]
 generalize orI (zLS (zLO a) (zLO b)) (zLc (o8 a) (o8 b)) = r at *
 generalize zLS (zLO a) (zLO b) = r1 at *
 generalize zLc (o8 a) (o8 b) = r2 at *
 generalize zLO a = ka at *
 generalize zLO b = kb at *
 generalize o8 a = ja at *
 generalize o8 b = jb at *
 clear e va vb
 refine q9 func96 rfl (fun E hE => ?_); simp only [go_sem, ntmps96]
 repeat' (first | (refine Qr rfl ?_; try intro _ hK; try simp only [go_sem, *]) | refine Qh rfl ?_ | (refine Qc rfl rfl ?_ ?_ <;> (intro hb; have hc := hb; try simp only [go_sem] at hc)) | refine q8 rfl ?_ | ((first | refine y2 (s1) ?_ | refine y2 (s2) ?_); simp only [go_sem, *]) | (refine x6 (sa) ?_ ?_; (focus (simp only [go_sem, *]; done)); simp only [go_sem, *]) | (refine x6 (sb) ?_ ?_; (focus (simp only [go_sem, *]; done)); simp only [go_sem, *]) | (refine x6 (ta) ?_ ?_; (focus (simp only [go_sem, *]; done)); simp only [go_sem, *]) | (refine x6 (tb) ?_ ?_; (focus (simp only [go_sem, *]; done)); simp only [go_sem, *]) | ((with_reducible apply And.intro); focus omega) | (refine q7 hK ?_; clear hK; simp only [go_sem, *]) | simp only [q6, z8, go_sem, *])
 (refine Y7 [0] (so) (by simp only [go_sem, *]) (.raw _) ?_; simp only [go_sem, *])
 repeat' (first | (refine Qr rfl ?_; try intro _ hK; try simp only [go_sem, *]) | refine Qh rfl ?_ | (refine Qc rfl rfl ?_ ?_ <;> (intro hb; have hc := hb; try simp only [go_sem] at hc)) | refine q8 rfl ?_ | ((with_reducible apply And.intro); focus omega) | (refine q7 hK ?_; clear hK; simp only [go_sem, *]) | simp only [q6, z8, go_sem, *])
 (refine ⟨[_], [], [], ⟨rfl, trivial⟩, ?_⟩; simp only [go_sem, *])
theorem zBw (a b : Str) : r4 [a, b] = if y9 a = 0 then y9 b else y9 a := by
 unfold r4
 split
 ·unfold r4
  split
  ·rename_i h; rw [h]; rfl
  ·rfl
 ·rfl
def zI8 (a b : Str) : Int := r4 [a, b]
def zIL (l : List Str) (i : Nat) : Prop := ∀ j, i ≤ j → j + 1 < l.length → ¬ o5 (l.getD (j + 1) []) (l.getD j []) < 0
end Go.Abs

namespace Go.Abs
open Go Go.Proofs Tryz
attribute [local irreducible] y3 Hold y8
theorem zBl : ∀ {l : List Str}, r4 l = 0 → ∀ s, s ∈ l → ValidN s
 | [], _, s, h => by cases h
 | a :: r, e, s, h => by
  rw [r4] at e
  split at e
  ·rename_i ha
   rcases List.mem_cons.1 h with rfl | h
   ·exact checkN_zero.1 ha
   ·exact zBl e s h
  ·rename_i ha; exact absurd e ha
theorem zBZ {l : List Str} (h : p6 l = 0) : l.length ≤ 6 := by
 unfold p6 at h
 split at h
 ·cases h
 ·omega
theorem C1 {l : List Str} (h : p6 l = 0) : ∀ s, s ∈ l → ValidN s := by
 unfold p6 at h
 split at h
 ·cases h
 ·exact zBl h
end Go.Abs

namespace Go.Abs
open Go Go.Proofs Tryz
attribute [local irreducible] y3 Hold y8
abbrev nV (n : Nat) : AV := iV (n : Int)
theorem zFf (cf : Nat → Nat → Int) (xs : List Nat) : xs = p9 cf (xs.take 1) ++ xs.drop 1 := by
 cases xs with
 | nil => rfl
 | cons x r => simp [p9, zLe, zLw]
def zMP (cf : Nat → Nat → Int) (xs cur : List Nat) (i : Nat) : Prop := cur = p9 cf (xs.take (i + 1)) ++ xs.drop (i + 1)
theorem zHS (l : List Str) (hv : ∀ s, s ∈ l → ValidN s) (a b : Nat) (ha : a < l.length) (hb' : b < l.length) : zLP prog 107 [nV a, nV b, .ptr 0 0] [.box [y6 l]] (iV (o5 (l.getD a []) (l.getD b []))) [.box [y6 l]] := by
 have sc := zGy _ _ (hv _ (i3 ha)) (hv _ (i3 hb'))
 have e : o5 (l.getD a []) (l.getD b []) = o5 (l.getD a default) (l.getD b default) := rfl
 rw [e]
 clear e
 generalize o5 (l.getD a default) (l.getD b default) = r at *
 refine q9 func107 rfl (fun E hE => ?_); simp only [go_sem, ntmps107]
 repeat' (first | (refine Qr rfl ?_; try intro _ hK; try simp only [go_sem, *]) | refine Qh rfl ?_ | refine Qd rfl (by kernel_rfl) ?_ | (refine Qc rfl rfl ?_ ?_ <;> (intro hb; have hc := hb; try simp only [go_sem] at hc)) | refine q8 rfl ?_ | (refine Qb ?_ ?_; focus kernel_rfl) | (refine y2 (sc) ?_; simp only [go_sem, *]) | ((with_reducible apply And.intro); focus omega) | (refine q7 hK ?_; clear hK; simp only [go_sem, *]) | simp only [q6, z8, go_sem, *])
 refine ⟨[_], [some 0], [], ⟨rfl, trivial⟩, ?_⟩
 simp only [go_sem, *]
theorem zG8 (l : List Str) (hv : ∀ s, s ∈ l → ValidN s) (xs : List Nat) (h1 : xs.length ≤ 20) (hx : ∀ x, x ∈ xs → x < l.length) :
  zLP prog 154 [.own 0 1 0 xs.length, iV 0, iV xs.length, .fn 107 [.ptr 1 0]] [.row 1 (xs.map nV), .box [y6 l]] (.tup []) [.row 1 ((p9 (cfI l) xs).map nV), .box [y6 l]] := by
 have hca : u7 prog 107 = true := by kernel_rfl
 have hf : ∀ a b : Nat, a < l.length → b < l.length → zLP prog 107 [nV a, nV b, .ptr 0 0] [.box [y6 l]] (iV (cfI l a b)) [.box [y6 l]] := fun a b h1 h2 => zHS l hv a b h1 h2
 clear hv
 refine q9 func154 rfl (fun E hE => ?_); simp only [go_sem, ntmps154]
 have hw0 : IntKind.i64.wrap 1 = (1 : Int) := wrap_i64 (by omega) (by omega)
 repeat' (first | (refine Qr rfl ?_; try intro _ hK; try simp only [go_sem, *]) | (refine Qi rfl rfl rfl rfl ?_ ?_ <;> (intro hb; (try intro _ hK); have hc := hb; try simp only [go_sem] at hc; simp only [go_sem, *])) | refine Qh rfl ?_ | refine Qd rfl (by kernel_rfl) ?_ | (refine Qc rfl rfl ?_ ?_ <;> (intro hb; have hc := hb; try simp only [go_sem] at hc)) | refine q8 rfl ?_ | (refine Qb ?_ ?_; focus kernel_rfl) | ((with_reducible apply And.intro); focus omega) | (refine q7 hK ?_; clear hK; simp only [go_sem, *]) | simp only [q6, z8, go_sem, *])
 refine c0 rfl (xs.length) (fun i (cur : List Nat) => zMP (cfI l) xs cur i) 53 (fun i cur => [(8, iV ((i : Int) + 1)), (0, .own 0 1 0 xs.length), (1, iV 0), (2, iV xs.length), (3, .fn 107 [.ptr 1 0])]) (fun i cur => [.row 1 (cur.map nV), .box [y6 l]]) [some 0, some 1] [] (xs) (by exact zFf (cfI l) xs) ?_; intro i cur hi hP
 have hw : i < xs.length → IntKind.i64.wrap ((i : Int) + 1 + 1) = (((i + 1 : Nat) : Int) + 1) := fun h => by rw [wrap_i64 (by omega) (by omega)]; omega
 have hcm : ((i : Int) + 1 < (xs.length : Int)) = (i + 1 < xs.length) := by simp only [eq_iff_iff]; omega
 repeat' (first | (refine Qr rfl ?_; try intro _ hK; try simp only [go_sem, *]) | (refine Qi rfl rfl rfl rfl ?_ ?_ <;> (intro hb; (try intro _ hK); have hc := hb; try simp only [go_sem] at hc; simp only [go_sem, *])) | refine Qh rfl ?_ | refine Qd rfl (by kernel_rfl) ?_ | (refine Qc rfl rfl ?_ ?_ <;> (intro hb; have hc := hb; try simp only [go_sem] at hc)) | refine q8 rfl ?_ | (refine Qb ?_ ?_; focus kernel_rfl) | ((with_reducible apply And.intro); focus omega) | (refine q7 hK ?_; clear hK; simp only [go_sem, *]) | simp only [q6, z8, go_sem, *])
 ·have hlt : i + 1 < xs.length := by assumption
  have hlt' : i < xs.length := by omega
  obtain ⟨S, hS⟩ : ∃ S, S = p9 (cfI l) (xs.take (i + 1)) := ⟨_, rfl⟩
  have hSl : S.length = i + 1 := by rw [hS, zBJ]; simp; try omega
  obtain ⟨x, hxx⟩ : ∃ x, x = xs.getD (i + 1) default := ⟨_, rfl⟩
  obtain ⟨R, hR⟩ : ∃ R, R = xs.drop (i + 1 + 1) := ⟨_, rfl⟩
  have hxl : x < l.length := by rw [hxx]; exact hx _ (i3 hlt)
  have hSm : ∀ k, k < S.length → S.getD k default < l.length := fun k hk => by
   have h2 : S.getD k default ∈ S := i3 hk
   rw [hS] at h2
   have h3 := (D6 (cfI l) (xs.take (i + 1))).mem_iff.1 h2
   rw [← hS] at h3
   exact hx _ (List.mem_of_mem_take h3)
  have hcur : cur = S ++ x :: R := by
   unfold zMP at hP
   rw [hP, hS, hxx, hR, o6 hlt]
  have hfin : zLe (cfI l) S x ++ R = p9 (cfI l) (xs.take (i + 1 + 1)) ++ xs.drop (i + 1 + 1) := by
   rw [hS, hxx, hR, zHj hlt, zE2]
  have hst : InsP (cfI l) S x R cur 0 := by rw [hcur]; exact InsP.start (cfI l) S x R
  have hRl : R.length = xs.length - (i + 2) := by rw [hR]; simp; try omega
  clear hS hxx hR hcur hP
  refine c0 rfl (i + 1) (fun d (cur : List Nat) => InsP (cfI l) S x R cur d) 53 (fun d cur => [(9, iV (((i + 1) - d : Nat) : Int)), (8, iV ((i : Int) + 1)), (0, .own 0 1 0 xs.length), (1, iV 0), (2, iV xs.length), (3, .fn 107 [.ptr 1 0])]) (fun d cur => [.row 1 (cur.map nV), .box [y6 l]]) [some 0, some 1] [] (cur) (by exact hst) ?_; intro d cur hd hQ
  have hcl : cur.length = xs.length := by rw [hQ.1, zDa]; omega
  have gx : cur.getD (i + 1 - d) default = x := by rw [hQ.1, ← hSl]; exact zDc S x R (by omega)
  have gy : d < i + 1 → cur.getD (i + 1 - d - 1) default = S.getD (i + 1 - d - 1) default := fun h => by rw [hQ.1, ← hSl]; exact zDd S x R (by omega)
  have hwk : 0 < i + 1 - d → IntKind.i64.wrap (((i + 1 - d : Nat) : Int) - 1) = ((i + 1 - d - 1 : Nat) : Int) := fun h => by rw [wrap_i64 (by omega) (by omega)]; omega
  have hnx : i + 1 - (d + 1) = i + 1 - d - 1 := by omega
  have hkl : i + 1 - d < xs.length := by omega
  have hkl1 : i + 1 - d - 1 < xs.length := by omega
  have hd1 : 0 < i + 1 - d → d < i + 1 := fun h => by omega
  by_cases hd2 : d < i + 1
  ·have sf := hf x (S.getD (i + 1 - d - 1) default) hxl (hSm _ (by omega))
   have gy2 := gy hd2
   clear hf gy
   repeat' (first | (refine Qr rfl ?_; try intro _ hK; try simp only [go_sem, *]) | (refine Qi rfl rfl rfl rfl ?_ ?_ <;> (intro hb; (try intro _ hK); have hc := hb; try simp only [go_sem] at hc; simp only [go_sem, *])) | refine Qh rfl ?_ | refine Qd rfl (by kernel_rfl) ?_ | (refine Qc rfl rfl ?_ ?_ <;> (intro hb; have hc := hb; try simp only [go_sem] at hc)) | refine q8 rfl ?_ | (refine Qb ?_ ?_; focus kernel_rfl) | (refine w8 [1] (sf) ?_; simp only [go_sem, *]) | ((with_reducible apply And.intro); focus omega) | (refine q7 hK ?_; clear hK; simp only [go_sem, *]) | simp only [q6, z8, go_sem, *])
   all_goals try (exfalso; omega)
   ·exact r9 (i' := d + 1) [some 0, some 1] [] ((cur.set (i + 1 - d) (S.getD (i + 1 - d - 1) default)).set (i + 1 - d - 1) x) (by have := InsP.next (cfI l) hQ (by omega) (by rw [hSl]; assumption); rwa [hSl] at this)
   ·have hs := InsP.stop (cfI l) hQ (by omega) (fun _ => by rw [hSl]; omega)
    exact r9 (i' := i + 1) [some 0, some 1] [] (cur) (by rw [hs]; exact hfin)
  ·have hs := InsP.stop (cfI l) hQ (by omega) (fun h => by omega)
   clear hf gy
   repeat' (first | (refine Qr rfl ?_; try intro _ hK; try simp only [go_sem, *]) | (refine Qi rfl rfl rfl rfl ?_ ?_ <;> (intro hb; (try intro _ hK); have hc := hb; try simp only [go_sem] at hc; simp only [go_sem, *])) | refine Qh rfl ?_ | refine Qd rfl (by kernel_rfl) ?_ | (refine Qc rfl rfl ?_ ?_ <;> (intro hb; have hc := hb; try simp only [go_sem] at hc)) | refine q8 rfl ?_ | (refine Qb ?_ ?_; focus kernel_rfl) | ((with_reducible apply And.intro); focus omega) | (refine q7 hK ?_; clear hK; simp only [go_sem, *]) | simp only [q6, z8, go_sem, *])
   all_goals try (exfalso; omega)
   exact r9 (i' := i + 1) [some 0, some 1] [] (cur) (by rw [hs]; exact hfin)
 ·refine ⟨[], [some 0, some 1], [], trivial, ?_⟩
  have e1 : xs.take (i + 1) = xs := List.take_of_length_le (by omega)
  have e2 : xs.drop (i + 1) = [] := j9 (by omega)
  unfold zMP at hP
  rw [e1, e2, List.append_nil] at hP
  rw [hP]
  simp only [go_sem, j5, *]
end Go.Abs

namespace Go.Abs
open Go Go.Proofs Tryz
attribute [local irreducible] y3 Hold y8
attribute [go_sem] List.length_range
theorem zHU (l : List Str) (hv : ∀ s, s ∈ l → ValidN s) (xs : List Nat) (h1 : xs.length ≤ 6) (hx : ∀ x, x ∈ xs → x < l.length) :
  zLP prog 133 [.own 0 1 0 xs.length, iV xs.length, .fn 107 [.ptr 1 0]] [.row 1 (xs.map nV), .box [y6 l]] (.tup []) [.row 1 ((p9 (cfI l) xs).map nV), .box [y6 l]] := by
 have si := zG8 l hv xs (by omega) hx
 have hli : ((p9 (cfI l) xs).map nV).length = xs.length := by simp [zBJ]
 generalize p9 (cfI l) xs = ys at *
 clear hv hx
 have g1 : ¬ ((20 : Int) ≤ (xs.length : Int)) := by omega
 have g2 : ¬ ((20 : Int) < (xs.length : Int)) := by omega
 have g3 : IntKind.i64.wrap ((20 : Int) + 20) = 40 := by decide
 refine q9 func133 rfl (fun E hE => ?_); simp only [go_sem, ntmps133]
 repeat' (first | (refine Qr rfl ?_; try intro _ hK; try simp only [go_sem, *]) | refine Qh rfl ?_ | (refine Qc rfl rfl ?_ ?_ <;> (intro hb; have hc := hb; try simp only [go_sem] at hc)) | refine q8 rfl ?_ | ((with_reducible apply And.intro); focus omega) | (refine q7 hK ?_; clear hK; simp only [go_sem, *]) | simp only [q6, z8, go_sem, *])
 refine r8 rfl (1) (fun i => NoQ i) 63 (fun i => [(8, iV 20), (7, iV 0), (6, iV 20), (0, .own 0 1 0 xs.length), (1, iV xs.length), (2, .fn 107 [.ptr 1 0])]) (fun i => [.row 1 (xs.map nV), .box [y6 l]]) [some 0, some 1] [] (by trivial) ?_; intro i hi hP
 repeat' (first | (refine Qr rfl ?_; try intro _ hK; try simp only [go_sem, *]) | refine Qh rfl ?_ | (refine Qc rfl rfl ?_ ?_ <;> (intro hb; have hc := hb; try simp only [go_sem] at hc)) | refine q8 rfl ?_ | (refine w8 [0, 1] (si) ?_; simp only [go_sem, *]) | ((with_reducible apply And.intro); focus omega) | (refine q7 hK ?_; clear hK; simp only [go_sem, *]) | simp only [q6, z8, go_sem, *])
 all_goals try (exfalso; omega)
 refine r8 rfl (1) (fun i => NoQ i) 63 (fun i => [(6, iV 20), (0, .own 0 1 0 xs.length), (1, iV xs.length), (2, .fn 107 [.ptr 1 0])]) (fun i => [.row 1 (ys.map nV), .box [y6 l]]) [some 0, some 1] [] (by trivial) ?_; intro i hi hP
 repeat' (first | (refine Qr rfl ?_; try intro _ hK; try simp only [go_sem, *]) | refine Qh rfl ?_ | (refine Qc rfl rfl ?_ ?_ <;> (intro hb; have hc := hb; try simp only [go_sem] at hc)) | refine q8 rfl ?_ | ((with_reducible apply And.intro); focus omega) | (refine q7 hK ?_; clear hK; simp only [go_sem, *]) | simp only [q6, z8, go_sem, *])
 all_goals try (exfalso; omega)
 refine ⟨[], [some 0, some 1], [], trivial, ?_⟩
 simp only [go_sem, j5, *]
theorem zGp (l : List Str) (hv : ∀ s, s ∈ l → ValidN s) (xs : List Nat) (h1 : xs.length ≤ 6) (hx : ∀ x, x ∈ xs → x < l.length) :
  zLP prog 106 [.own 0 1 0 xs.length, .fn 107 [.ptr 1 0]] [.row 1 (xs.map nV), .box [y6 l]] (.tup []) [.row 1 ((p9 (cfI l) xs).map nV), .box [y6 l]] := by
 have si := zHU l hv xs h1 hx
 generalize p9 (cfI l) xs = ys at *
 clear hv hx
 refine q9 func106 rfl (fun E hE => ?_); simp only [go_sem, ntmps106]
 repeat' (first | (refine Qr rfl ?_; try intro _ hK; try simp only [go_sem, *]) | refine Qh rfl ?_ | (refine Qc rfl rfl ?_ ?_ <;> (intro hb; have hc := hb; try simp only [go_sem] at hc)) | refine q8 rfl ?_ | (refine w8 [0, 1] (si) ?_; simp only [go_sem, *]) | ((with_reducible apply And.intro); focus omega) | (refine q7 hK ?_; clear hK; simp only [go_sem, *]) | simp only [q6, z8, go_sem, *])
 refine ⟨[], [some 0, some 1], [], trivial, ?_⟩
 simp only [go_sem, j5, *]
theorem zGq (l : List Str) (q : p6 l = 0) : zLP prog 62 [y6 l] [] (.tup [.own 0 1 0 l.length, iV 0]) [.row 1 ((P6 l).map nV)] := by
 have hv := C1 q
 have h6 := zBZ q
 have s1 := zCP l (by omega)
 rw [q] at s1
 have ss := zGp l hv (List.range l.length) (by simpa using h6) (fun x hx => List.mem_range.1 hx)
 rw [List.length_range] at ss
 have e : p9 (cfI l) (List.range l.length) = P6 l := rfl
 rw [e] at ss
 have hsl := zGN l
 generalize P6 l = ys at *
 clear hv q e
 refine q9 func62 rfl (fun E hE => ?_); simp only [go_sem, ntmps62]
 repeat' (first | (refine Qr rfl ?_; try intro _ hK; try simp only [go_sem, *]) | refine Qh rfl ?_ | (refine Qc rfl rfl ?_ ?_ <;> (intro hb; have hc := hb; try simp only [go_sem] at hc)) | refine q8 rfl ?_ | (refine y2 (s1) ?_; simp only [go_sem, *]) | ((with_reducible apply And.intro); focus omega) | (refine q7 hK ?_; clear hK; simp only [go_sem, *]) | simp only [q6, z8, go_sem, *])
 all_goals try contradiction
 refine r8 rfl (l.length) (fun i => NoQ i) 26 (fun i => [(14, iV i), (13, iV l.length), (5, .own 1 1 0 i), (1, .ptr 0 0)]) (fun i => [.box [y6 l], .row 1 ((List.range i).map nV)]) [some 0, none] [] (by trivial) ?_; intro i hi hP
 by_cases hi2 : i < l.length
 ·clear ss
  repeat' (first | (refine Qr rfl ?_; try intro _ hK; try simp only [go_sem, *]) | refine Qh rfl ?_ | (refine Qc rfl rfl ?_ ?_ <;> (intro hb; have hc := hb; try simp only [go_sem] at hc)) | refine q8 rfl ?_ | ((with_reducible apply And.intro); focus omega) | (refine q7 hK ?_; clear hK; simp only [go_sem, *]) | simp only [q6, z8, go_sem, *])
  exact n0 (i' := i + 1) [some 0, some 3] [] (by trivial)
 ·have e : i = l.length := by omega
  subst e
  repeat' (first | (refine Qr rfl ?_; try intro _ hK; try simp only [go_sem, *]) | refine Qh rfl ?_ | (refine Qc rfl rfl ?_ ?_ <;> (intro hb; have hc := hb; try simp only [go_sem] at hc)) | refine q8 rfl ?_ | (refine w8 [1, 0] (ss) ?_; simp only [go_sem, *]) | ((with_reducible apply And.intro); focus omega) | (refine q7 hK ?_; clear hK; simp only [go_sem, *]) | simp only [q6, z8, go_sem, *])
  refine ⟨[_, _], [some 1], [], ⟨rfl, rfl, trivial⟩, ?_⟩
  simp only [go_sem, *]
end Go.Abs

namespace Go.Abs
open Go Go.Proofs Tryz
attribute [local irreducible] y3 Hold y8
theorem zHC (r : Int) : zLP prog 145 [.raw (.int .i32 r)] [] (bV (b5 r != 1)) [] := by
 have sk := G2 r
 generalize b5 r = k at *
 refine q9 func145 rfl (fun E hE => ?_); simp only [go_sem, ntmps145]
 repeat' (first | (refine Qr rfl ?_; try intro _ hK; try simp only [go_sem, *]) | refine Qh rfl ?_ | (refine Qc rfl rfl ?_ ?_ <;> (intro hb; have hc := hb; try simp only [go_sem] at hc)) | refine q8 rfl ?_ | (refine y2 (sk) ?_; simp only [go_sem, *]) | ((with_reducible apply And.intro); focus omega) | (refine q7 hK ?_; clear hK; simp only [go_sem, *]) | simp only [q6, z8, go_sem, *])
 (refine ⟨[_], [], [], ⟨rfl, trivial⟩, ?_⟩; simp only [go_sem, *])
theorem zG7 (s : Str) (hl : s.length ≤ 4294967296) : ∃ n : Int, (0 ≤ n ↔ s.all y7 = false) ∧ zLP prog 189 [sV s, fnV 145, bV true] [] (iV n) [] := by
  have hca : u7 prog 145 = true := by kernel_rfl
  obtain ⟨k, hk⟩ : ∃ k : Nat, k = (s.takeWhile y7).length := ⟨_, rfl⟩
  have hkl : k ≤ s.length := by rw [hk]; exact (List.takeWhile_sublist _).length_le
  have hin : ∀ i, i < k → y7 (s.getD i 0) = true := fun i hi => by
    have h1 : i < (s.takeWhile y7).length := by omega
    have h2 := List.all_eq_true.1 (List.all_takeWhile (p := y7) (l := s)) _ (List.getElem_mem h1)
    have h3 : (s.takeWhile y7)[i] = s[i]'(by omega) := List.IsPrefix.getElem (List.takeWhile_prefix _) h1
    rw [h3] at h2
    simpa [List.getD, show i < s.length by omega] using h2
  have hout : k < s.length → y7 (s.getD k 0) = false := fun h => by
    have h1 : s.dropWhile y7 ≠ [] := fun e => by
      have := congrArg List.length (List.takeWhile_append_dropWhile (p := y7) (l := s))
      rw [List.length_append, e] at this
      simp at this; omega
    have h2 := List.head_dropWhile_not (p := y7) h1
    have h3 : (s.dropWhile y7).head h1 = s.getD k 0 := by
      have h4 : s = s.takeWhile y7 ++ s.dropWhile y7 := (List.takeWhile_append_dropWhile).symm
      have h5 : s.getD k 0 = (s.takeWhile y7 ++ s.dropWhile y7).getD k 0 := by rw [← h4]
      rw [h5, hk]
      generalize s.takeWhile y7 = tw
      generalize s.dropWhile y7 = dw at h1
      cases dw with
      | nil => exact absurd rfl h1
      | cons a r => simp
    rw [h3] at h2
    exact h2
  refine ⟨if k < s.length then (k : Int) else -1, ?_, ?_⟩
  · by_cases h : k < s.length
    · rw [if_pos h]
      refine ⟨fun _ => ?_, fun _ => by omega⟩
      rw [List.all_eq_false]
      refine ⟨s.getD k 0, ?_, by rw [hout h]; simp⟩
      simp [List.getD, h]
    · rw [if_neg h]
      refine ⟨fun h => by omega, fun hf => ?_⟩
      rw [List.all_eq_false] at hf
      obtain ⟨x, hx, hn⟩ := hf
      obtain ⟨i, hi, rfl⟩ := List.getElem_of_mem hx
      have := hin i (by omega)
      rw [show s.getD i 0 = s[i] by simp [List.getD, hi]] at this
      exact absurd this hn
  · have hwv : ∀ i, i < s.length → (i < k → x9 (s.getD i 0) = 1) ∧ (i = k → x9 (s.getD i 0) ≠ 1) := fun i hi => ⟨fun h => latin_kind.1 (hin i h), fun h => by
      subst h
      intro e
      have := latin_kind.2 e
      rw [hout hi] at this; cases this⟩
    clear hk hin hout
    refine q9 func189 rfl (fun E hE => ?_); simp only [go_sem, ntmps189]
    repeat' (first | (refine Qr rfl ?_; try intro _ hK; try simp only [go_sem, *]) | refine Qh rfl ?_ | (refine Qc rfl rfl ?_ ?_ <;> (intro hb; have hc := hb; try simp only [go_sem] at hc)) | refine q8 rfl ?_ | ((with_reducible apply And.intro); focus omega) | (refine q7 hK ?_; clear hK; simp only [go_sem, *]) | simp only [q6, z8, go_sem, *])
    refine r8 rfl (s.length) (fun i => i ≤ k) 21 (fun i => [(10, .ptr 0 0), (1, fnV 145), (2, bV true)]) (fun i => [.siter ⟨s.toArray⟩ i]) [some 0] [] (by omega) ?_; intro i hi hP
    by_cases hi2 : i < s.length
    · obtain ⟨r1, r2⟩ := zCB s hi2
      obtain ⟨w1, w2⟩ := hwv i hi2
      have sk := zHC ((Utf8.decode ⟨s.toArray⟩ i).1 : Int)
      rw [r1] at sk
      generalize hde : Utf8.decode ⟨s.toArray⟩ i = d at *
      obtain ⟨d1, d2⟩ := d
      simp only at r2 sk
      clear r1 hwv
      by_cases hik : i < k
      · have e1 := w1 hik
        rw [e1] at sk r2
        have e2 := r2 (by decide)
        subst e2
        have e3 : ((1 : Int) != 1) = false := by decide
        rw [e3] at sk
        clear r2 w1 w2 e1 e3
        repeat' (first | (refine Qr rfl ?_; try intro _ hK; try simp only [go_sem, *]) | refine Qh rfl ?_ | (refine Qc rfl rfl ?_ ?_ <;> (intro hb; have hc := hb; try simp only [go_sem] at hc)) | refine q8 rfl ?_ | (refine y2 (sk) ?_; simp only [go_sem, *]) | ((with_reducible apply And.intro); focus omega) | (refine q7 hK ?_; clear hK; simp only [go_sem, *]) | simp only [q6, z8, go_sem, *])
        all_goals try contradiction
        exact n0 (i' := i + 1) [some 0] [] (by omega)
      · have e1 := w2 (by omega)
        have e3 : (x9 (s.getD i 0) != 1) = true := by simpa using e1
        rw [e3] at sk
        have e4 : k < s.length := by omega
        have e5 : i = k := by omega
        rw [if_pos e4]
        subst e5
        clear r2 w1 w2 e1 e3
        repeat' (first | (refine Qr rfl ?_; try intro _ hK; try simp only [go_sem, *]) | refine Qh rfl ?_ | (refine Qc rfl rfl ?_ ?_ <;> (intro hb; have hc := hb; try simp only [go_sem] at hc)) | refine q8 rfl ?_ | (refine y2 (sk) ?_; simp only [go_sem, *]) | ((with_reducible apply And.intro); focus omega) | (refine q7 hK ?_; clear hK; simp only [go_sem, *]) | simp only [q6, z8, go_sem, *])
        all_goals try contradiction
        (refine ⟨[_], [], [], ⟨rfl, trivial⟩, ?_⟩; simp only [go_sem, *])
    · have e4 : ¬ k < s.length := by omega
      rw [if_neg e4]
      clear hwv
      repeat' (first | (refine Qr rfl ?_; try intro _ hK; try simp only [go_sem, *]) | refine Qh rfl ?_ | (refine Qc rfl rfl ?_ ?_ <;> (intro hb; have hc := hb; try simp only [go_sem] at hc)) | refine q8 rfl ?_ | ((with_reducible apply And.intro); focus omega) | (refine q7 hK ?_; clear hK; simp only [go_sem, *]) | simp only [q6, z8, go_sem, *])
      (refine ⟨[_], [], [], ⟨rfl, trivial⟩, ?_⟩; simp only [go_sem, *])
theorem zGi (s : Str) (hl : s.length ≤ 4294967296) : ∃ n : Int, (0 ≤ n ↔ s.all y7 = false) ∧ zLP prog 169 [sV s, fnV 145] [] (iV n) [] := by
 obtain ⟨n, hn, si⟩ := zG7 s hl
 refine ⟨n, hn, ?_⟩
 clear hn
 refine q9 func169 rfl (fun E hE => ?_); simp only [go_sem, ntmps169]
 repeat' (first | (refine Qr rfl ?_; try intro _ hK; try simp only [go_sem, *]) | refine Qh rfl ?_ | (refine Qc rfl rfl ?_ ?_ <;> (intro hb; have hc := hb; try simp only [go_sem] at hc)) | refine q8 rfl ?_ | (refine y2 (si) ?_; simp only [go_sem, *]) | ((with_reducible apply And.intro); focus omega) | (refine q7 hK ?_; clear hK; simp only [go_sem, *]) | simp only [q6, z8, go_sem, *])
 (refine ⟨[_], [], [], ⟨rfl, trivial⟩, ?_⟩; simp only [go_sem, *])
theorem zGc (s : Str) (hl : s.length ≤ 4294967296) : zLP prog 144 [sV s, fnV 145] [] (bV (!s.all y7)) [] := by
 obtain ⟨n, hn, si⟩ := zGi s hl
 have e : (!s.all y7) = decide (n ≥ 0) := by
  rw [Bool.eq_iff_iff, Bool.not_eq_true', decide_eq_true_eq]; exact hn.symm
 rw [e]
 clear hn e
 refine q9 func144 rfl (fun E hE => ?_); simp only [go_sem, ntmps144]
 repeat' (first | (refine Qr rfl ?_; try intro _ hK; try simp only [go_sem, *]) | refine Qh rfl ?_ | (refine Qc rfl rfl ?_ ?_ <;> (intro hb; have hc := hb; try simp only [go_sem] at hc)) | refine q8 rfl ?_ | (refine y2 (si) ?_; simp only [go_sem, *]) | ((with_reducible apply And.intro); focus omega) | (refine q7 hK ?_; clear hK; simp only [go_sem, *]) | simp only [q6, z8, go_sem, *])
 (refine ⟨[_], [], [], ⟨rfl, trivial⟩, ?_⟩; simp only [go_sem, *])
theorem A9 (s : Str) (lo hi : Nat) (hl : s.length ≤ 4294967296) : zLP prog 123 [sV s, iV lo, iV hi] [] (bV (x8 s lo hi)) [] := by
 have sc := zGc s hl
 have e : x8 s lo hi = (decide ((lo : Int) ≤ s.length) && (decide ((s.length : Int) ≤ hi) && s.all y7)) := by unfold x8; simp
 rw [e]
 generalize s.all y7 = b at *
 clear e
 refine q9 func123 rfl (fun E hE => ?_); simp only [go_sem, ntmps123]
 repeat' (first | (refine Qr rfl ?_; try intro _ hK; try simp only [go_sem, *]) | (refine Qi rfl rfl rfl rfl ?_ ?_ <;> (intro hb; (try intro _ hK); have hc := hb; try simp only [go_sem] at hc; simp only [go_sem, *])) | refine Qh rfl ?_ | (refine Qc rfl rfl ?_ ?_ <;> (intro hb; have hc := hb; try simp only [go_sem] at hc)) | refine q8 rfl ?_ | (refine y2 (sc) ?_; simp only [go_sem, *]) | ((with_reducible apply And.intro); focus omega) | (refine q7 hK ?_; clear hK; simp only [go_sem, *]) | simp only [q6, z8, go_sem, *])
 all_goals try contradiction
 all_goals (refine ⟨[_], [], [], ⟨rfl, trivial⟩, ?_⟩; simp only [go_sem, *])
 all_goals simp_all
end Go.Abs

namespace Go.Abs
open Go Go.Proofs Tryz
attribute [local irreducible] y3 Hold y8
abbrev w6 (l : List Rule) : AV := .list (l.map Rule.enc)
attribute [go_sem] Rule.enc
theorem zF3 {l : List Rule} {i : Nat} (h : i < l.length) : (l.drop i).all Rule.ok = ((l.getD i default).ok && (l.drop (i + 1)).all Rule.ok) := by
 rw [o6 h, List.all_cons]
theorem zF1 (r : Rule) : r.ok = (x8 r.src 1 2 && (x8 r.dst 0 2 && !(r.src == r.dst))) := by
 unfold Rule.ok
 rw [Bool.eq_iff_iff]
 simp
theorem zHP (l : List Rule) (hl : l.length ≤ 4294967296) (hr : ∀ r, r ∈ l → r.src.length ≤ 4294967296 ∧ r.dst.length ≤ 4294967296) : zLP prog 86 [w6 l] [] (iV (l4 l)) [] := by
 have e0 : 4 < l.length → l4 l = 6 := fun h => by unfold l4; rw [if_pos h]
 have e1 : l.length ≤ 4 → l4 l = if l.all Rule.ok = true then 0 else 2 := fun h => by unfold l4; rw [if_neg (by omega)]
 generalize l4 l = re at *
 refine q9 func86 rfl (fun E hE => ?_); simp only [go_sem, ntmps86]
 repeat' (first | (refine Qr rfl ?_; try intro _ hK; try simp only [go_sem, *]) | (refine Qi rfl rfl rfl rfl ?_ ?_ <;> (intro hb; (try intro _ hK); have hc := hb; try simp only [go_sem] at hc; simp only [go_sem, *])) | refine Qh rfl ?_ | (refine Qc rfl rfl ?_ ?_ <;> (intro hb; have hc := hb; try simp only [go_sem] at hc)) | refine q8 rfl ?_ | ((with_reducible apply And.intro); focus omega) | (refine q7 hK ?_; clear hK; simp only [go_sem, *]) | simp only [q6, z8, go_sem, *])
 ·(refine ⟨[_], [], [], ⟨rfl, trivial⟩, ?_⟩; simp only [go_sem, *])
  rw [e0 (by omega)]
 ·have e2 := e1 (by omega)
  rw [e2]
  clear e0 e1 e2
  refine r8 rfl (l.length) (fun i => (l.drop i).all Rule.ok = l.all Rule.ok) 32 (fun i => [(10, iV i), (9, iV l.length), (8, w6 l)]) (fun i => []) [] [] (by simp) ?_; intro i hi hP
  by_cases hi2 : i < l.length
  ·have hs := zF3 hi2
   rw [zF1] at hs
   have hrl := hr _ (i3 hi2)
   have s1 := A9 (l.getD i default).src 1 2 hrl.1
   have s2 := A9 (l.getD i default).dst 0 2 hrl.2
   generalize x8 (l.getD i default).src 1 2 = b1 at *
   generalize x8 (l.getD i default).dst 0 2 = b2 at *
   clear hrl hr
   rw [hs] at hP
   cases b1 with
   | false =>
    rw [← hP]
    clear hP hs s2
    repeat' (first | (refine Qr rfl ?_; try intro _ hK; try simp only [go_sem, *]) | (refine Qi rfl rfl rfl rfl ?_ ?_ <;> (intro hb; (try intro _ hK); have hc := hb; try simp only [go_sem] at hc; simp only [go_sem, *])) | refine Qh rfl ?_ | (refine Qc rfl rfl ?_ ?_ <;> (intro hb; have hc := hb; try simp only [go_sem] at hc)) | refine q8 rfl ?_ | (refine x6 (s1) ?_ ?_; (focus (simp only [go_sem, *]; done)); simp only [go_sem, *]) | ((with_reducible apply And.intro); focus omega) | (refine q7 hK ?_; clear hK; simp only [go_sem, *]) | simp only [q6, z8, go_sem, *])
    all_goals try contradiction
    (refine ⟨[_], [], [], ⟨rfl, trivial⟩, ?_⟩; simp only [go_sem, *])
   | true =>
    cases b2 with
    | false =>
     rw [← hP]
     clear hP hs
     repeat' (first | (refine Qr rfl ?_; try intro _ hK; try simp only [go_sem, *]) | (refine Qi rfl rfl rfl rfl ?_ ?_ <;> (intro hb; (try intro _ hK); have hc := hb; try simp only [go_sem] at hc; simp only [go_sem, *])) | refine Qh rfl ?_ | (refine Qc rfl rfl ?_ ?_ <;> (intro hb; have hc := hb; try simp only [go_sem] at hc)) | refine q8 rfl ?_ | (refine x6 (s1) ?_ ?_; (focus (simp only [go_sem, *]; done)); simp only [go_sem, *]) | (refine x6 (s2) ?_ ?_; (focus (simp only [go_sem, *]; done)); simp only [go_sem, *]) | ((with_reducible apply And.intro); focus omega) | (refine q7 hK ?_; clear hK; simp only [go_sem, *]) | simp only [q6, z8, go_sem, *])
     all_goals try contradiction
     (refine ⟨[_], [], [], ⟨rfl, trivial⟩, ?_⟩; simp only [go_sem, *])
    | true =>
     generalize hb3 : ((l.getD i default).src == (l.getD i default).dst) = b3 at *
     cases b3 with
     | true =>
      rw [← hP]
      clear hP hs
      repeat' (first | (refine Qr rfl ?_; try intro _ hK; try simp only [go_sem, *]) | (refine Qi rfl rfl rfl rfl ?_ ?_ <;> (intro hb; (try intro _ hK); have hc := hb; try simp only [go_sem] at hc; simp only [go_sem, *])) | refine Qh rfl ?_ | (refine Qc rfl rfl ?_ ?_ <;> (intro hb; have hc := hb; try simp only [go_sem] at hc)) | refine q8 rfl ?_ | (refine x6 (s1) ?_ ?_; (focus (simp only [go_sem, *]; done)); simp only [go_sem, *]) | (refine x6 (s2) ?_ ?_; (focus (simp only [go_sem, *]; done)); simp only [go_sem, *]) | ((with_reducible apply And.intro); focus omega) | (refine q7 hK ?_; clear hK; simp only [go_sem, *]) | simp only [q6, z8, go_sem, *])
      all_goals try contradiction
      (refine ⟨[_], [], [], ⟨rfl, trivial⟩, ?_⟩; simp only [go_sem, *])
     | false =>
      simp only [Bool.true_and, Bool.not_false] at hP
      clear hs
      repeat' (first | (refine Qr rfl ?_; try intro _ hK; try simp only [go_sem, *]) | (refine Qi rfl rfl rfl rfl ?_ ?_ <;> (intro hb; (try intro _ hK); have hc := hb; try simp only [go_sem] at hc; simp only [go_sem, *])) | refine Qh rfl ?_ | (refine Qc rfl rfl ?_ ?_ <;> (intro hb; have hc := hb; try simp only [go_sem] at hc)) | refine q8 rfl ?_ | (refine x6 (s1) ?_ ?_; (focus (simp only [go_sem, *]; done)); simp only [go_sem, *]) | (refine x6 (s2) ?_ ?_; (focus (simp only [go_sem, *]; done)); simp only [go_sem, *]) | ((with_reducible apply And.intro); focus omega) | (refine q7 hK ?_; clear hK; simp only [go_sem, *]) | simp only [q6, z8, go_sem, *])
      all_goals try contradiction
      exact n0 (i' := i + 1) [] [] (by exact hP)
  ·have e : l.all Rule.ok = true := by rw [← hP, j9 (by omega)]; rfl
   rw [if_pos e]
   clear hP e
   repeat' (first | (refine Qr rfl ?_; try intro _ hK; try simp only [go_sem, *]) | (refine Qi rfl rfl rfl rfl ?_ ?_ <;> (intro hb; (try intro _ hK); have hc := hb; try simp only [go_sem] at hc; simp only [go_sem, *])) | refine Qh rfl ?_ | (refine Qc rfl rfl ?_ ?_ <;> (intro hb; have hc := hb; try simp only [go_sem] at hc)) | refine q8 rfl ?_ | ((with_reducible apply And.intro); focus omega) | (refine q7 hK ?_; clear hK; simp only [go_sem, *]) | simp only [q6, z8, go_sem, *])
   (refine ⟨[_], [], [], ⟨rfl, trivial⟩, ?_⟩; simp only [go_sem, *])
theorem zCF (s p : Str) (h1 : s.length ≤ 4294967296) (h2 : p.length ≤ 4294967296) : zLP prog 151 [sV s, sV p] [] (bV (p.isPrefixOf s)) [] := by
 have e : p.isPrefixOf s = (decide (p.length ≤ s.length) && (s.take p.length == p)) := by
  rw [Bool.eq_iff_iff, List.isPrefixOf_iff_prefix, Bool.and_eq_true, decide_eq_true_eq, beq_iff_eq, List.prefix_iff_eq_take]
  constructor
  ·intro h
   refine ⟨?_, h.symm⟩
   have := congrArg List.length h
   simp at this; omega
  ·rintro ⟨_, h⟩; exact h.symm
 rw [e]
 clear e
 refine q9 func151 rfl (fun E hE => ?_); simp only [go_sem, ntmps151]
 repeat' (first | (refine Qr rfl ?_; try intro _ hK; try simp only [go_sem, *]) | (refine Qi rfl rfl rfl rfl ?_ ?_ <;> (intro hb; (try intro _ hK); have hc := hb; try simp only [go_sem] at hc; simp only [go_sem, *])) | refine Qh rfl ?_ | (refine Qc rfl rfl ?_ ?_ <;> (intro hb; have hc := hb; try simp only [go_sem] at hc)) | refine q8 rfl ?_ | ((with_reducible apply And.intro); focus omega) | (refine q7 hK ?_; clear hK; simp only [go_sem, *]) | simp only [q6, z8, go_sem, *])
 all_goals (refine ⟨[_], [], [], ⟨rfl, trivial⟩, ?_⟩; simp only [go_sem, *])
 all_goals simp_all
theorem zCE (s p : Str) (h1 : s.length ≤ 4294967296) (h2 : p.length ≤ 4294967296) : zLP prog 127 [sV s, sV p] [] (bV (p.isPrefixOf s)) [] := by
 have s1 := zCF s p h1 h2
 generalize p.isPrefixOf s = b at *
 refine q9 func127 rfl (fun E hE => ?_); simp only [go_sem, ntmps127]
 repeat' (first | (refine Qr rfl ?_; try intro _ hK; try simp only [go_sem, *]) | refine Qh rfl ?_ | (refine Qc rfl rfl ?_ ?_ <;> (intro hb; have hc := hb; try simp only [go_sem] at hc)) | refine q8 rfl ?_ | (refine y2 (s1) ?_; simp only [go_sem, *]) | ((with_reducible apply And.intro); focus omega) | (refine q7 hK ?_; clear hK; simp only [go_sem, *]) | simp only [q6, z8, go_sem, *])
 (refine ⟨[_], [], [], ⟨rfl, trivial⟩, ?_⟩; simp only [go_sem, *])
theorem zDW {x y : List Str} {i : Nat} (h1 : i < x.length) (h2 : i < y.length) : zLU (x.drop i) (y.drop i) = if zLS (x.getD i default) (y.getD i default) = 0 then zLU (x.drop (i + 1)) (y.drop (i + 1)) else zLS (x.getD i default) (y.getD i default) := by
 rw [o6 h1, o6 h2, zLU]
theorem zDV {x y : List Str} {i : Nat} (h1 : i < x.length) (h2 : y.length ≤ i) : zLU (x.drop i) (y.drop i) = 1 := by
 rw [o6 h1, j9 h2, zLU]
theorem zDU {x y : List Str} {i : Nat} (h1 : x.length ≤ i) : zLU (x.drop i) (y.drop i) = if i < y.length then -1 else 0 := by
 rw [j9 h1]
 by_cases h2 : i < y.length
 ·rw [o6 h2, zLU, if_pos h2]
 ·rw [j9 (by omega), zLU, if_neg h2]
theorem zGa (x y : List Str) (h1 : x.length ≤ 4294967296) (h2 : y.length ≤ 4294967296) : zLP prog 126 [y6 x, y6 y] [] (iV (zLU x y)) [] := by
 refine q9 func126 rfl (fun E hE => ?_); simp only [go_sem, ntmps126]
 repeat' (first | (refine Qr rfl ?_; try intro _ hK; try simp only [go_sem, *]) | refine Qh rfl ?_ | (refine Qc rfl rfl ?_ ?_ <;> (intro hb; have hc := hb; try simp only [go_sem] at hc)) | refine q8 rfl ?_ | ((with_reducible apply And.intro); focus omega) | (refine q7 hK ?_; clear hK; simp only [go_sem, *]) | simp only [q6, z8, go_sem, *])
 refine r8 rfl (x.length) (fun i => zLU (x.drop i) (y.drop i) = zLU x y ∧ i ≤ y.length) 36 (fun i => [(11, iV i), (10, iV x.length), (9, y6 x), (0, y6 x), (1, y6 y)]) (fun i => []) [] [] (by simp) ?_; intro i hi hP
 obtain ⟨hP, hiy⟩ := hP
 by_cases hi2 : i < x.length
 ·by_cases hi3 : i < y.length
  ·have hs := zDW hi2 hi3
   have sc := zGb (x.getD i default) (y.getD i default)
   rw [hs] at hP
   clear hs
   have gi : ¬ ((i : Int) ≥ (y.length : Int)) := by omega
   by_cases q : zLS (x.getD i default) (y.getD i default) = 0
   ·rw [if_pos q] at hP
    rw [q] at sc
    repeat' (first | (refine Qr rfl ?_; try intro _ hK; try simp only [go_sem, *]) | refine Qh rfl ?_ | (refine Qc rfl rfl ?_ ?_ <;> (intro hb; have hc := hb; try simp only [go_sem] at hc)) | refine q8 rfl ?_ | (refine y2 (sc) ?_; simp only [go_sem, *]) | ((with_reducible apply And.intro); focus omega) | (refine q7 hK ?_; clear hK; simp only [go_sem, *]) | simp only [q6, z8, go_sem, *])
    all_goals first | contradiction | omega | skip
    exact n0 (i' := i + 1) [] [] (by exact ⟨hP, by omega⟩)
   ·rw [if_neg q] at hP
    generalize zLS (x.getD i default) (y.getD i default) = c at *
    rw [← hP]
    clear hP
    repeat' (first | (refine Qr rfl ?_; try intro _ hK; try simp only [go_sem, *]) | refine Qh rfl ?_ | (refine Qc rfl rfl ?_ ?_ <;> (intro hb; have hc := hb; try simp only [go_sem] at hc)) | refine q8 rfl ?_ | (refine y2 (sc) ?_; simp only [go_sem, *]) | ((with_reducible apply And.intro); focus omega) | (refine q7 hK ?_; clear hK; simp only [go_sem, *]) | simp only [q6, z8, go_sem, *])
    all_goals first | contradiction | omega | skip
    (refine ⟨[_], [], [], ⟨rfl, trivial⟩, ?_⟩; simp only [go_sem, *])
  ·rw [zDV hi2 (by omega)] at hP
   rw [← hP]
   clear hP
   repeat' (first | (refine Qr rfl ?_; try intro _ hK; try simp only [go_sem, *]) | refine Qh rfl ?_ | (refine Qc rfl rfl ?_ ?_ <;> (intro hb; have hc := hb; try simp only [go_sem] at hc)) | refine q8 rfl ?_ | ((with_reducible apply And.intro); focus omega) | (refine q7 hK ?_; clear hK; simp only [go_sem, *]) | simp only [q6, z8, go_sem, *])
   all_goals first | contradiction | omega | skip
   (refine ⟨[_], [], [], ⟨rfl, trivial⟩, ?_⟩; simp only [go_sem, *])
 ·have hix : i = x.length := by omega
  subst hix
  rw [zDU (Nat.le_refl _)] at hP
  by_cases hxy : x.length < y.length
  ·rw [if_pos hxy] at hP
   rw [← hP]
   clear hP
   repeat' (first | (refine Qr rfl ?_; try intro _ hK; try simp only [go_sem, *]) | refine Qh rfl ?_ | (refine Qc rfl rfl ?_ ?_ <;> (intro hb; have hc := hb; try simp only [go_sem] at hc)) | refine q8 rfl ?_ | ((with_reducible apply And.intro); focus omega) | (refine q7 hK ?_; clear hK; simp only [go_sem, *]) | simp only [q6, z8, go_sem, *])
   all_goals first | contradiction | omega | skip
   (refine ⟨[_], [], [], ⟨rfl, trivial⟩, ?_⟩; simp only [go_sem, *])
  ·rw [if_neg hxy] at hP
   rw [← hP]
   clear hP
   repeat' (first | (refine Qr rfl ?_; try intro _ hK; try simp only [go_sem, *]) | refine Qh rfl ?_ | (refine Qc rfl rfl ?_ ?_ <;> (intro hb; have hc := hb; try simp only [go_sem] at hc)) | refine q8 rfl ?_ | ((with_reducible apply And.intro); focus omega) | (refine q7 hK ?_; clear hK; simp only [go_sem, *]) | simp only [q6, z8, go_sem, *])
   all_goals first | contradiction | omega | skip
   (refine ⟨[_], [], [], ⟨rfl, trivial⟩, ?_⟩; simp only [go_sem, *])
end Go.Abs

namespace Go.Abs
open Go Go.Proofs Go.Proofs.YteehcinnfiaklaaGreatDoor Go.ChangeShapes Go.WideShapes Go.ChangeAt Go.RowKit
noncomputable def Sh.okB : Sh → TypeId ⊕ (List Field × Nat) → Bool
 | .int, .inl t => match Tryz.prog.underlying t with
  | some (.int .i64) => true
  | _ => false
 | .str, .inl t => match Tryz.prog.underlying t with
  | some .string => true
  | _ => false
 | .sl b e, .inl t => match Tryz.prog.underlying t with
  | some (.slice u) => Tryz.prog.cellsOf u == e.n && (decide (0 < e.n) && ((!b || e.n == 1) && e.okB (.inl u)))
  | _ => false
 | .st b, .inl t => match Tryz.prog.underlying t with
  | some (.struct fs) => Tryz.prog.cellsOf t == b.n && b.okB (.inr (fs.toList, 0))
  | _ => false
 | .emp, .inr (l, _) => l.isEmpty
 | .cat x y, .inr (l, off) => match l with
  | f :: r => f.offset == off && (Tryz.prog.cellsOf f.type == x.n && (x.okB (.inl f.type) && y.okB (.inr (r, off + x.n))))
  | [] => false
 | _, _ => false
theorem zIN {H : Type} {enc : TypeId × Value → H} {W : World} {v : Value} {d : DataW H} {ps : List MemPlace} (hval : Value.okWide Tryz.prog W .any 0 9 v ∨ ∃ base, Value.okWide Tryz.prog W .any base 9 v)
  (h : DataW.Trod enc Tryz.prog W 0 (fun _ => true) true 9 v d ps) (hk : Rows.uptoBulk d ≤ 1048576) : ∃ s : Str, PR W (zLy W) (sV s) v ∧ s.length ≤ 1048576 := by
 have : ∃ b : ByteArray, v = .string b := by
  rcases hval with hval | ⟨base, hval⟩
  ·exact okWide_string Tryz.underlying9 hval
  ·exact okWide_string Tryz.underlying9 hval
 obtain ⟨b, rfl⟩ := this
 obtain ⟨fuel, hf⟩ := h
 obtain ⟨c, ⟨s, h1, rfl⟩, h2⟩ := zFr (N := 1048576) (ht := Tryz.underlying9) hf hk
 refine ⟨s, ?_, h1⟩
 have := h2.2 0 (by simp) (by simp [Value.cells])
 simpa [Value.cells] using this
abbrev zIP : Sh := .cat .str (.cat .str .emp)
end Go.Abs

namespace Go.Abs
open Go Go.Proofs Tryz
attribute [local irreducible] y3 Hold y8
section
variable {α : Type} {a b : List α} {i : Nat}
theorem zCd (ha : a.length ≤ i) (hl : a.length = b.length) (h : a.take i = b.take i) : a = b := by
 rwa [List.take_of_length_le ha, List.take_of_length_le (by omega)] at h
variable [Inhabited α]
theorem G3 {l : List α} (h : i < l.length) : l.take (i + 1) = l.take i ++ [l.getD i default] := by
 rw [List.take_add_one]; simp [List.getD, h]
theorem zCe (ha : i < a.length) (hb : i < b.length) (h : a.take i = b.take i) (e : a.getD i default = b.getD i default) : a.take (i + 1) = b.take (i + 1) := by
 rw [G3 ha, G3 hb, h, e]
theorem zCf (e : ¬ a.getD i default = b.getD i default) : ¬ a = b := fun h => e (by rw [h])
end
theorem zBV {α : Type} {a b : List α} (h : ¬ a.length = b.length) : ¬ a = b := fun e => h (by rw [e])
theorem zGe (a b : List Int) (h1 : a.length ≤ 4294967296) : zLP prog 54 [X1 a, X1 b] [] (bV (decide (a = b))) [] := by
 refine q9 func54 rfl (fun E hE => ?_); simp only [go_sem, ntmps54]
 repeat' (first | (refine Qr rfl ?_; try intro _ hK; try simp only [go_sem, *]) | refine Qh rfl ?_ | refine Qd rfl (by kernel_rfl) ?_ | (refine Qc rfl rfl ?_ ?_ <;> (intro hb; have hc := hb; try simp only [go_sem] at hc)) | refine q8 rfl ?_ | (refine Qb ?_ ?_; focus kernel_rfl) | ((with_reducible apply And.intro); focus omega) | (refine q7 hK ?_; clear hK; simp only [go_sem, *]) | simp only [q6, z8, go_sem, *])
 ·(refine ⟨[_], [], [], ⟨rfl, trivial⟩, ?_⟩; simp only [go_sem, *])
  simp [zBV (a := a) (b := b) (by omega)]
 ·have hlb : a.length = b.length := by omega
  refine r8 rfl (b.length) (fun i => a.take i = b.take i) 26 (fun i => [(5, iV i), (0, X1 a), (1, X1 b)]) (fun i => []) [] [] (by simp) ?_; intro i hi hP
  repeat' (first | (refine Qr rfl ?_; try intro _ hK; try simp only [go_sem, *]) | refine Qh rfl ?_ | refine Qd rfl (by kernel_rfl) ?_ | (refine Qc rfl rfl ?_ ?_ <;> (intro hb; have hc := hb; try simp only [go_sem] at hc)) | refine q8 rfl ?_ | (refine Qb ?_ ?_; focus kernel_rfl) | ((with_reducible apply And.intro); focus omega) | (refine q7 hK ?_; clear hK; simp only [go_sem, *]) | simp only [q6, z8, go_sem, *])
  ·(refine ⟨[_], [], [], ⟨rfl, trivial⟩, ?_⟩; simp only [go_sem, *])
   simp [zCf (a := a) (b := b) (i := i) (by assumption)]
  ·exact n0 (i' := i + 1) [] [] (by exact zCe (by omega) (by omega) hP (by assumption))
  ·(refine ⟨[_], [], [], ⟨rfl, trivial⟩, ?_⟩; simp only [go_sem, *])
   simp [zCd (by omega) hlb hP]
theorem zGf (a b : List Str) (h1 : a.length ≤ 4294967296) : zLP prog 33 [y6 a, y6 b] [] (bV (decide (a = b))) [] := by
 refine q9 func33 rfl (fun E hE => ?_); simp only [go_sem, ntmps33]
 repeat' (first | (refine Qr rfl ?_; try intro _ hK; try simp only [go_sem, *]) | refine Qh rfl ?_ | refine Qd rfl (by kernel_rfl) ?_ | (refine Qc rfl rfl ?_ ?_ <;> (intro hb; have hc := hb; try simp only [go_sem] at hc)) | refine q8 rfl ?_ | (refine Qb ?_ ?_; focus kernel_rfl) | ((with_reducible apply And.intro); focus omega) | (refine q7 hK ?_; clear hK; simp only [go_sem, *]) | simp only [q6, z8, go_sem, *])
 ·(refine ⟨[_], [], [], ⟨rfl, trivial⟩, ?_⟩; simp only [go_sem, *])
  simp [zBV (a := a) (b := b) (by omega)]
 ·have hlb : a.length = b.length := by omega
  refine r8 rfl (b.length) (fun i => a.take i = b.take i) 26 (fun i => [(5, iV i), (0, y6 a), (1, y6 b)]) (fun i => []) [] [] (by simp) ?_; intro i hi hP
  repeat' (first | (refine Qr rfl ?_; try intro _ hK; try simp only [go_sem, *]) | refine Qh rfl ?_ | refine Qd rfl (by kernel_rfl) ?_ | (refine Qc rfl rfl ?_ ?_ <;> (intro hb; have hc := hb; try simp only [go_sem] at hc)) | refine q8 rfl ?_ | (refine Qb ?_ ?_; focus kernel_rfl) | ((with_reducible apply And.intro); focus omega) | (refine q7 hK ?_; clear hK; simp only [go_sem, *]) | simp only [q6, z8, go_sem, *])
  ·(refine ⟨[_], [], [], ⟨rfl, trivial⟩, ?_⟩; simp only [go_sem, *])
   simp [zCf (a := a) (b := b) (i := i) (by assumption)]
  ·exact n0 (i' := i + 1) [] [] (by exact zCe (by omega) (by omega) hP (by assumption))
  ·(refine ⟨[_], [], [], ⟨rfl, trivial⟩, ?_⟩; simp only [go_sem, *])
   simp [zCd (by omega) hlb hP]
theorem zHQ : zLP prog 74 [] [] (.own 0 2 0 3) [.row 2 (rulesX.map Rule.enc)] := by
 refine q9 func74 rfl (fun E hE => ?_); simp only [go_sem, ntmps74]
 repeat' (first | (refine Qr rfl ?_; try intro _ hK; try simp only [go_sem, *]) | refine Qh rfl ?_ | (refine Qc rfl rfl ?_ ?_ <;> (intro hb; have hc := hb; try simp only [go_sem] at hc)) | refine q8 rfl ?_ | ((with_reducible apply And.intro); focus omega) | (refine q7 hK ?_; clear hK; simp only [go_sem, *]) | simp only [q6, z8, go_sem, *])
 refine ⟨[_], [some 0], [], ⟨rfl, trivial⟩, ?_⟩
 simp only [go_sem, rulesX, Rule.enc, *]
theorem zHR : zLP prog 75 [] [] (.own 0 1 0 3) [.row 1 (smithsX.map sV)] := by
 refine q9 func75 rfl (fun E hE => ?_); simp only [go_sem, ntmps75]
 repeat' (first | (refine Qr rfl ?_; try intro _ hK; try simp only [go_sem, *]) | refine Qh rfl ?_ | (refine Qc rfl rfl ?_ ?_ <;> (intro hb; have hc := hb; try simp only [go_sem] at hc)) | refine q8 rfl ?_ | ((with_reducible apply And.intro); focus omega) | (refine q7 hK ?_; clear hK; simp only [go_sem, *]) | simp only [q6, z8, go_sem, *])
 refine ⟨[_], [some 0], [], ⟨rfl, trivial⟩, ?_⟩
 simp only [go_sem, smithsX, c5, C9, zMW, *]
theorem zCI (d : Dice) (ws : List Str) (h : d.list.length ≤ 4294967296) (h0 : 0 < ws.length) (h1 : ws.length ≤ 1000) : zLP prog 76 [.ptr 0 0, y6 ws] [p7 d] (sV (Z4 ws d)) [p7 (o3 ws d)] := by
 have st := L7 d ((ws.length : Int) - 1) h (by omega)
 have hle := O0 (n := (ws.length : Int) - 1) (by omega) d
 have hw : IntKind.i64.wrap ((ws.length : Int) - 1) = (ws.length : Int) - 1 := wrap_i64 (by omega) (by omega)
 have e1 : Z4 ws d = ws.getD (toN ((ws.length : Int) - 1) d).toNat default := rfl
 have e2 : o3 ws d = toD ((ws.length : Int) - 1) d := rfl
 rw [e1, e2]
 clear e1 e2
 obtain ⟨n, hn⟩ : ∃ n : Nat, toN ((ws.length : Int) - 1) d = n := ⟨_, (Int.toNat_of_nonneg hle.1).symm⟩
 rw [hn] at st hle ⊢
 rw [Int.toNat_natCast]
 have hlt : n < ws.length := by omega
 generalize toD ((ws.length : Int) - 1) d = d2 at *
 clear hn hle
 refine q9 func76 rfl (fun E hE => ?_); simp only [go_sem, ntmps76]
 repeat' (first | (refine Qr rfl ?_; try intro _ hK; try simp only [go_sem, *]) | refine Qh rfl ?_ | (refine Qc rfl rfl ?_ ?_ <;> (intro hb; have hc := hb; try simp only [go_sem] at hc)) | refine q8 rfl ?_ | (refine w8 [0] (st) ?_; simp only [go_sem, *]) | ((with_reducible apply And.intro); focus omega) | (refine q7 hK ?_; clear hK; simp only [go_sem, *]) | simp only [q6, z8, go_sem, *])
 refine ⟨[_], [some 0], [], ⟨rfl, trivial⟩, ?_⟩
 simp only [go_sem, *]
end Go.Abs

namespace Go.Abs
open Go Go.Proofs Tryz
attribute [local irreducible] y3 Hold y8
theorem zGI (d : Dice) : (zLq d).1.length ≤ 7 := by
 have k1 : (wordsU.all fun x => decide (x.length ≤ 7)) = true := by decide
 have k2 : (wordsL.all fun x => decide (x.length ≤ 7)) = true := by decide
 unfold zLq zMO
 split
 ·exact of_decide_eq_true (List.all_eq_true.1 k1 _ (I8 (by decide) _))
 ·exact of_decide_eq_true (List.all_eq_true.1 k2 _ (I8 (by decide) _))
theorem F7 {s : Str} {k : Nat} (h : k < s.length) : List.drop k (List.take (k + 1) s) = [s.getD k 0] := by
 rw [G3 h, List.drop_append_of_le_length (by simp; omega), List.drop_of_length_le (by simp; omega)]; rfl
theorem zBY (set : Str) (n : Nat) (d : Dice) (s : Str) : i4 set (n + 1) d s = i4 set n (toD ((set.length : Int) - 1) d) (s ++ [set.getD (toN ((set.length : Int) - 1) d).toNat 0]) := rfl
theorem zGk (d : Dice) (most : Int) (h : d.list.length ≤ 4294967296) (hm : 1 ≤ most ∧ most ≤ 1000) : zLP prog 25 [.ptr 0 0, iV most] [p7 d] (sV (Z1 d most).1) [p7 (Z1 d most).2] := by
 have hd1 : (o3 wordsL d).list = d.list := Y0 _ _
 have s1 := zCI d wordsL h (by decide) (by decide)
 have s2 := zGm (o3 wordsL d) 3 (by rw [hd1]; exact h) (by omega)
 have hd2 : (f5 3 (o3 wordsL d)).list = d.list := (Y0 _ _).trans hd1
 have s3 := zCI (f5 3 (o3 wordsL d)) wordsU (by rw [hd2]; exact h) (by decide) (by decide)
 have hset := zCC d
 have hset7 := zGI d
 obtain ⟨p, hp⟩ : ∃ p, zLq d = p := ⟨_, rfl⟩
 have hT : Z1 d most = I3 most p := by unfold Z1; rw [hp]
 rw [hT]
 rw [hp] at hset hset7
 unfold zLq zMO at hp
 have hmin : 1 ≤ min most 6 ∧ min most 6 ≤ 6 := by omega
 have hq := E7 (lo := 1) (hi := min most 6) hmin.1 p.2
 have s4 := zGh p.2 1 (min most 6) (by rw [hset.2.2]; exact h) (by omega) (by omega)
 have hT2 : I3 most p = i4 p.1 (d8 1 (min most 6) p.2).toNat (Q0 1 (min most 6) p.2) [] := rfl
 rw [hT2]
 have hd3 : (Q0 1 (min most 6) p.2).list = d.list := (Y0 _ _).trans hset.2.2
 obtain ⟨n, hn⟩ : ∃ n : Nat, d8 1 (min most 6) p.2 = n := ⟨(d8 1 (min most 6) p.2).toNat, by omega⟩
 rw [hn] at s4 hq ⊢
 rw [Int.toNat_natCast]
 have hn6 : n ≤ 6 := by omega
 generalize hT3 : i4 p.1 n (Q0 1 (min most 6) p.2) [] = T at *
 obtain ⟨dd, hdd⟩ : ∃ dd, Q0 1 (min most 6) p.2 = dd := ⟨_, rfl⟩
 rw [hdd] at s4 hT3 hd3
 have hdl : dd.list.length ≤ 4294967296 := by rw [hd3]; exact h
 obtain ⟨set, d4⟩ := p
 have hsl : 0 < set.length := hset.1
 have hsl2 : set.length ≤ 7 := hset7
 clear hn hT hT2 hq hd1 hd2 hd3 hset hdd
 simp only at s4 hT3
 generalize V8 3 (o3 wordsL d) = t at *
 generalize f5 3 (o3 wordsL d) = d2 at *
 generalize o3 wordsL d = d1 at *
 generalize Z4 wordsL d = a at *
 generalize Z4 wordsU d2 = b at *
 generalize o3 wordsU d2 = d3 at *
 generalize hmm : min most 6 = mm at *
 have hw0 : y6 wordsL = .list [sV [97, 101, 115], sV [115, 104, 101, 116, 97], sV [115, 109, 105, 116, 121, 104, 97], sV [99, 104, 106, 97], sV [97, 110, 110, 101]] := rfl
 have hw1 : y6 wordsU = .list [sV [65, 69, 83], sV [88, 69, 84, 65], sV [83, 77, 73, 84, 89, 65], sV [67, 74, 65, 88], sV [65, 78, 78, 69]] := rfl
 rw [hw0] at s1
 rw [hw1] at s3
 clear hw0 hw1 hset7
 have hmi : zML most 6 = mm := by rw [← hmm]; unfold zML; omega
 clear hmm
 cases t
 ·have hp : (a, d2) = (set, d4) := hp
  cases hp
  clear s3
  refine q9 func25 rfl (fun E hE => ?_); simp only [go_sem, ntmps25]
  repeat' (first | (refine Qr rfl ?_; try intro _ hK; try simp only [go_sem, *]) | refine Qh rfl ?_ | (refine Qc rfl rfl ?_ ?_ <;> (intro hb; have hc := hb; try simp only [go_sem] at hc)) | refine q8 rfl ?_ | ((with_reducible apply And.intro); focus omega) | (refine q7 hK ?_; clear hK; simp only [go_sem, *]) | simp only [q6, z8, go_sem, *])
  refine b9 [0] [1] s1 rfl (by simp only [go_sem]) (by simp) ?_ ?_ (by simp [go_sem]) (by simp [go_sem]) ?_
  ·simp only [go_sem, *]
  ·simp only [go_sem, *]
  simp only [go_sem, w9, *]
  repeat' (first | (refine Qr rfl ?_; try intro _ hK; try simp only [go_sem, *]) | refine Qh rfl ?_ | (refine Qc rfl rfl ?_ ?_ <;> (intro hb; have hc := hb; try simp only [go_sem] at hc)) | refine q8 rfl ?_ | (refine w8 [0] (s2) ?_; simp only [go_sem, *]) | ((with_reducible apply And.intro); focus omega) | (refine q7 hK ?_; clear hK; simp only [go_sem, *]) | simp only [q6, z8, go_sem, *])
  all_goals try contradiction
  repeat' (first | (refine Qr rfl ?_; try intro _ hK; try simp only [go_sem, *]) | refine Qh rfl ?_ | (refine Qc rfl rfl ?_ ?_ <;> (intro hb; have hc := hb; try simp only [go_sem] at hc)) | refine q8 rfl ?_ | (refine w8 [0] (s4) ?_; simp only [go_sem, *]) | ((with_reducible apply And.intro); focus omega) | (refine q7 hK ?_; clear hK; simp only [go_sem, *]) | simp only [q6, z8, go_sem, *])
  all_goals try contradiction
  refine J8 rfl (n) (fun i (d' : Dice) (s : Str) => i4 set (n - i) d' s = T ∧ d'.list.length ≤ 4294967296 ∧ s.length ≤ i) 38 (fun i d' s => [(7, iV ((n - i : Nat) : Int)), (6, sV s), (5, sV set), (0, .ptr 0 0)]) (fun i d' s => [p7 d']) [some 0] [] (dd) ([]) (by exact ⟨hT3, hdl, by simp⟩) ?_; intro i d' s hi hP
  clear hT3 hdl s4 s2 s1
  obtain ⟨hP, hdl, hsi⟩ := hP
  by_cases hi2 : i < n
  ·rw [show n - i = (n - (i + 1)) + 1 by omega, zBY] at hP
   have st := L7 d' ((set.length : Int) - 1) hdl (by omega)
   have hle := O0 (n := (set.length : Int) - 1) (by omega) d'
   have hdl2 : (toD ((set.length : Int) - 1) d').list.length ≤ 4294967296 := by rw [Y0]; exact hdl
   obtain ⟨k, hk0⟩ : ∃ k : Nat, toN ((set.length : Int) - 1) d' = k := ⟨_, (Int.toNat_of_nonneg hle.1).symm⟩
   rw [hk0] at st hle hP
   rw [Int.toNat_natCast] at hP
   have hkl : k < set.length := by omega
   have hw : IntKind.i64.wrap ((set.length : Int) - 1) = (set.length : Int) - 1 := wrap_i64 (by omega) (by omega)
   have hw1 : IntKind.i64.wrap ((k : Int) + 1) = ((k + 1 : Nat) : Int) := u5 (by omega)
   have hw2 : IntKind.i64.wrap (((n - i : Nat) : Int) - 1) = ((n - (i + 1) : Nat) : Int) := by rw [wrap_i64 (by omega) (by omega)]; omega
   have hj : (0 : Int) < ((n - i : Nat) : Int) := by omega
   have hdt := F7 hkl
   generalize toD ((set.length : Int) - 1) d' = d3 at *
   clear hk0 hle
   repeat' (first | (refine Qr rfl ?_; try intro _ hK; try simp only [go_sem, *]) | refine Qh rfl ?_ | (refine Qc rfl rfl ?_ ?_ <;> (intro hb; have hc := hb; try simp only [go_sem] at hc)) | refine q8 rfl ?_ | (refine w8 [0] (st) ?_; simp only [go_sem, *]) | ((with_reducible apply And.intro); focus omega) | (refine q7 hK ?_; clear hK; simp only [go_sem, *]) | simp only [q6, z8, go_sem, *])
   exact V6 (i' := i + 1) [some 0] [] (d3) (s ++ [set.getD k 0]) (by exact ⟨hP, hdl2, by simp; omega⟩)
  ·rw [show n - i = 0 by omega] at hP
   have hP : (s, d') = T := hP
   subst hP
   have hj : ¬ (0 : Int) < ((n - i : Nat) : Int) := by omega
   repeat' (first | (refine Qr rfl ?_; try intro _ hK; try simp only [go_sem, *]) | refine Qh rfl ?_ | (refine Qc rfl rfl ?_ ?_ <;> (intro hb; have hc := hb; try simp only [go_sem] at hc)) | refine q8 rfl ?_ | ((with_reducible apply And.intro); focus omega) | (refine q7 hK ?_; clear hK; simp only [go_sem, *]) | simp only [q6, z8, go_sem, *])
   all_goals first | contradiction | omega | skip
   refine ⟨[_], [some 0], [], ⟨rfl, trivial⟩, ?_⟩
   simp only [go_sem, *]
 ·have hp : (b, d3) = (set, d4) := hp
  cases hp
  refine q9 func25 rfl (fun E hE => ?_); simp only [go_sem, ntmps25]
  repeat' (first | (refine Qr rfl ?_; try intro _ hK; try simp only [go_sem, *]) | refine Qh rfl ?_ | (refine Qc rfl rfl ?_ ?_ <;> (intro hb; have hc := hb; try simp only [go_sem] at hc)) | refine q8 rfl ?_ | ((with_reducible apply And.intro); focus omega) | (refine q7 hK ?_; clear hK; simp only [go_sem, *]) | simp only [q6, z8, go_sem, *])
  refine b9 [0] [1] s1 rfl (by simp only [go_sem]) (by simp) ?_ ?_ (by simp [go_sem]) (by simp [go_sem]) ?_
  ·simp only [go_sem, *]
  ·simp only [go_sem, *]
  simp only [go_sem, w9, *]
  repeat' (first | (refine Qr rfl ?_; try intro _ hK; try simp only [go_sem, *]) | refine Qh rfl ?_ | (refine Qc rfl rfl ?_ ?_ <;> (intro hb; have hc := hb; try simp only [go_sem] at hc)) | refine q8 rfl ?_ | (refine w8 [0] (s2) ?_; simp only [go_sem, *]) | ((with_reducible apply And.intro); focus omega) | (refine q7 hK ?_; clear hK; simp only [go_sem, *]) | simp only [q6, z8, go_sem, *])
  all_goals try contradiction
  refine b9 [0] [2] s3 rfl (by simp only [go_sem]) (by simp) ?_ ?_ (by simp [go_sem]) (by simp [go_sem]) ?_
  ·simp only [go_sem, *]
  ·simp only [go_sem, *]
  simp only [go_sem, w9, *]
  repeat' (first | (refine Qr rfl ?_; try intro _ hK; try simp only [go_sem, *]) | refine Qh rfl ?_ | (refine Qc rfl rfl ?_ ?_ <;> (intro hb; have hc := hb; try simp only [go_sem] at hc)) | refine q8 rfl ?_ | (refine w8 [0] (s4) ?_; simp only [go_sem, *]) | ((with_reducible apply And.intro); focus omega) | (refine q7 hK ?_; clear hK; simp only [go_sem, *]) | simp only [q6, z8, go_sem, *])
  all_goals try contradiction
  refine J8 rfl (n) (fun i (d' : Dice) (s : Str) => i4 set (n - i) d' s = T ∧ d'.list.length ≤ 4294967296 ∧ s.length ≤ i) 38 (fun i d' s => [(7, iV ((n - i : Nat) : Int)), (6, sV s), (5, sV set), (0, .ptr 0 0)]) (fun i d' s => [p7 d']) [some 0] [] (dd) ([]) (by exact ⟨hT3, hdl, by simp⟩) ?_; intro i d' s hi hP
  clear hT3 hdl s4 s3 s2 s1
  obtain ⟨hP, hdl, hsi⟩ := hP
  by_cases hi2 : i < n
  ·rw [show n - i = (n - (i + 1)) + 1 by omega, zBY] at hP
   have st := L7 d' ((set.length : Int) - 1) hdl (by omega)
   have hle := O0 (n := (set.length : Int) - 1) (by omega) d'
   have hdl2 : (toD ((set.length : Int) - 1) d').list.length ≤ 4294967296 := by rw [Y0]; exact hdl
   obtain ⟨k, hk0⟩ : ∃ k : Nat, toN ((set.length : Int) - 1) d' = k := ⟨_, (Int.toNat_of_nonneg hle.1).symm⟩
   rw [hk0] at st hle hP
   rw [Int.toNat_natCast] at hP
   have hkl : k < set.length := by omega
   have hw : IntKind.i64.wrap ((set.length : Int) - 1) = (set.length : Int) - 1 := wrap_i64 (by omega) (by omega)
   have hw1 : IntKind.i64.wrap ((k : Int) + 1) = ((k + 1 : Nat) : Int) := u5 (by omega)
   have hw2 : IntKind.i64.wrap (((n - i : Nat) : Int) - 1) = ((n - (i + 1) : Nat) : Int) := by rw [wrap_i64 (by omega) (by omega)]; omega
   have hj : (0 : Int) < ((n - i : Nat) : Int) := by omega
   have hdt := F7 hkl
   generalize toD ((set.length : Int) - 1) d' = d3' at *
   clear hk0 hle
   repeat' (first | (refine Qr rfl ?_; try intro _ hK; try simp only [go_sem, *]) | refine Qh rfl ?_ | (refine Qc rfl rfl ?_ ?_ <;> (intro hb; have hc := hb; try simp only [go_sem] at hc)) | refine q8 rfl ?_ | (refine w8 [0] (st) ?_; simp only [go_sem, *]) | ((with_reducible apply And.intro); focus omega) | (refine q7 hK ?_; clear hK; simp only [go_sem, *]) | simp only [q6, z8, go_sem, *])
   exact V6 (i' := i + 1) [some 0] [] (d3') (s ++ [set.getD k 0]) (by exact ⟨hP, hdl2, by simp; omega⟩)
  ·rw [show n - i = 0 by omega] at hP
   have hP : (s, d') = T := hP
   subst hP
   have hj : ¬ (0 : Int) < ((n - i : Nat) : Int) := by omega
   repeat' (first | (refine Qr rfl ?_; try intro _ hK; try simp only [go_sem, *]) | refine Qh rfl ?_ | (refine Qc rfl rfl ?_ ?_ <;> (intro hb; have hc := hb; try simp only [go_sem] at hc)) | refine q8 rfl ?_ | ((with_reducible apply And.intro); focus omega) | (refine q7 hK ?_; clear hK; simp only [go_sem, *]) | simp only [q6, z8, go_sem, *])
   all_goals first | contradiction | omega | skip
   refine ⟨[_], [some 0], [], ⟨rfl, trivial⟩, ?_⟩
   simp only [go_sem, *]
end Go.Abs

namespace Go.Abs
open Go Go.Proofs Tryz
attribute [local irreducible] y3 Hold y8
end Go.Abs

namespace Go.Abs
open Go Go.Proofs Tryz
attribute [local irreducible] y3 Hold y8
end Go.Abs

namespace Go.Abs
open Go
theorem N1 {α : Type} (cmp : α → α → Int) : ∀ (xs ys : List α) (b : Option α), x4 cmp b (xs ++ ys) = x4 cmp (x4 cmp b xs) ys
 | [], ys, b => by rw [List.nil_append]; cases b <;> rfl
 | x :: r, ys, none => by
  rw [List.cons_append, x4, x4]; exact N1 cmp r ys _
 | x :: r, ys, some y => by
  rw [List.cons_append, x4, x4]
  split
  ·exact N1 cmp r ys _
  ·exact N1 cmp r ys _
theorem zAq {α : Type} (cmp : α → α → Int) (x : α) : ∀ b : Option α, x4 cmp b [x] = match b with
  | none => some x
  | some y => if cmp x y < 0 then some x else some y
 | none => rfl
 | some y => by
  rw [x4]
  by_cases h : cmp x y < 0
  ·simp only [if_pos h, x4]
  ·simp only [if_neg h, x4]
def c6 (l : List Rule) (to : Str) (n : Nat) (pre : List Str) (S : List Str × Option (List Str)) (s : Str) : List Str × Option (List Str) :=
 if s ∈ S.1 then S else (S.1 ++ [s], x4 zLU S.2 (p5 l to n s pre))
theorem E6 (l : List Rule) (to : Str) (n : Nat) (pre : List Str) : ∀ (L m m' : List Str) (B : Option (List Str)), (∀ x, x ∈ m ↔ x ∈ m') →
  (L.foldl (c6 l to n pre) (m, B)).2 = x4 zLU B ((Z9 m' L).flatMap fun s => p5 l to n s pre)
 | [], m, m', B, _ => by
  simp only [List.foldl_nil, Z9, List.flatMap_nil]
  cases B <;> rfl
 | x :: r, m, m', B, h => by
  rw [List.foldl_cons, Z9]
  by_cases hx : x ∈ m'
  ·rw [if_pos hx, c6, if_pos ((h x).2 hx)]
   exact E6 l to n pre r m m' B h
  ·rw [if_neg hx, c6, if_neg (fun k => hx ((h x).1 k)), List.flatMap_cons, N1]
   exact E6 l to n pre r _ _ _ (fun y => by simp only [List.mem_append, List.mem_cons, List.not_mem_nil, or_false, h y]; exact or_comm)
theorem zET (l : List Rule) (to : Str) (n : Nat) (now : Str) (pre : List Str) (B : Option (List Str)) :
  ((p4 l now).foldl (c6 l to n (pre ++ [now])) ([], B)).2 = x4 zLU B (p5 l to (n + 1) now pre) := by
 rw [E6 l to n (pre ++ [now]) (p4 l now) [] [] B (fun _ => Iff.rfl), p5, J0]
def zLk (m : List Str) (x : Str) : List Str := if x ∈ m then m else m ++ [x]
theorem zFQ {m : List Str} {x y : Str} : y ∈ zLk m x ↔ y ∈ m ∨ y = x := by
 unfold zLk
 split
 ·rename_i h
  constructor
  ·exact .inl
  ·rintro (h2 | rfl)
   ·exact h2
   ·exact h
 ·rw [List.mem_append, List.mem_singleton]
def zLg (k : Str) (m : List Str) (now : Str) : List Str := if now.length < k.length then zLk m now else m
def goC (k : Str) : Nat → List Str → Str → Nat → List Str
 | 0, m, now, _ => zLg k m now
 | n + 1, m, now, at_ => (List.range' at_ (k.length - at_)).foldl (fun m i => goC k n m (now ++ [k.getD i 0]) (i + 1)) (zLg k m now)
def c9 (k : Str) (n : Nat) (m : List Str) (now : Str) (i : Nat) : List Str := (List.range' i (k.length - i)).foldl (fun m i => goC k n m (now ++ [k.getD i 0]) (i + 1)) m
theorem D2 (k : Str) (n : Nat) (m : List Str) (now : Str) (i : Nat) : goC k (n + 1) m now i = c9 k n (zLg k m now) now i := rfl
theorem J3 {k : Str} {n : Nat} {m : List Str} {now : Str} {i : Nat} (h : k.length ≤ i) : c9 k n m now i = m := by
 unfold c9
 rw [show k.length - i = 0 by omega]; rfl
theorem D1 {k : Str} {n : Nat} {m : List Str} {now : Str} {i : Nat} (h : i < k.length) : c9 k n m now i = c9 k n (goC k n m (now ++ [k.getD i 0]) (i + 1)) now (i + 1) := by
 unfold c9
 rw [show k.length - i = (k.length - (i + 1)) + 1 by omega, List.range'_succ, List.foldl_cons]
theorem mem_metC {k : Str} {m : List Str} {now x : Str} : x ∈ zLg k m now ↔ x ∈ m ∨ (x = now ∧ x.length < k.length) := by
 unfold zLg
 split
 ·rename_i h
  rw [zFQ]
  constructor
  ·rintro (h1 | rfl)
   ·exact .inl h1
   ·exact .inr ⟨rfl, h⟩
  ·rintro (h1 | ⟨rfl, _⟩)
   ·exact .inl h1
   ·exact .inr rfl
 ·rename_i h
  constructor
  ·exact .inl
  ·rintro (h1 | ⟨rfl, h1⟩)
   ·exact h1
   ·exact absurd h1 h
theorem C8 {k : Str} : ∀ {n : Nat} {m : List Str} {now : Str} {i : Nat} {x : Str}, k.length - i ≤ n → (x ∈ goC k n m now i ↔ x ∈ m ∨ ∃ t : Str, t.Sublist (k.drop i) ∧ x = now ++ t ∧ x.length < k.length)
 | 0, m, now, i, x, h => by
  rw [goC, mem_metC, List.drop_eq_nil_of_le (by omega)]
  constructor
  ·rintro (h1 | ⟨rfl, h1⟩)
   ·exact .inl h1
   ·exact .inr ⟨[], List.Sublist.refl _, by simp, h1⟩
  ·rintro (h1 | ⟨t, ht, rfl, h1⟩)
   ·exact .inl h1
   ·rw [List.sublist_nil.1 ht] at h1 ⊢
    exact .inr ⟨by simp, h1⟩
 | n + 1, m, now, i, x, h => by
  have key : ∀ (d i : Nat) (m : List Str), k.length - i = d → d ≤ n + 1 → (x ∈ c9 k n m now i ↔ x ∈ m ∨ ∃ t : Str, t ≠ [] ∧ t.Sublist (k.drop i) ∧ x = now ++ t ∧ x.length < k.length) := by
   intro d
   induction d with
   | zero =>
    intro i m hi _
    rw [J3 (by omega), List.drop_eq_nil_of_le (by omega)]
    constructor
    ·exact .inl
    ·rintro (h1 | ⟨t, hn, ht, _⟩)
     ·exact h1
     ·exact absurd (List.sublist_nil.1 ht) hn
   | succ d ih =>
    intro i m hi hd
    have hlt : i < k.length := by omega
    rw [D1 hlt, ih (i + 1) _ (by omega) (by omega), C8 (by omega)]
    have hdr : k.drop i = k.getD i 0 :: k.drop (i + 1) := by
     rw [List.drop_eq_getElem_cons hlt]; simp [List.getD, hlt]
    rw [hdr]
    constructor
    ·rintro ((h1 | ⟨t, ht, rfl, h1⟩) | ⟨t, hn, ht, rfl, h1⟩)
     ·exact .inl h1
     ·exact .inr ⟨k.getD i 0 :: t, by simp, ht.cons_cons _, by simp, h1⟩
     ·exact .inr ⟨t, hn, ht.cons _, rfl, h1⟩
    ·rintro (h1 | ⟨t, hn, ht, rfl, h1⟩)
     ·exact .inl (.inl h1)
     ·cases ht with
      | cons _ ht => exact .inr ⟨t, hn, ht, rfl, h1⟩
      | cons_cons _ ht => exact .inl (.inr ⟨_, ht, by simp, h1⟩)
  rw [D2, key _ i _ rfl (by omega), mem_metC]
  constructor
  ·rintro ((h1 | ⟨rfl, h1⟩) | ⟨t, _, h2⟩)
   ·exact .inl h1
   ·exact .inr ⟨[], List.nil_sublist _, by simp, h1⟩
   ·exact .inr ⟨t, h2⟩
  ·rintro (h1 | ⟨t, ht, rfl, h1⟩)
   ·exact .inl (.inl h1)
   ·by_cases hn : t = []
    ·subst hn
     exact .inl (.inr ⟨by simp, h1⟩)
    ·exact .inr ⟨t, hn, ht, rfl, h1⟩
def X0 (k : Str) : List Str := goC k k.length [] (k.take 1) 1
theorem zBi {k x : Str} : x ∈ X0 k ↔ Z7 k x := by
 unfold X0 Z7
 rw [C8 (by omega)]
 simp
end Go.Abs

namespace Go.Abs
open Go Go.Proofs Tryz
attribute [local irreducible] y3 Hold y8
theorem zBP : Maps.Keyed prog 90 := Maps.Keyed.of_law (WideMaps.string_law (by kernel_rfl))
abbrev zLW (s : Str) : Value := .string ⟨s.toArray⟩
theorem J5 (s : Str) (hs : s.length ≤ 1000) : zLr prog 90 (zLW s) := by
 have hu : prog.underlying 90 = some .string := by kernel_rfl
 unfold zLr keyOf
 rw [hu]
 simp [mapKey, hu, maxLen]
 omega
theorem sKey_inj {a b : Str} : zLW a = zLW b ↔ a = b := by simp [zLW]
theorem D3 (h : Str) : ∀ hs : List Str, zLd (zLW h) (hs.map zLW) = if h ∈ hs then some (hs.idxOf h) else none
 | [] => by simp [zLd]
 | x :: r => by
  have ih := D3 h r
  rw [List.map_cons]
  unfold zLd
  by_cases e : x = h
  ·subst e; simp
  ·have e' : ¬ zLW x = zLW h := fun k => e (sKey_inj.1 k)
   rw [if_neg e', ih]
   by_cases hm : h ∈ r
   ·rw [if_pos hm, if_pos (by simp [hm])]
    have hb : (x == h) = false := by simpa using e
    simp [List.idxOf_cons, hb]
   ·rw [if_neg hm, if_neg (by simp only [List.mem_cons, not_or]; exact ⟨fun k => e k.symm, hm⟩)]; rfl
theorem zFG (m : List Str) (s : Str) : b6 (m.map zLW) (m.map fun _ => bV true) (zLW s) (bV false) = bV (decide (s ∈ m)) := by
 unfold b6; rw [D3]
 by_cases hm : s ∈ m
 ·rw [if_pos hm]
  have hlt := List.idxOf_lt_length_of_mem hm
  simp [hlt, hm]
 ·rw [if_neg hm]; simp [hm]
theorem zFm (m : List Str) (s : Str) : zMA (m.map zLW) (zLW s) = (zLk m s).map zLW ∧ zMB (m.map zLW) (m.map fun _ => bV true) (zLW s) (bV true) = (zLk m s).map fun _ => bV true := by
 unfold zMA zMB zLk
 rw [D3]
 by_cases hm : s ∈ m
 ·rw [if_pos hm, if_pos hm]
  refine ⟨rfl, ?_⟩
  have hlt := List.idxOf_lt_length_of_mem hm
  apply List.ext_getElem (by simp)
  intro i h1 h2
  simp [List.getElem_set]
 ·rw [if_neg hm, if_neg hm]
  simp
theorem zBk : zLx prog 155 = some (90, 4) := by kernel_rfl
theorem zBf {m : List Str} {s : Str} {o : Nat} {H : Nat → AObj} {K : Cont} (hm : ∀ x, x ∈ m → x.length ≤ 1000) (hs : s.length ≤ 1000) (ho : H o = .mapo (m.map zLW) (m.map fun _ => bV true)) (hk : K (bV (decide (s ∈ m))) [o] []) : Q2 prog 155 (.mp o) (sV s) false H K := by
 have hz : zeroT prog 4 = some (.bool false) := by kernel_rfl
 unfold Q2
 rw [zBk]
 simp only [zL5, hz, ho]
 refine ⟨zBP, J5 s hs, by simp [Value.cells, Value.oneCell'], fun q hq => ?_, ?_⟩
 ·obtain ⟨k, hk, rfl⟩ := List.mem_map.1 hq; exact J5 k (hm k hk)
 ·have e : zAV (.bool false) = bV false := rfl
  rw [e, zFG]; simpa using hk
theorem zAG {m : List Str} {s : Str} {o : Nat} {H : Nat → AObj} {K : Cont} (hm : ∀ x, x ∈ m → x.length ≤ 1000) (hs : s.length ≤ 1000) (ho : H o = .mapo (m.map zLW) (m.map fun _ => bV true)) (hk : K (.tup []) [o] [(o, .mapo ((zLk m s).map zLW) ((zLk m s).map fun _ => bV true))]) : a8 prog 155 (.mp o) (sV s) (bV true) H K := by
 unfold a8
 rw [zBk]
 simp only [zL5, ho]
 obtain ⟨h1, h2⟩ := zFm m s
 refine ⟨zBP, J5 s hs, fun q hq => ?_, .raw _, rfl, ?_⟩
 ·obtain ⟨k, hk, rfl⟩ := List.mem_map.1 hq; exact J5 k (hm k hk)
 ·have e : zLQ H 3 (bV true) = (bV true, []) := rfl
  rw [e, h1, h2]; simpa [w9] using hk
theorem A8 (l : List Str) (h1 : l.length ≤ 4294967296) : zLP prog 148 [y6 l] [] (.own 0 1 0 l.length) [.row 1 (l.map sV)] := by
 cases l with
 | nil =>
  refine zHa (fun a c => ?_)
  refine q9 func148 rfl (fun E hE => ?_); simp only [go_sem, ntmps148]
  repeat' (first | (refine Qr rfl ?_; try intro _ hK; try simp only [go_sem, *]) | refine Qh rfl ?_ | (refine Qc rfl rfl ?_ ?_ <;> (intro hb; have hc := hb; try simp only [go_sem] at hc)) | refine q8 rfl ?_ | ((with_reducible apply And.intro); focus omega) | (refine q7 hK ?_; clear hK; simp only [go_sem, *]) | simp only [q6, z8, go_sem, *])
  ·refine ⟨[_], [none], [], ⟨rfl, trivial⟩, ?_⟩
   simp only [go_sem, *]
   simp
  ·refine ⟨[_], [some 1], [], ⟨rfl, trivial⟩, ?_⟩
   simp only [go_sem, *]
 | cons x r =>
  have h2 : r.length + 1 ≤ 4294967296 := by simpa using h1
  refine q9 func148 rfl (fun E hE => ?_); simp only [go_sem, ntmps148]
  repeat' (first | (refine Qr rfl ?_; try intro _ hK; try simp only [go_sem, *]) | refine Qh rfl ?_ | (refine Qc rfl rfl ?_ ?_ <;> (intro hb; have hc := hb; try simp only [go_sem] at hc)) | refine q8 rfl ?_ | ((with_reducible apply And.intro); focus omega) | (refine q7 hK ?_; clear hK; simp only [go_sem, *]) | simp only [q6, z8, go_sem, *])
  all_goals try contradiction
  refine ⟨fun y hy => ?_, fun y hy => ?_, by omega, by omega, ?_⟩
  ·obtain ⟨z, _, rfl⟩ := List.mem_map.1 hy
   simp [go_sem]
  ·obtain ⟨z, _, rfl⟩ := List.mem_map.1 hy
   simp [go_sem]
  ·repeat' (first | (refine Qr rfl ?_; try intro _ hK; try simp only [go_sem, *]) | refine Qh rfl ?_ | (refine Qc rfl rfl ?_ ?_ <;> (intro hb; have hc := hb; try simp only [go_sem] at hc)) | refine q8 rfl ?_ | ((with_reducible apply And.intro); focus omega) | (refine q7 hK ?_; clear hK; simp only [go_sem, *]) | simp only [q6, z8, go_sem, *])
   refine ⟨[_], [some 1], [], ⟨rfl, trivial⟩, ?_⟩
   simp only [go_sem, *]
end Go.Abs

namespace Go.Abs
open Go Go.Proofs Tryz
attribute [local irreducible] y3 Hold y8
noncomputable def zAo : Code := sub [0, 1, 0, 1, 1, 1] (Y5 Tryz.f124)
noncomputable def j1 (fn : FuncId) : LoopK := ⟨fn, #[10], P1 zAo, P2 zAo, 23⟩
def t7 : Option (List Str) → AV
 | none => .raw (.slice none 0 0)
 | some c => y6 c
@[go_sem] theorem zIw : t7 none = .raw (.slice none 0 0) := rfl
@[go_sem] theorem zC8 (c : List Str) : t7 (some c) = .list (c.map sV) := rfl
@[go_sem] theorem zIS (H : Nat → AObj) (m : List (Option Nat)) (ex : List Nat) (B : Option (List Str)) : XpF H m ex (t7 B) (t7 B) ↔ True := by cases B <;> simp [t7, XpF]
@[go_sem] theorem zKu (f : Nat → Nat) (B : Option (List Str)) : AV.ren f (t7 B) = t7 B := by cases B <;> simp [t7, AV.ren]
@[go_sem] theorem zI6 (B : Option (List Str)) : (t7 B).cells = [t7 B] := by cases B <;> rfl
@[go_sem] theorem zKZ (B : Option (List Str)) : (t7 B).one = true := by cases B <;> rfl
@[go_sem] theorem zJC (B : Option (List Str)) : (t7 B).flat = true := by cases B <;> rfl
@[go_sem] theorem zLB (B : Option (List Str)) : (t7 B).sized = true := by cases B <;> rfl
abbrev d6 : AV := fnV 126
abbrev zI7 (c : List Str) : Prop := c.length ≤ 1000
theorem zIB (fn : FuncId) (c : List Str) : j7 prog [y6 c] [.loopo (j1 fn) [(3, .ptr 1 0), (6, .ptr 2 0), (7, .ptr 3 0)] (some none), .box [d6], .box [.raw (.slice none 0 0)], .box [bV false]] (bV true)
  [.loopo (j1 fn) [(3, .ptr 1 0), (6, .ptr 2 0), (7, .ptr 3 0)] (some none), .box [d6], .box [y6 c], .box [bV true]] := by
 refine U5 (L := j1 fn) (env := [(3, .ptr 1 0), (6, .ptr 2 0), (7, .ptr 3 0)]) (j := none) rfl rfl (fun E l hE => ?_)
 refine o4 rfl ?_
 simp only [j1, i6, go_sem]
 repeat' (first | (refine Qr (ops := _ :: _) rfl ?_; try intro _ hK; try simp only [go_sem, *]) | (refine Qi rfl rfl rfl rfl ?_ ?_ <;> (intro hb; (try intro _ hK); have hc := hb; try simp only [go_sem] at hc; simp only [go_sem, *])) | (refine Qb ?_ ?_; focus kernel_rfl) | ((with_reducible apply And.intro); focus omega) | (refine q7 hK ?_; clear hK; simp only [go_sem, *]) | simp only [q6, z8, go_sem, *])
 refine t6 ?_
 refine ⟨by simp only [go_sem], ?_⟩
 refine U0 (id := 1) rfl ?_
 refine b7 rfl ?_
 refine o4 rfl ?_
 simp only [go_sem]
 repeat' (first | (refine Qr (ops := _ :: _) rfl ?_; try intro _ hK; try simp only [go_sem, *]) | (refine Qi rfl rfl rfl rfl ?_ ?_ <;> (intro hb; (try intro _ hK); have hc := hb; try simp only [go_sem] at hc; simp only [go_sem, *])) | (refine Qb ?_ ?_; focus kernel_rfl) | ((with_reducible apply And.intro); focus omega) | (refine q7 hK ?_; clear hK; simp only [go_sem, *]) | simp only [q6, z8, go_sem, *])
 refine t6 ?_
 refine W2 (t := true) rfl (by simp only [go_sem]) (fun _ => ?_) (fun h => by cases h)
 refine o4 rfl ?_
 simp only [go_sem]
 repeat' (first | (refine Qr (ops := _ :: _) rfl ?_; try intro _ hK; try simp only [go_sem, *]) | (refine Qi rfl rfl rfl rfl ?_ ?_ <;> (intro hb; (try intro _ hK); have hc := hb; try simp only [go_sem] at hc; simp only [go_sem, *])) | (refine Qb ?_ ?_; focus kernel_rfl) | ((with_reducible apply And.intro); focus omega) | (refine q7 hK ?_; clear hK; simp only [go_sem, *]) | simp only [q6, z8, go_sem, *])
 refine t6 ?_
 simp only [z8, go_sem]
 refine ⟨rfl, [some 0, some 1, some 2, some 3], [], ?_⟩
 simp only [go_sem, *]
theorem zIC (fn : FuncId) (b c : List Str) (hb1 : b.length ≤ 1000) (hc1 : c.length ≤ 1000) : j7 prog [y6 c] [.loopo (j1 fn) [(3, .ptr 1 0), (6, .ptr 2 0), (7, .ptr 3 0)] (some none), .box [d6], .box [y6 b], .box [bV true]] (bV true)
  [.loopo (j1 fn) [(3, .ptr 1 0), (6, .ptr 2 0), (7, .ptr 3 0)] (some none), .box [d6], .box [y6 (if zLU c b < 0 then c else b)], .box [bV true]] := by
 have hca : u7 prog 126 = true := by kernel_rfl
 have sc := zGa c b (by omega) (by omega)
 refine U5 (L := j1 fn) (env := [(3, .ptr 1 0), (6, .ptr 2 0), (7, .ptr 3 0)]) (j := none) rfl rfl (fun E l hE => ?_)
 refine o4 rfl ?_
 simp only [j1, i6, go_sem]
 repeat' (first | (refine Qr (ops := _ :: _) rfl ?_; try intro _ hK; try simp only [go_sem, *]) | (refine Qi rfl rfl rfl rfl ?_ ?_ <;> (intro hb; (try intro _ hK); have hc := hb; try simp only [go_sem] at hc; simp only [go_sem, *])) | (refine Qb ?_ ?_; focus kernel_rfl) | ((with_reducible apply And.intro); focus omega) | (refine q7 hK ?_; clear hK; simp only [go_sem, *]) | simp only [q6, z8, go_sem, *])
 refine t6 ?_
 refine ⟨by simp only [go_sem], ?_⟩
 refine U0 (id := 1) rfl ?_
 refine b7 rfl ?_
 refine o4 rfl ?_
 simp only [go_sem]
 repeat' (first | (refine Qr (ops := _ :: _) rfl ?_; try intro _ hK; try simp only [go_sem, *]) | (refine Qi rfl rfl rfl rfl ?_ ?_ <;> (intro hb; (try intro _ hK); have hc := hb; try simp only [go_sem] at hc; simp only [go_sem, *])) | (refine Qb ?_ ?_; focus kernel_rfl) | ((with_reducible apply And.intro); focus omega) | (refine q7 hK ?_; clear hK; simp only [go_sem, *]) | simp only [q6, z8, go_sem, *])
 refine y2 sc ?_
 simp only [go_sem]
 repeat' (first | (refine Qr (ops := _ :: _) rfl ?_; try intro _ hK; try simp only [go_sem, *]) | (refine Qi rfl rfl rfl rfl ?_ ?_ <;> (intro hb; (try intro _ hK); have hc := hb; try simp only [go_sem] at hc; simp only [go_sem, *])) | (refine Qb ?_ ?_; focus kernel_rfl) | ((with_reducible apply And.intro); focus omega) | (refine q7 hK ?_; clear hK; simp only [go_sem, *]) | simp only [q6, z8, go_sem, *])
 refine t6 ?_
 refine W2 (t := decide (zLU c b < 0)) rfl (by simp only [go_sem]) (fun h => ?_) (fun h => ?_)
 ·rw [if_pos (by simpa using h)]
  refine o4 rfl ?_
  simp only [go_sem]
  repeat' (first | (refine Qr (ops := _ :: _) rfl ?_; try intro _ hK; try simp only [go_sem, *]) | (refine Qi rfl rfl rfl rfl ?_ ?_ <;> (intro hb; (try intro _ hK); have hc := hb; try simp only [go_sem] at hc; simp only [go_sem, *])) | (refine Qb ?_ ?_; focus kernel_rfl) | ((with_reducible apply And.intro); focus omega) | (refine q7 hK ?_; clear hK; simp only [go_sem, *]) | simp only [q6, z8, go_sem, *])
  refine t6 ?_
  simp only [z8, go_sem]
  refine ⟨rfl, [some 0, some 1, some 2, some 3], [], ?_⟩
  simp only [go_sem, *]
 ·rw [if_neg (by simpa using h)]
  refine M9 rfl ?_
  simp only [z8, go_sem]
  refine ⟨rfl, [some 0, some 1, some 2, some 3], [], ?_⟩
  simp only [go_sem, *]
theorem zIA (fn : FuncId) (B : Option (List Str)) (c : List Str) (hb1 : ∀ b, B = some b → b.length ≤ 1000) (hc1 : c.length ≤ 1000) : j7 prog [y6 c] [.loopo (j1 fn) [(3, .ptr 1 0), (6, .ptr 2 0), (7, .ptr 3 0)] (some none), .box [d6], .box [t7 B], .box [bV B.isSome]] (bV true)
  [.loopo (j1 fn) [(3, .ptr 1 0), (6, .ptr 2 0), (7, .ptr 3 0)] (some none), .box [d6], .box [t7 (x4 zLU B [c])], .box [bV (x4 zLU B [c]).isSome]] := by
 cases B with
 | none => exact zIB fn c
 | some b =>
  have := zIC fn b c (hb1 b rfl) hc1
  rw [zAq]
  by_cases h : zLU c b < 0
  ·simp only [if_pos h] at this ⊢; exact this
  ·simp only [if_neg h] at this ⊢; exact this
end Go.Abs

namespace Go.Abs
open Go Go.Proofs Tryz
attribute [local irreducible] y3 Hold y8
noncomputable def zA3 : Code := sub [0, 1, 0, 1, 1, 1, 1] (Y5 Tryz.f147)
noncomputable def S5 (fn : FuncId) : LoopK := ⟨fn, #[34], P1 zA3, P2 zA3, 45⟩
abbrev CS := List Str × Option (List Str)
structure ChainD where
 many : Int
 to : Str
 l : List Rule
 fnG : FuncId
 fnF : FuncId
noncomputable def p8 (o : Nat) (D : ChainD) (chain : List Str) (S : CS) : List AObj :=
 [.loopo (S5 D.fnG) [(11, .ptr (o + 11) 0), (10, .ptr (o + 10) 0), (6, .ptr (o + 5) 0), (9, .ptr (o + 13) 0)] (some none), .box [iV D.many], .box [sV D.to], .box [.yld (o + 6)], .box [w6 D.l],
  .box [.fn 147 [.ptr (o + 1) 0, .ptr (o + 2) 0, .ptr (o + 3) 0, .ptr (o + 4) 0, .ptr (o + 5) 0]],
  .loopo (j1 D.fnF) [(3, .ptr (o + 7) 0), (6, .ptr (o + 8) 0), (7, .ptr (o + 9) 0)] (some none), .box [d6], .box [t7 S.2], .box [bV S.2.isSome], .box [y6 chain], .box [.mp (o + 12)], .mapo (S.1.map zLW) (S.1.map fun _ => bV true), .box [bV false]]
structure UsesD where
 k : Str
 u : Str
 v : Str
 i : Nat
 j : Nat
 l : List Rule
 fnU : FuncId
abbrev B7 (u v : Str) : List AV := [.agg [sV u, sV v], .agg [sV v, sV u]]
noncomputable def zCh : Code := sub [0, 1, 1, 0, 0, 1, 1, 0, 0, 1, 1, 0, 0, 1, 1, 0, 0, 1, 1] (Y5 Tryz.f170)
noncomputable def G4 (fn : FuncId) : LoopK := ⟨fn, #[37], P1 zCh, P2 zCh, 44⟩
noncomputable def Y2 (D : ChainD) (chain : List Str) (U : UsesD) (S : CS) : List AObj :=
 .loopo (G4 U.fnU) [(3, .ptr 15 0), (2, .ptr 16 0), (25, .own 17 2 0 2), (27, iV U.j), (26, iV 2), (11, iV U.i), (10, iV U.l.length), (9, w6 U.l)] (some none) :: (p8 1 D chain S ++ [.box [.yld 1], .box [sV U.k], .row 2 (B7 U.u U.v)])
attribute [go_sem] p8 Y2
theorem zFt {k a b : Str} {i : Nat} (h : i ≤ k.length) : Q5 k a b i = (if a.isPrefixOf (k.drop i) = true ∧ x8 (k.take i ++ b ++ k.drop (i + a.length)) 1 12 = true then [k.take i ++ b ++ k.drop (i + a.length)] else []) ++ Q5 k a b (i + 1) := by
 unfold Q5
 rw [show k.length + 1 - i = (k.length + 1 - (i + 1)) + 1 by omega, List.range'_succ, List.flatMap_cons]
theorem zFs {k a b : Str} {i : Nat} (h : k.length < i) : Q5 k a b i = [] := by
 unfold Q5
 rw [show k.length + 1 - i = 0 by omega]; rfl
theorem I9 {a x : Str} (h : a.isPrefixOf x = true) : a.length ≤ x.length := (List.isPrefixOf_iff_prefix.1 h).length_le
theorem zHO (D : ChainD) (chain : List Str) (U : UsesD) (zLZ : CS → Prop) (step : CS → Str → CS)
  (hy : ∀ S s, zLZ S → x8 s 1 12 = true → j7 prog [sV s] (Y2 D chain U S) (bV true) (Y2 D chain U (step S s))) (hg : ∀ S s, zLZ S → x8 s 1 12 = true → zLZ (step S s))
  (k a b : Str) (hk1 : k.length ≤ 1000) (ha : a.length ≤ 1000) (hb1 : b.length ≤ 1000) (S0 : CS) (hS : zLZ S0) :
  zLP prog 190 [.yld 0, .ptr 18 0, .ptr 19 0, .ptr 20 0] (Y2 D chain U S0 ++ [.box [sV k], .box [sV a], .box [sV b]]) (.tup []) (Y2 D chain U ((l3 k a b).foldl step S0) ++ [.box [sV k], .box [sV a], .box [sV b]]) := by
 obtain ⟨T, hT⟩ : ∃ T, (l3 k a b).foldl step S0 = T := ⟨_, rfl⟩
 rw [hT]
 have h0 : (Q5 k a b 0).foldl step S0 = T := hT
 clear hT
 simp only [Y2, p8, List.cons_append, List.nil_append]
 refine q9 func190 rfl (fun E hE => ?_); simp only [go_sem, ntmps190]
 repeat' (first | (refine Qr rfl ?_; try intro _ hK; try simp only [go_sem, *]) | (refine Qi rfl rfl rfl rfl ?_ ?_ <;> (intro hb; (try intro _ hK); have hc := hb; try simp only [go_sem] at hc; simp only [go_sem, *])) | refine Qh rfl ?_ | (refine Qc rfl rfl ?_ ?_ <;> (intro hb; have hc := hb; try simp only [go_sem] at hc)) | refine q8 rfl ?_ | (refine Qb ?_ ?_; focus kernel_rfl) | ((with_reducible apply And.intro); focus omega) | (refine q7 hK ?_; clear hK; simp only [go_sem, *]) | simp only [q6, z8, go_sem, *])
 refine c0 rfl (k.length + 1) (fun i (S : CS) => (Q5 k a b i).foldl step S = T ∧ zLZ S) 40 (fun i S => [(10, iV i), (9, iV ((k.length + 1 : Nat) : Int)), (0, .yld 0), (1, .ptr 18 0), (2, .ptr 19 0), (3, .ptr 20 0)]) (fun i S => Y2 D chain U S ++ [.box [sV k], .box [sV a], .box [sV b]]) [some 0, some 1, some 2, some 3, some 4, some 5, some 6, some 7, some 8, some 9, some 10, some 11, some 12, some 13, some 14, some 15, some 16, some 17, some 18, some 19, some 20] [] (S0) (by exact ⟨h0, hS⟩) ?_; intro i S hi hP
 obtain ⟨hP, hG⟩ := hP
 by_cases hi2 : i ≤ k.length
 ·have hp := zCE (k.drop i) a (by simp; omega) (by omega)
  rw [zFt hi2] at hP
  by_cases q : a.isPrefixOf (k.drop i) = true
  ·rw [q] at hp
   have hle := I9 q
   have hil : i + a.length ≤ k.length := by simp at hle; omega
   have hwl : IntKind.i64.wrap ((i : Int) + (a.length : Int)) = ((i + a.length : Nat) : Int) := by rw [wrap_i64 (by omega) (by omega)]; omega
   obtain ⟨t, ht⟩ : ∃ t, k.take i ++ b ++ k.drop (i + a.length) = t := ⟨_, rfl⟩
   have htl : t.length ≤ 3000 := by rw [← ht]; simp; omega
   have sl := A9 t 1 12 (by omega)
   rw [ht] at hP
   by_cases ql : x8 t 1 12 = true
   ·rw [if_pos ⟨q, ql⟩] at hP
    have hstep := hP
    rw [List.foldl_append] at hstep
    have hyt := hy S t hG ql
    have hgt := hg S t hG ql
    rw [ql] at sl
    clear q hle hP hg hy
    repeat' (first | ((refine L4 5 rfl rfl rfl ?_; simp only [List.take_succ_cons, List.take_zero, List.drop_succ_cons, List.drop_zero])) | (refine Qr rfl ?_; try intro _ hK; try simp only [go_sem, *]) | (refine Qi rfl rfl rfl rfl ?_ ?_ <;> (intro hb; (try intro _ hK); have hc := hb; try simp only [go_sem] at hc; simp only [go_sem, *])) | refine Qh rfl ?_ | refine Qd rfl (by kernel_rfl) ?_ | (refine Qc rfl rfl ?_ ?_ <;> (intro hb; have hc := hb; try simp only [go_sem] at hc)) | refine q8 rfl ?_ | (refine Qb ?_ ?_; focus kernel_rfl) | ((first | refine y2 (hp) ?_ | refine y2 (sl) ?_); simp only [go_sem, *]) | ((with_reducible apply And.intro); focus omega) | (refine q7 hK ?_; clear hK; simp only [go_sem, *]) | simp only [q6, z8, go_sem, *])
    all_goals first | contradiction | omega | skip
    refine zA6 rfl rfl (by simp only [go_sem]) ?_
    refine G5 [0, 1, 2, 3, 4, 5, 6, 7, 8, 9, 10, 11, 12, 13, 14, 15, 16, 17] [] hyt rfl rfl (by simp) (by simp only [go_sem]) (by simp only [go_sem]) (by simp) (.inl rfl) (by simp [go_sem]) (by simp [go_sem]) ?_
    simp only [go_sem]
    repeat' (first | (refine Qr rfl ?_; try intro _ hK; try simp only [go_sem, *]) | (refine Qi rfl rfl rfl rfl ?_ ?_ <;> (intro hb; (try intro _ hK); have hc := hb; try simp only [go_sem] at hc; simp only [go_sem, *])) | refine Qh rfl ?_ | refine Qd rfl (by kernel_rfl) ?_ | (refine Qc rfl rfl ?_ ?_ <;> (intro hb; have hc := hb; try simp only [go_sem] at hc)) | refine q8 rfl ?_ | (refine Qb ?_ ?_; focus kernel_rfl) | ((with_reducible apply And.intro); focus omega) | (refine q7 hK ?_; clear hK; simp only [go_sem, *]) | simp only [q6, z8, go_sem, *])
    all_goals first | contradiction | omega | skip
    exact r9 (i' := i + 1) [some 0, some 1, some 2, some 3, some 4, some 5, some 6, some 7, some 8, some 9, some 10, some 11, some 12, some 13, some 14, some 15, some 16, some 17, some 18, some 19, some 20] [] (step S t) (by exact ⟨hstep, hgt⟩)
   ·have ql2 : x8 t 1 12 = false := (Bool.not_eq_true _).mp ql
    rw [if_neg (fun h => ql h.2), List.nil_append] at hP
    rw [ql2] at sl
    clear q hle hg hy ql ql2
    repeat' (first | ((refine L4 5 rfl rfl rfl ?_; simp only [List.take_succ_cons, List.take_zero, List.drop_succ_cons, List.drop_zero])) | (refine Qr rfl ?_; try intro _ hK; try simp only [go_sem, *]) | (refine Qi rfl rfl rfl rfl ?_ ?_ <;> (intro hb; (try intro _ hK); have hc := hb; try simp only [go_sem] at hc; simp only [go_sem, *])) | refine Qh rfl ?_ | refine Qd rfl (by kernel_rfl) ?_ | (refine Qc rfl rfl ?_ ?_ <;> (intro hb; have hc := hb; try simp only [go_sem] at hc)) | refine q8 rfl ?_ | (refine Qb ?_ ?_; focus kernel_rfl) | ((first | refine y2 (hp) ?_ | refine y2 (sl) ?_); simp only [go_sem, *]) | ((with_reducible apply And.intro); focus omega) | (refine q7 hK ?_; clear hK; simp only [go_sem, *]) | simp only [q6, z8, go_sem, *])
    all_goals first | contradiction | omega | skip
    refine zA4 rfl rfl (by simp only [go_sem]) ?_
    repeat' (first | (refine Qr rfl ?_; try intro _ hK; try simp only [go_sem, *]) | (refine Qi rfl rfl rfl rfl ?_ ?_ <;> (intro hb; (try intro _ hK); have hc := hb; try simp only [go_sem] at hc; simp only [go_sem, *])) | refine Qh rfl ?_ | refine Qd rfl (by kernel_rfl) ?_ | (refine Qc rfl rfl ?_ ?_ <;> (intro hb; have hc := hb; try simp only [go_sem] at hc)) | refine q8 rfl ?_ | (refine Qb ?_ ?_; focus kernel_rfl) | ((with_reducible apply And.intro); focus omega) | (refine q7 hK ?_; clear hK; simp only [go_sem, *]) | simp only [q6, z8, go_sem, *])
    all_goals first | contradiction | omega | skip
    exact r9 (i' := i + 1) [some 0, some 1, some 2, some 3, some 4, some 5, some 6, some 7, some 8, some 9, some 10, some 11, some 12, some 13, some 14, some 15, some 16, some 17, some 18, some 19, some 20] [] (S) (by exact ⟨hP, hG⟩)
  ·have q2 : a.isPrefixOf (k.drop i) = false := (Bool.not_eq_true _).mp q
   rw [if_neg (fun h => q h.1), List.nil_append] at hP
   rw [q2] at hp
   clear q q2
   repeat' (first | (refine Qr rfl ?_; try intro _ hK; try simp only [go_sem, *]) | (refine Qi rfl rfl rfl rfl ?_ ?_ <;> (intro hb; (try intro _ hK); have hc := hb; try simp only [go_sem] at hc; simp only [go_sem, *])) | refine Qh rfl ?_ | refine Qd rfl (by kernel_rfl) ?_ | (refine Qc rfl rfl ?_ ?_ <;> (intro hb; have hc := hb; try simp only [go_sem] at hc)) | refine q8 rfl ?_ | (refine Qb ?_ ?_; focus kernel_rfl) | (refine y2 (hp) ?_; simp only [go_sem, *]) | ((with_reducible apply And.intro); focus omega) | (refine q7 hK ?_; clear hK; simp only [go_sem, *]) | simp only [q6, z8, go_sem, *])
   all_goals first | contradiction | omega | skip
   exact r9 (i' := i + 1) [some 0, some 1, some 2, some 3, some 4, some 5, some 6, some 7, some 8, some 9, some 10, some 11, some 12, some 13, some 14, some 15, some 16, some 17, some 18, some 19, some 20] [] (S) (by exact ⟨hP, hG⟩)
 ·rw [zFs (by omega)] at hP
  have hP : S = T := hP
  subst hP
  repeat' (first | (refine Qr rfl ?_; try intro _ hK; try simp only [go_sem, *]) | (refine Qi rfl rfl rfl rfl ?_ ?_ <;> (intro hb; (try intro _ hK); have hc := hb; try simp only [go_sem] at hc; simp only [go_sem, *])) | refine Qh rfl ?_ | refine Qd rfl (by kernel_rfl) ?_ | (refine Qc rfl rfl ?_ ?_ <;> (intro hb; have hc := hb; try simp only [go_sem] at hc)) | refine q8 rfl ?_ | (refine Qb ?_ ?_; focus kernel_rfl) | ((with_reducible apply And.intro); focus omega) | (refine q7 hK ?_; clear hK; simp only [go_sem, *]) | simp only [q6, z8, go_sem, *])
  all_goals first | contradiction | omega | skip
  refine ⟨[], [some 0, some 1, some 2, some 3, some 4, some 5, some 6, some 7, some 8, some 9, some 10, some 11, some 12, some 13, some 14, some 15, some 16, some 17, some 18, some 19, some 20], [], trivial, ?_⟩
  simp only [go_sem, j5, *]
end Go.Abs

namespace Go.Abs
open Go Go.Proofs Tryz
attribute [local irreducible] y3 Hold y8
theorem zHN (k a b : Str) : zLP prog 171 [sV k, sV a, sV b] [] (.fn 190 [.ptr 0 0, .ptr 1 0, .ptr 2 0]) [.box [sV k], .box [sV a], .box [sV b]] := by
 refine q9 func171 rfl (fun E hE => ?_); simp only [go_sem, ntmps171]
 repeat' (first | (refine Qr rfl ?_; try intro _ hK; try simp only [go_sem, *]) | refine Qh rfl ?_ | (refine Qc rfl rfl ?_ ?_ <;> (intro hb; have hc := hb; try simp only [go_sem] at hc)) | refine q8 rfl ?_ | ((with_reducible apply And.intro); focus omega) | (refine q7 hK ?_; clear hK; simp only [go_sem, *]) | simp only [q6, z8, go_sem, *])
 refine ⟨[_], [some 0, some 1, some 2], [], ⟨rfl, trivial⟩, ?_⟩
 simp only [go_sem, *]
theorem zHW (k : Str) (l : List Rule) : zLP prog 149 [sV k, w6 l] [] (.fn 170 [.ptr 0 0, .ptr 1 0]) [.box [w6 l], .box [sV k]] := by
 refine q9 func149 rfl (fun E hE => ?_); simp only [go_sem, ntmps149]
 repeat' (first | (refine Qr rfl ?_; try intro _ hK; try simp only [go_sem, *]) | refine Qh rfl ?_ | (refine Qc rfl rfl ?_ ?_ <;> (intro hb; have hc := hb; try simp only [go_sem] at hc)) | refine q8 rfl ?_ | ((with_reducible apply And.intro); focus omega) | (refine q7 hK ?_; clear hK; simp only [go_sem, *]) | simp only [q6, z8, go_sem, *])
 refine ⟨[_], [some 1, some 0], [], ⟨rfl, trivial⟩, ?_⟩
 simp only [go_sem, *]
theorem zII (D : ChainD) (chain : List Str) (U : UsesD) (S S' : CS) (s : Str) (hyG : j7 prog [sV s] (p8 0 D chain S) (bV true) (p8 0 D chain S')) : j7 prog [sV s] (Y2 D chain U S) (bV true) (Y2 D chain U S') := by
 refine U5 (L := G4 U.fnU) (env := [(3, .ptr 15 0), (2, .ptr 16 0), (25, .own 17 2 0 2), (27, iV U.j), (26, iV 2), (11, iV U.i), (10, iV U.l.length), (9, w6 U.l)]) (j := none) rfl rfl (fun E l hE => ?_)
 refine o4 rfl ?_
 simp only [G4, i6, go_sem]
 repeat' (first | (refine Qr (ops := _ :: _) rfl ?_; try intro _ hK; try simp only [go_sem, *]) | (refine Qi rfl rfl rfl rfl ?_ ?_ <;> (intro hb; (try intro _ hK); have hc := hb; try simp only [go_sem] at hc; simp only [go_sem, *])) | (refine Qb ?_ ?_; focus kernel_rfl) | ((with_reducible apply And.intro); focus omega) | (refine q7 hK ?_; clear hK; simp only [go_sem, *]) | simp only [q6, z8, go_sem, *])
 refine t6 ?_
 refine ⟨by simp only [go_sem], ?_⟩
 refine U0 (id := 5) rfl ?_
 refine b7 rfl ?_
 refine zFo 2 rfl rfl rfl ?_
 simp only [List.take_succ_cons, List.take_zero, List.drop_succ_cons, List.drop_zero, go_sem]
 repeat' (first | (refine Qr (ops := _ :: _) rfl ?_; try intro _ hK; try simp only [go_sem, *]) | (refine Qi rfl rfl rfl rfl ?_ ?_ <;> (intro hb; (try intro _ hK); have hc := hb; try simp only [go_sem] at hc; simp only [go_sem, *])) | (refine Qb ?_ ?_; focus kernel_rfl) | ((with_reducible apply And.intro); focus omega) | (refine q7 hK ?_; clear hK; simp only [go_sem, *]) | simp only [q6, z8, go_sem, *])
 refine t6 ?_
 refine zA5 rfl ?_
 refine ⟨by show 40 < 44; omega, ?_⟩
 simp only [go_sem]
 refine G5 [1, 2, 3, 4, 5, 6, 7, 8, 9, 10, 11, 12, 13, 14] [] hyG rfl rfl (by simp) (by simp only [go_sem]) (by simp only [go_sem]) (by simp) (.inl rfl) (by simp [go_sem]) (by simp [go_sem]) ?_
 simp only [go_sem]
 repeat' (first | (refine Qr (ops := _ :: _) rfl ?_; try intro _ hK; try simp only [go_sem, *]) | (refine Qi rfl rfl rfl rfl ?_ ?_ <;> (intro hb; (try intro _ hK); have hc := hb; try simp only [go_sem] at hc; simp only [go_sem, *])) | (refine Qb ?_ ?_; focus kernel_rfl) | ((with_reducible apply And.intro); focus omega) | (refine q7 hK ?_; clear hK; simp only [go_sem, *]) | simp only [q6, z8, go_sem, *])
 refine t6 ?_
 refine W2 (t := false) rfl (by simp only [go_sem]) (fun h => by cases h) (fun _ => ?_)
 refine M9 rfl ?_
 simp only [z8, go_sem]
 refine ⟨rfl, [some 0, some 1, some 2, some 3, some 4, some 5, some 6, some 7, some 8, some 9, some 10, some 11, some 12, some 13, some 14, some 15, some 16, some 17], [], ?_⟩
 simp only [go_sem, *]
theorem zHq {l : List Rule} {k : Str} {i : Nat} (h : i < l.length) : p4 (l.drop i) k = (l3 k (l.getD i default).src (l.getD i default).dst ++ l3 k (l.getD i default).dst (l.getD i default).src) ++ p4 (l.drop (i + 1)) k := by
 rw [o6 h]; rfl
def R7 (k u v : Str) : Nat → List Str
 | 0 => l3 k u v ++ l3 k v u
 | 1 => l3 k v u
 | _ => []
theorem zFh (k u v : Str) {j : Nat} (h : j < 2) : ∃ x y : Str, ([.agg [sV u, sV v], .agg [sV v, sV u]] : List AV).getD j .any = .agg [sV x, sV y] ∧ R7 k u v j = l3 k x y ++ R7 k u v (j + 1) ∧ (x = u ∧ y = v ∨ x = v ∧ y = u) := by
 rcases (by omega : j = 0 ∨ j = 1) with rfl | rfl
 ·exact ⟨u, v, rfl, rfl, .inl ⟨rfl, rfl⟩⟩
 ·exact ⟨v, u, rfl, by simp [R7], .inr ⟨rfl, rfl⟩⟩
theorem zA2 {zLZ : CS → Prop} {step : CS → Str → CS} (hg : ∀ S s, zLZ S → x8 s 1 12 = true → zLZ (step S s)) : ∀ (L : List Str) (S : CS), (∀ s, s ∈ L → x8 s 1 12 = true) → zLZ S → zLZ (L.foldl step S)
 | [], _, _, h => h
 | x :: r, S, hl, h => zA2 hg r _ (fun s hs => hl s (by simp [hs])) (hg S x h (hl x (by simp)))
theorem zFu {k a b s : Str} (h : s ∈ l3 k a b) : x8 s 1 12 = true := by
 obtain ⟨_, _, _, h, _⟩ := mem_replacedN.1 h; exact h
theorem zHX (D : ChainD) (chain : List Str) (zLZ : CS → Prop) (step : CS → Str → CS)
    (hy : ∀ S s, zLZ S → x8 s 1 12 = true → j7 prog [sV s] (p8 0 D chain S) (bV true) (p8 0 D chain (step S s))) (hg : ∀ S s, zLZ S → x8 s 1 12 = true → zLZ (step S s))
    (k : Str) (l : List Rule) (hk1 : k.length ≤ 1000) (hl : l.length ≤ 1000) (hr : ∀ r, r ∈ l → r.src.length ≤ 1000 ∧ r.dst.length ≤ 1000) (S0 : CS) (hS : zLZ S0) :
    zLP prog 170 [.yld 0, .ptr 14 0, .ptr 15 0] (p8 0 D chain S0 ++ [.box [w6 l], .box [sV k]]) (.tup []) (p8 0 D chain ((p4 l k).foldl step S0) ++ [.box [w6 l], .box [sV k]]) := by
  obtain ⟨T, hT⟩ : ∃ T, (p4 l k).foldl step S0 = T := ⟨_, rfl⟩
  rw [hT]
  have h0 : (p4 (l.drop 0) k).foldl step S0 = T := hT
  clear hT
  simp only [p8, List.cons_append, List.nil_append]
  refine q9 func170 rfl (fun E hE => ?_); simp only [go_sem, ntmps170]
  repeat' (first | (refine Qr rfl ?_; try intro _ hK; try simp only [go_sem, *]) | refine Qh rfl ?_ | (refine Qc rfl rfl ?_ ?_ <;> (intro hb; have hc := hb; try simp only [go_sem] at hc)) | refine q8 rfl ?_ | ((with_reducible apply And.intro); focus omega) | (refine q7 hK ?_; clear hK; simp only [go_sem, *]) | simp only [q6, z8, go_sem, *])
  refine c0 rfl (l.length) (fun i (S : CS) => (p4 (l.drop i) k).foldl step S = T ∧ zLZ S) 44 (fun i S => [(11, iV i), (10, iV l.length), (9, w6 l), (3, .ptr 16 0), (2, .ptr 15 0)]) (fun i S => p8 0 D chain S ++ [.box [w6 l], .box [sV k], .box [.yld 0]]) [some 0, some 1, some 2, some 3, some 4, some 5, some 6, some 7, some 8, some 9, some 10, some 11, some 12, some 13, some 14, some 15, some 16] [] (S0) (by exact ⟨h0, hS⟩) ?_; intro i S hi hP
  obtain ⟨hP, hG⟩ := hP
  by_cases hi2 : i < l.length
  · have hrl := hr _ (i3 hi2)
    rw [zHq hi2] at hP
    generalize hsu : (l.getD i default).src = u at *
    generalize hsv : (l.getD i default).dst = v at *
    rw [List.foldl_append] at hP
    have hQ0 : (p4 (l.drop (i + 1)) k).foldl step ((R7 k u v 0).foldl step S) = T := hP
    clear hP hr
    repeat' (first | (refine Qr rfl ?_; try intro _ hK; try simp only [go_sem, *]) | refine Qh rfl ?_ | (refine Qc rfl rfl ?_ ?_ <;> (intro hb; have hc := hb; try simp only [go_sem] at hc)) | refine q8 rfl ?_ | ((with_reducible apply And.intro); focus omega) | (refine q7 hK ?_; clear hK; simp only [go_sem, *]) | simp only [q6, z8, go_sem, *])
    refine c0 rfl (2) (fun j (S2 : CS) => (p4 (l.drop (i + 1)) k).foldl step ((R7 k u v j).foldl step S2) = T ∧ zLZ S2) 44 (fun j S2 => [(27, iV j), (26, iV 2), (25, .own 17 2 0 2), (11, iV i), (10, iV l.length), (9, w6 l), (3, .ptr 16 0), (2, .ptr 15 0)]) (fun j S2 => p8 0 D chain S2 ++ [.box [w6 l], .box [sV k], .box [.yld 0], .row 2 (B7 u v)]) [some 0, some 1, some 2, some 3, some 4, some 5, some 6, some 7, some 8, some 9, some 10, some 11, some 12, some 13, some 14, some 15, some 16, some 18] [] (S) (by exact ⟨hQ0, hG⟩) ?_; intro j S2 hj hQ
    obtain ⟨hQ, hG2⟩ := hQ
    by_cases hj2 : j < 2
    · obtain ⟨x, y, hxy, hst, hlen⟩ := zFh k u v hj2
      rw [hst, List.foldl_append] at hQ
      have sr := zHN k x y
      have hxl : x.length ≤ 1000 ∧ y.length ≤ 1000 := by
        rcases hlen with ⟨rfl, rfl⟩ | ⟨rfl, rfl⟩
        · exact hrl
        · exact ⟨hrl.2, hrl.1⟩
      have s1 := fun fn => zHO D chain ⟨k, u, v, i, j, l, fn⟩ zLZ step (fun S s h1 h2 => zII D chain _ S _ s (hy S s h1 h2)) hg k x y hk1 hxl.1 hxl.2 S2 hG2
      have hG3 := zA2 hg (l3 k x y) S2 (fun s hs => zFu hs) hG2
      obtain ⟨S3, hS3⟩ : ∃ S3, (l3 k x y).foldl step S2 = S3 := ⟨_, rfl⟩
      rw [hS3] at hQ hG3
      simp only [hS3] at s1
      clear hlen hst hS3 hy hg hrl hxl hG2
      repeat' (first | (refine Qr rfl ?_; try intro _ hK; try simp only [go_sem, *]) | refine Qh rfl ?_ | (refine Qc rfl rfl ?_ ?_ <;> (intro hb; have hc := hb; try simp only [go_sem] at hc)) | refine q8 rfl ?_ | ((with_reducible apply And.intro); focus omega) | (refine q7 hK ?_; clear hK; simp only [go_sem, *]) | simp only [q6, z8, go_sem, *])
      refine t8 sr ?_ (hu := by (intro j hj; simp only [List.length_cons, List.length_nil] at hj; (obtain rfl | rfl | rfl : j = 0 ∨ j = 1 ∨ j = 2 := by omega) <;> simp [go_sem]))
      simp only [go_sem, *]
      repeat' (first | (refine Qr rfl ?_; try intro _ hK; try simp only [go_sem, *]) | refine Qh rfl ?_ | (refine Qc rfl rfl ?_ ?_ <;> (intro hb; have hc := hb; try simp only [go_sem] at hc)) | refine q8 rfl ?_ | ((with_reducible apply And.intro); focus omega) | (refine q7 hK ?_; clear hK; simp only [go_sem, *]) | simp only [q6, z8, go_sem, *])
      refine X6 (N := 44) (env := [(36, .fn 190 [.ptr 18 0, .ptr 19 0, .ptr 20 0]), (27, iV j), (26, iV 2), (25, .own 17 2 0 2), (11, iV i), (10, iV l.length), (9, w6 l), (3, .ptr 16 0), (2, .ptr 15 0)]) (As := p8 0 D chain S2 ++ [.box [w6 l], .box [sV k], .box [.yld 0], .row 2 (B7 u v), .box [sV k], .box [sV x], .box [sV y]]) [some 0, some 1, some 2, some 3, some 4, some 5, some 6, some 7, some 8, some 9, some 10, some 11, some 12, some 13, some 14, some 15, some 16, some 17, some 19, some 20, some 21] [] (by (simp only [Weak, go_sem, List.map_append, List.map_set, *] <;> (try simp (disch := omega) only [u5]) <;> (try simp) <;> (try omega))) ?_
      refine H9 (f := 190) (caps := [.ptr 18 0, .ptr 19 0, .ptr 20 0]) rfl (by simp only [go_sem]) (by kernel_rfl) (nx := 21) (by simp only [go_sem]) (fun fn => ⟨22, ?_⟩)
      refine Y6 [21, 0, 1, 2, 3, 4, 5, 6, 7, 8, 9, 10, 11, 12, 13, 16, 15, 17, 18, 19, 20] [] (s1 fn) (by simp) (by simp only [go_sem]) ?_ (by simp) (.inl rfl) (by simp [go_sem]) (by simp [go_sem]) ?_
      · simp only [go_sem, *]
        rfl
      · simp only [go_sem, *]
        refine ⟨G4 fn, [(3, .ptr 16 0), (2, .ptr 15 0), (25, .own 17 2 0 2), (27, iV j), (26, iV 2), (11, iV i), (10, iV l.length), (9, w6 l)], none, by simp only [go_sem], ?_⟩
        simp only [go_sem]
        repeat' (first | (refine Qr rfl ?_; try intro _ hK; try simp only [go_sem, *]) | refine Qh rfl ?_ | (refine Qc rfl rfl ?_ ?_ <;> (intro hb; have hc := hb; try simp only [go_sem] at hc)) | refine q8 rfl ?_ | ((with_reducible apply And.intro); focus omega) | (refine q7 hK ?_; clear hK; simp only [go_sem, *]) | simp only [q6, z8, go_sem, *])
        all_goals first | contradiction | omega | skip
        exact r9 (i' := j + 1) [some 0, some 1, some 2, some 3, some 4, some 5, some 6, some 7, some 8, some 9, some 10, some 11, some 12, some 13, some 14, some 15, some 16, some 17] [] (S3) (by exact ⟨hQ, hG3⟩)
    · have e2 : R7 k u v j = [] := by
        rcases (by omega : j = 2) with rfl
        rfl
      rw [e2] at hQ
      have hQ : (p4 (l.drop (i + 1)) k).foldl step S2 = T := hQ
      repeat' (first | (refine Qr rfl ?_; try intro _ hK; try simp only [go_sem, *]) | refine Qh rfl ?_ | (refine Qc rfl rfl ?_ ?_ <;> (intro hb; have hc := hb; try simp only [go_sem] at hc)) | refine q8 rfl ?_ | ((with_reducible apply And.intro); focus omega) | (refine q7 hK ?_; clear hK; simp only [go_sem, *]) | simp only [q6, z8, go_sem, *])
      all_goals first | contradiction | omega | skip
      exact r9 (i' := i + 1) [some 0, some 1, some 2, some 3, some 4, some 5, some 6, some 7, some 8, some 9, some 10, some 11, some 12, some 13, some 14, some 15, some 16] [] (S2) (by exact ⟨hQ, hG2⟩)
  · have e : l.drop i = [] := j9 (by omega)
    rw [e] at hP
    have hP : S = T := hP
    subst hP
    repeat' (first | (refine Qr rfl ?_; try intro _ hK; try simp only [go_sem, *]) | refine Qh rfl ?_ | (refine Qc rfl rfl ?_ ?_ <;> (intro hb; have hc := hb; try simp only [go_sem] at hc)) | refine q8 rfl ?_ | ((with_reducible apply And.intro); focus omega) | (refine q7 hK ?_; clear hK; simp only [go_sem, *]) | simp only [q6, z8, go_sem, *])
    all_goals first | contradiction | omega | skip
    refine ⟨[], [some 0, some 1, some 2, some 3, some 4, some 5, some 6, some 7, some 8, some 9, some 10, some 11, some 12, some 13, some 14, some 15], [], trivial, ?_⟩
    simp only [go_sem, j5, *]
end Go.Abs

namespace Go.Abs
open Go Go.Proofs Tryz
attribute [local irreducible] y3 Hold y8
noncomputable def j0 (o : Nat) (D : ChainD) (B : Option (List Str)) : List AObj :=
 [.box [iV D.many], .box [sV D.to], .box [.yld (o + 5)], .box [w6 D.l],
  .box [.fn 147 [.ptr o 0, .ptr (o + 1) 0, .ptr (o + 2) 0, .ptr (o + 3) 0, .ptr (o + 4) 0]],
  .loopo (j1 D.fnF) [(3, .ptr (o + 6) 0), (6, .ptr (o + 7) 0), (7, .ptr (o + 8) 0)] (some none), .box [d6], .box [t7 B], .box [bV B.isSome]]
attribute [go_sem] j0
abbrev S4 (s : Str) (chain : List Str) : List AV := [sV s, y6 chain, .ptr 0 0, .ptr 1 0, .ptr 2 0, .ptr 3 0, .ptr 4 0]
theorem zIH (D : ChainD) (chain : List Str) (S : CS) (s : Str) (hm : ∀ x, x ∈ S.1 → x.length ≤ 1000) (hs : s.length ≤ 1000) (h : s ∈ S.1) :
  j7 prog [sV s] (p8 0 D chain S) (bV true) (p8 0 D chain S) := by
 refine U5 (L := S5 D.fnG) (env := [(11, .ptr 11 0), (10, .ptr 10 0), (6, .ptr 5 0), (9, .ptr 13 0)]) (j := none) rfl rfl (fun E l hE => ?_)
 refine o4 rfl ?_
 simp only [S5, i6, go_sem]
 repeat' (first | (refine Qr (ops := _ :: _) rfl ?_; try intro _ hK; try simp only [go_sem, *]) | (refine Qi rfl rfl rfl rfl ?_ ?_ <;> (intro hb; (try intro _ hK); have hc := hb; try simp only [go_sem] at hc; simp only [go_sem, *])) | (refine Qb ?_ ?_; focus kernel_rfl) | ((with_reducible apply And.intro); focus omega) | (refine q7 hK ?_; clear hK; simp only [go_sem, *]) | simp only [q6, z8, go_sem, *])
 refine t6 ?_
 refine ⟨by simp only [go_sem], ?_⟩
 refine U0 (id := 1) rfl ?_
 refine b7 rfl ?_
 refine b7 rfl ?_
 refine o4 rfl ?_
 simp only [go_sem]
 repeat' (first | (refine Qr (ops := _ :: _) rfl ?_; try intro _ hK; try simp only [go_sem, *]) | (refine Qi rfl rfl rfl rfl ?_ ?_ <;> (intro hb; (try intro _ hK); have hc := hb; try simp only [go_sem] at hc; simp only [go_sem, *])) | (refine Qb ?_ ?_; focus kernel_rfl) | ((with_reducible apply And.intro); focus omega) | (refine q7 hK ?_; clear hK; simp only [go_sem, *]) | simp only [q6, z8, go_sem, *])
 refine zBf hm hs (by simp only [go_sem]) ?_
 simp only [go_sem, *]
 repeat' (first | (refine Qr (ops := _ :: _) rfl ?_; try intro _ hK; try simp only [go_sem, *]) | (refine Qi rfl rfl rfl rfl ?_ ?_ <;> (intro hb; (try intro _ hK); have hc := hb; try simp only [go_sem] at hc; simp only [go_sem, *])) | (refine Qb ?_ ?_; focus kernel_rfl) | ((with_reducible apply And.intro); focus omega) | (refine q7 hK ?_; clear hK; simp only [go_sem, *]) | simp only [q6, z8, go_sem, *])
 refine t6 ?_
 refine W2 (t := true) rfl (by simp only [go_sem]) (fun _ => ?_) (fun h => by cases h)
 refine zFn rfl ?_
 simp only [q6, z8, go_sem]
 refine ⟨rfl, [some 0, some 1, some 2, some 3, some 4, some 5, some 6, some 7, some 8, some 9, some 10, some 11, some 12, some 13], [], ?_⟩
 simp only [go_sem, *]
theorem zIG (D : ChainD) (chain : List Str) (S : CS) (B' : Option (List Str)) (s : Str) (hm : ∀ x, x ∈ S.1 → x.length ≤ 1000) (hs : s.length ≤ 1000) (h : s ∉ S.1)
  (sg : zLP prog 147 (S4 s chain) (j0 0 D S.2) (bV true) (j0 0 D B')) :
  j7 prog [sV s] (p8 0 D chain S) (bV true) (p8 0 D chain (S.1 ++ [s], B')) := by
 have hca : u7 prog 147 = true := by kernel_rfl
 have hput : zLk S.1 s = S.1 ++ [s] := by unfold zLk; rw [if_neg h]
 refine U5 (L := S5 D.fnG) (env := [(11, .ptr 11 0), (10, .ptr 10 0), (6, .ptr 5 0), (9, .ptr 13 0)]) (j := none) rfl rfl (fun E l hE => ?_)
 refine o4 rfl ?_
 simp only [S5, i6, go_sem]
 repeat' (first | (refine Qr (ops := _ :: _) rfl ?_; try intro _ hK; try simp only [go_sem, *]) | (refine Qi rfl rfl rfl rfl ?_ ?_ <;> (intro hb; (try intro _ hK); have hc := hb; try simp only [go_sem] at hc; simp only [go_sem, *])) | (refine Qb ?_ ?_; focus kernel_rfl) | ((with_reducible apply And.intro); focus omega) | (refine q7 hK ?_; clear hK; simp only [go_sem, *]) | simp only [q6, z8, go_sem, *])
 refine t6 ?_
 refine ⟨by simp only [go_sem], ?_⟩
 refine U0 (id := 1) rfl ?_
 refine b7 rfl ?_
 refine b7 rfl ?_
 refine o4 rfl ?_
 try simp only [go_sem]
 repeat' (first | (refine Qr (ops := _ :: _) rfl ?_; try intro _ hK; try simp only [go_sem, *]) | (refine Qi rfl rfl rfl rfl ?_ ?_ <;> (intro hb; (try intro _ hK); have hc := hb; try simp only [go_sem] at hc; simp only [go_sem, *])) | (refine Qb ?_ ?_; focus kernel_rfl) | ((with_reducible apply And.intro); focus omega) | (refine q7 hK ?_; clear hK; simp only [go_sem, *]) | simp only [q6, z8, go_sem, *])
 refine zBf hm hs (by simp only [go_sem]) ?_
 simp only [go_sem, *]
 repeat' (first | (refine Qr (ops := _ :: _) rfl ?_; try intro _ hK; try simp only [go_sem, *]) | (refine Qi rfl rfl rfl rfl ?_ ?_ <;> (intro hb; (try intro _ hK); have hc := hb; try simp only [go_sem] at hc; simp only [go_sem, *])) | (refine Qb ?_ ?_; focus kernel_rfl) | ((with_reducible apply And.intro); focus omega) | (refine q7 hK ?_; clear hK; simp only [go_sem, *]) | simp only [q6, z8, go_sem, *])
 refine t6 ?_
 refine W2 (t := false) rfl (by simp only [go_sem]) (fun h => by cases h) (fun _ => ?_)
 refine M9 rfl ?_
 refine b7 rfl ?_
 refine o4 rfl ?_
 try simp only [go_sem]
 repeat' (first | (refine Qr (ops := _ :: _) rfl ?_; try intro _ hK; try simp only [go_sem, *]) | (refine Qi rfl rfl rfl rfl ?_ ?_ <;> (intro hb; (try intro _ hK); have hc := hb; try simp only [go_sem] at hc; simp only [go_sem, *])) | (refine Qb ?_ ?_; focus kernel_rfl) | ((with_reducible apply And.intro); focus omega) | (refine q7 hK ?_; clear hK; simp only [go_sem, *]) | simp only [q6, z8, go_sem, *])
 refine zAG hm hs (by simp only [go_sem]) ?_
 rw [hput]
 repeat' (first | (refine Qr (ops := _ :: _) rfl ?_; try intro _ hK; try simp only [go_sem, *]) | (refine Qi rfl rfl rfl rfl ?_ ?_ <;> (intro hb; (try intro _ hK); have hc := hb; try simp only [go_sem] at hc; simp only [go_sem, *])) | (refine Qb ?_ ?_; focus kernel_rfl) | ((with_reducible apply And.intro); focus omega) | (refine q7 hK ?_; clear hK; simp only [go_sem, *]) | simp only [q6, z8, go_sem, *])
 refine t6 ?_
 refine b7 rfl ?_
 refine o4 rfl ?_
 try simp only [go_sem]
 repeat' (first | (refine Qr (ops := _ :: _) rfl ?_; try intro _ hK; try simp only [go_sem, *]) | (refine Qi rfl rfl rfl rfl ?_ ?_ <;> (intro hb; (try intro _ hK); have hc := hb; try simp only [go_sem] at hc; simp only [go_sem, *])) | (refine Qb ?_ ?_; focus kernel_rfl) | ((with_reducible apply And.intro); focus omega) | (refine q7 hK ?_; clear hK; simp only [go_sem, *]) | simp only [q6, z8, go_sem, *])
 refine w8 [1, 2, 3, 4, 5, 6, 7, 8, 9] sg ?_
 simp only [go_sem, *]
 repeat' (first | (refine Qr (ops := _ :: _) rfl ?_; try intro _ hK; try simp only [go_sem, *]) | (refine Qi rfl rfl rfl rfl ?_ ?_ <;> (intro hb; (try intro _ hK); have hc := hb; try simp only [go_sem] at hc; simp only [go_sem, *])) | (refine Qb ?_ ?_; focus kernel_rfl) | ((with_reducible apply And.intro); focus omega) | (refine q7 hK ?_; clear hK; simp only [go_sem, *]) | simp only [q6, z8, go_sem, *])
 refine t6 ?_
 refine W2 (t := false) rfl (by simp only [go_sem]) (fun h => by cases h) (fun _ => ?_)
 refine M9 rfl ?_
 simp only [z8, go_sem]
 refine ⟨rfl, [some 0, some 1, some 2, some 3, some 4, some 5, some 6, some 7, some 8, some 9, some 10, some 11, some 12, some 13], [], ?_⟩
 simp only [go_sem, *]
end Go.Abs

namespace Go.Abs
open Go Go.Proofs Tryz
attribute [local irreducible] y3 Hold y8
theorem N2 {α : Type} {cmp : α → α → Int} : ∀ {L : List α} {B : Option α} {b : α}, x4 cmp B L = some b → B = some b ∨ b ∈ L
 | [], B, b, h => by cases B <;> exact .inl h
 | x :: r, none, b, h => by
  rw [x4] at h
  rcases N2 h with h | h
  ·cases h; exact .inr (by simp)
  ·exact .inr (by simp [h])
 | x :: r, some y, b, h => by
  rw [x4] at h
  split at h
  ·rcases N2 h with h | h
   ·cases h; exact .inr (by simp)
   ·exact .inr (by simp [h])
  ·rcases N2 h with h | h
   ·exact .inl h
   ·exact .inr (by simp [h])
@[go_sem] theorem zLG (pre : List Str) (x : AV) : List.take (pre.length + 1) (List.map sV pre ++ [x]) = List.map sV pre ++ [x] := List.take_of_length_le (by simp)
def Y3 (B : Option (List Str)) : Prop := ∀ b, B = some b → b.length ≤ 1000
theorem zC9 {l : List Rule} {to now : Str} {n : Nat} {pre : List Str} {B : Option (List Str)} (h : pre.length + n ≤ 900) (hB : Y3 B) : Y3 (x4 zLU B (p5 l to n now pre)) := fun b hb => by
 rcases N2 hb with h1 | h1
 ·exact hB b h1
 ·obtain ⟨d, rfl, hd⟩ := mem_chainsN.1 h1
  have := zDP hd
  rw [List.length_append]; omega
theorem zG3 (D : ChainD) (now : Str) (pre : List Str) (B : Option (List Str)) (hm : (pre.length : Int) = D.many) (hp : pre.length ≤ 100) (q : ¬ now = D.to) :
  zLP prog 147 (S4 now pre) (j0 0 D B) (bV true) (j0 0 D B) := by
 have sc := A8 pre (by omega)
 have g : D.many < ((pre.length + 1 : Nat) : Int) := by omega
 have hq : (now == D.to) = false := by simpa using q
 refine q9 func147 rfl (fun E hE => ?_); simp only [go_sem, ntmps147]
 repeat' (first | (refine Qr rfl ?_; try intro _ hK; try simp only [go_sem, *]) | (refine Qi rfl rfl rfl rfl ?_ ?_ <;> (intro hb; (try intro _ hK); have hc := hb; try simp only [go_sem] at hc; simp only [go_sem, *])) | refine Qh rfl ?_ | (refine t8 (sc) ?_; simp only [go_sem, *]) | ((with_reducible apply And.intro); focus omega) | (refine q7 hK ?_; clear hK; simp only [go_sem, *]) | simp only [q6, z8, go_sem, *])
 refine H8 rfl ⟨true, by simp only [go_sem, *], fun _ => ?_, fun e => by cases e⟩
 refine G0 rfl ?_
 refine L4 6 rfl rfl rfl ?_
 simp only [List.take_succ_cons, List.take_zero, List.drop_succ_cons, List.drop_zero]
 repeat' (first | (refine Qr (ops := _ :: _) rfl ?_; try intro _ hK; try simp only [go_sem, *]) | (refine Qi rfl rfl rfl rfl ?_ ?_ <;> (intro hb; (try intro _ hK); have hc := hb; try simp only [go_sem] at hc; simp only [go_sem, *])) | ((with_reducible apply And.intro); focus omega) | (refine q7 hK ?_; clear hK; simp only [go_sem, *]) | simp only [q6, z8, go_sem, *])
 refine t6 ?_
 refine zA4 rfl rfl (by simp only [go_sem, *]) ?_
 refine ⟨by show 28 < 45; omega, ?_⟩
 simp only [go_sem, *]
 repeat' (first | (refine Qr rfl ?_; try intro _ hK; try simp only [go_sem, *]) | (refine Qi rfl rfl rfl rfl ?_ ?_ <;> (intro hb; (try intro _ hK); have hc := hb; try simp only [go_sem] at hc; simp only [go_sem, *])) | refine Qh rfl ?_ | (refine Qc rfl rfl ?_ ?_ <;> (intro hb; have hc := hb; try simp only [go_sem] at hc)) | refine q8 rfl ?_ | ((with_reducible apply And.intro); focus omega) | (refine q7 hK ?_; clear hK; simp only [go_sem, *]) | simp only [q6, z8, go_sem, *])
 refine ⟨[bV true], [some 0, some 1, some 2, some 3, some 4, some 5, some 6, some 7, some 8], [], ⟨by simp only [U1, go_sem], trivial⟩, ?_⟩
 simp only [go_sem, *]
theorem zG4 (D : ChainD) (now : Str) (pre : List Str) (B : Option (List Str)) (hm : (pre.length : Int) = D.many) (hp : pre.length ≤ 100) (q : now = D.to) (hB : Y3 B) :
  zLP prog 147 (S4 now pre) (j0 0 D B) (bV true) (j0 0 D (x4 zLU B [pre ++ [now]])) := by
 have sc := A8 pre (by omega)
 have g : D.many < ((pre.length + 1 : Nat) : Int) := by omega
 have hq : (now == D.to) = true := by simpa using q
 have sy := zIA D.fnF B (pre ++ [now]) hB (by simp; omega)
 generalize x4 zLU B [pre ++ [now]] = B' at *
 clear q
 refine q9 func147 rfl (fun E hE => ?_); simp only [go_sem, ntmps147]
 repeat' (first | (refine Qr rfl ?_; try intro _ hK; try simp only [go_sem, *]) | (refine Qi rfl rfl rfl rfl ?_ ?_ <;> (intro hb; (try intro _ hK); have hc := hb; try simp only [go_sem] at hc; simp only [go_sem, *])) | refine Qh rfl ?_ | (refine t8 (sc) ?_; simp only [go_sem, *]) | ((with_reducible apply And.intro); focus omega) | (refine q7 hK ?_; clear hK; simp only [go_sem, *]) | simp only [q6, z8, go_sem, *])
 refine X6 (N := 45) (env := [(21, bV true), (0, sV now), (3, .ptr 1 0), (4, .ptr 2 0), (10, .ptr 10 0), (9, .ptr 9 0)]) (As := j0 0 D B ++ [.box [bV false], .box [y6 (pre ++ [now])]]) [some 0, some 1, some 2, some 3, some 4, some 5, some 6, some 7, some 8, some 9, some 13] [12] (by (simp only [Weak, go_sem, List.map_append, List.map_set, *] <;> (try simp (disch := omega) only [u5]) <;> (try simp) <;> (try omega))) ?_
 refine H8 rfl ⟨true, by simp only [go_sem, *], fun _ => ?_, fun e => by cases e⟩
 refine G0 rfl ?_
 refine L4 6 rfl rfl rfl ?_
 simp only [List.take_succ_cons, List.take_zero, List.drop_succ_cons, List.drop_zero, go_sem]
 repeat' (first | (refine Qr (ops := _ :: _) rfl ?_; try intro _ hK; try simp only [go_sem, *]) | (refine Qi rfl rfl rfl rfl ?_ ?_ <;> (intro hb; (try intro _ hK); have hc := hb; try simp only [go_sem] at hc; simp only [go_sem, *])) | ((with_reducible apply And.intro); focus omega) | (refine q7 hK ?_; clear hK; simp only [go_sem, *]) | simp only [q6, z8, go_sem, *])
 refine t6 ?_
 refine zA6 rfl rfl (by simp only [go_sem, *]) ?_
 refine ⟨by show 28 < 45; omega, ?_⟩
 simp only [go_sem]
 refine G5 [5, 6, 7, 8] [] sy rfl rfl (by simp) (by simp only [go_sem]) (by simp only [go_sem]) (by simp) (.inl rfl) (by simp [go_sem]) (by simp [go_sem]) ?_
 simp only [go_sem]
 repeat' (first | (refine Qr rfl ?_; try intro _ hK; try simp only [go_sem, *]) | (refine Qi rfl rfl rfl rfl ?_ ?_ <;> (intro hb; (try intro _ hK); have hc := hb; try simp only [go_sem] at hc; simp only [go_sem, *])) | refine Qh rfl ?_ | (refine Qc rfl rfl ?_ ?_ <;> (intro hb; have hc := hb; try simp only [go_sem] at hc)) | refine q8 rfl ?_ | ((with_reducible apply And.intro); focus omega) | (refine q7 hK ?_; clear hK; simp only [go_sem, *]) | simp only [q6, z8, go_sem, *])
 refine ⟨[bV true], [some 0, some 1, some 2, some 3, some 4, some 5, some 6, some 7, some 8], [], ⟨by simp only [U1, go_sem], trivial⟩, ?_⟩
 simp only [go_sem, *]
theorem zG5 (D : ChainD) (n : Nat) (IH : ∀ (D : ChainD) (now : Str) (pre : List Str) (B : Option (List Str)), (pre.length : Int) + n = D.many → pre.length + n ≤ 100 → x8 now 1 12 = true → Y3 B → D.l.length ≤ 1000 → (∀ r, r ∈ D.l → r.src.length ≤ 1000 ∧ r.dst.length ≤ 1000) →
      zLP prog 147 (S4 now pre) (j0 0 D B) (bV true) (j0 0 D (x4 zLU B (p5 D.l D.to n now pre))))
    (now : Str) (pre : List Str) (B : Option (List Str)) (hm : (pre.length : Int) + (n + 1 : Nat) = D.many) (hp : pre.length + (n + 1) ≤ 100) (hn : x8 now 1 12 = true) (hB : Y3 B) (hl : D.l.length ≤ 1000) (hr : ∀ r, r ∈ D.l → r.src.length ≤ 1000 ∧ r.dst.length ≤ 1000) :
    zLP prog 147 (S4 now pre) (j0 0 D B) (bV true) (j0 0 D (x4 zLU B (p5 D.l D.to (n + 1) now pre))) := by
  have sc := A8 pre (by omega)
  have su := zHW now D.l
  have g : ¬ D.many < ((pre.length + 1 : Nat) : Int) := by omega
  have hnl : now.length ≤ 1000 := by
    unfold x8 at hn
    simp only [Bool.and_eq_true, decide_eq_true_eq] at hn
    omega
  have s1 : ∀ fn, zLP prog 170 [.yld 0, .ptr 14 0, .ptr 15 0] (p8 0 { D with fnG := fn } (pre ++ [now]) ([], B) ++ [.box [w6 D.l], .box [sV now]]) (.tup []) (p8 0 { D with fnG := fn } (pre ++ [now]) ((p4 D.l now).foldl (c6 D.l D.to n (pre ++ [now])) ([], B)) ++ [.box [w6 D.l], .box [sV now]]) := fun fn =>
    zHX { D with fnG := fn } (pre ++ [now]) (fun S => (∀ x, x ∈ S.1 → x.length ≤ 1000) ∧ Y3 S.2) (c6 D.l D.to n (pre ++ [now]))
      (fun S s hG hs => by
        have hsl : s.length ≤ 1000 := by
          unfold x8 at hs
          simp only [Bool.and_eq_true, decide_eq_true_eq] at hs
          omega
        by_cases h : s ∈ S.1
        · have e : c6 D.l D.to n (pre ++ [now]) S s = S := by unfold c6; rw [if_pos h]
          rw [e]; exact zIH _ _ S s hG.1 hsl h
        · have e : c6 D.l D.to n (pre ++ [now]) S s = (S.1 ++ [s], x4 zLU S.2 (p5 D.l D.to n s (pre ++ [now]))) := by unfold c6; rw [if_neg h]
          rw [e]
          exact zIG _ _ S _ s hG.1 hsl h (IH { D with fnG := fn } s (pre ++ [now]) S.2 (by simp; omega) (by simp; omega) hs hG.2 hl hr))
      (fun S s hG hs => by
        have hsl : s.length ≤ 1000 := by
          unfold x8 at hs
          simp only [Bool.and_eq_true, decide_eq_true_eq] at hs
          omega
        unfold c6
        split
        · exact hG
        · refine ⟨fun x hx => ?_, zC9 (by simp; omega) hG.2⟩
          rcases List.mem_append.1 hx with hx | hx
          · exact hG.1 x hx
          · rw [List.mem_singleton.1 hx]; exact hsl)
      now D.l hnl hl hr ([], B) ⟨fun x hx => (by cases hx), hB⟩
  have e := zET D.l D.to n now pre B
  obtain ⟨S', hS'⟩ : ∃ S', (p4 D.l now).foldl (c6 D.l D.to n (pre ++ [now])) ([], B) = S' := ⟨_, rfl⟩
  rw [hS'] at e
  simp only [hS'] at s1
  rw [← e]
  clear e hS' IH hn hnl hr hB
  refine q9 func147 rfl (fun E hE => ?_); simp only [go_sem, ntmps147]
  repeat' (first | (refine Qr rfl ?_; try intro _ hK; try simp only [go_sem, *]) | (refine Qi rfl rfl rfl rfl ?_ ?_ <;> (intro hb; (try intro _ hK); have hc := hb; try simp only [go_sem] at hc; simp only [go_sem, *])) | refine Qh rfl ?_ | (refine t8 (sc) ?_; simp only [go_sem, *]) | ((with_reducible apply And.intro); focus omega) | (refine q7 hK ?_; clear hK; simp only [go_sem, *]) | simp only [q6, z8, go_sem, *])
  refine H8 rfl ⟨false, by simp only [go_sem, *], fun e => (by cases e), fun _ => ?_⟩
  repeat' (first | (refine Qr rfl ?_; try intro _ hK; try simp only [go_sem, *]) | (refine Qi rfl rfl rfl rfl ?_ ?_ <;> (intro hb; (try intro _ hK); have hc := hb; try simp only [go_sem] at hc; simp only [go_sem, *])) | refine Qh rfl ?_ | (refine Qc rfl rfl ?_ ?_ <;> (intro hb; have hc := hb; try simp only [go_sem] at hc)) | refine q8 rfl ?_ | ((with_reducible apply And.intro); focus omega) | (refine q7 hK ?_; clear hK; simp only [go_sem, *]) | simp only [q6, z8, go_sem, *])
  refine t8 su ?_ (hu := by (intro j hj; simp only [List.length_cons, List.length_nil] at hj; (obtain rfl | rfl : j = 0 ∨ j = 1 := by omega) <;> simp [go_sem]))
  simp only [go_sem, *]
  repeat' (first | (refine Qr rfl ?_; try intro _ hK; try simp only [go_sem, *]) | (refine Qi rfl rfl rfl rfl ?_ ?_ <;> (intro hb; (try intro _ hK); have hc := hb; try simp only [go_sem] at hc; simp only [go_sem, *])) | refine Qh rfl ?_ | (refine Qc rfl rfl ?_ ?_ <;> (intro hb; have hc := hb; try simp only [go_sem] at hc)) | refine q8 rfl ?_ | ((with_reducible apply And.intro); focus omega) | (refine q7 hK ?_; clear hK; simp only [go_sem, *]) | simp only [q6, z8, go_sem, *])
  refine X6 (N := 45) (env := [(33, .fn 170 [.ptr 13 0, .ptr 14 0]), (11, .ptr 11 0), (10, .ptr 10 0), (6, .ptr 4 0), (9, .ptr 9 0)]) (As := j0 0 D B ++ [.box [bV false], .box [y6 (pre ++ [now])], .box [.mp 12], .mapo [] [], .box [w6 D.l], .box [sV now]]) [some 0, some 1, some 2, some 3, some 4, some 5, some 6, some 7, some 8, some 9, some 13, some 15, some 14, some 16, some 17] [12] (by (simp only [Weak, go_sem, List.map_append, List.map_set, *] <;> (try simp (disch := omega) only [u5]) <;> (try simp) <;> (try omega))) ?_
  refine H9 (f := 170) (caps := [.ptr 13 0, .ptr 14 0]) rfl (by simp only [go_sem]) (by kernel_rfl) (nx := 15) (by simp only [go_sem]) (fun fn => ⟨16, ?_⟩)
  refine Y6 [15, 0, 1, 2, 3, 4, 5, 6, 7, 8, 10, 11, 12, 9, 13, 14] [] (s1 fn) (by simp) (by simp only [go_sem]) ?_ (by simp) (.inl rfl) (by simp [go_sem]) (by simp [go_sem]) ?_
  · simp only [go_sem, *]
    rfl
  · simp only [go_sem, *]
    refine ⟨S5 fn, [(11, .ptr 11 0), (10, .ptr 10 0), (6, .ptr 4 0), (9, .ptr 9 0)], none, by simp only [go_sem], ?_⟩
    simp only [go_sem]
    repeat' (first | (refine Qr rfl ?_; try intro _ hK; try simp only [go_sem, *]) | (refine Qi rfl rfl rfl rfl ?_ ?_ <;> (intro hb; (try intro _ hK); have hc := hb; try simp only [go_sem] at hc; simp only [go_sem, *])) | refine Qh rfl ?_ | (refine Qc rfl rfl ?_ ?_ <;> (intro hb; have hc := hb; try simp only [go_sem] at hc)) | refine q8 rfl ?_ | ((with_reducible apply And.intro); focus omega) | (refine q7 hK ?_; clear hK; simp only [go_sem, *]) | simp only [q6, z8, go_sem, *])
    refine ⟨[bV true], [some 0, some 1, some 2, some 3, some 4, some 5, some 6, some 7, some 8], [], ⟨by simp only [U1, go_sem], trivial⟩, ?_⟩
    simp only [go_sem, *]
end Go.Abs

namespace Go.Abs
open Go Go.Proofs Tryz
attribute [local irreducible] y3 Hold y8
theorem zDv {α : Type} (cmp : α → α → Int) (B : Option α) : x4 cmp B [] = B := by cases B <;> rfl
theorem zCN : ∀ (n : Nat) (D : ChainD) (now : Str) (pre : List Str) (B : Option (List Str)), (pre.length : Int) + n = D.many → pre.length + n ≤ 100 → x8 now 1 12 = true → Y3 B → D.l.length ≤ 1000 → (∀ r, r ∈ D.l → r.src.length ≤ 1000 ∧ r.dst.length ≤ 1000) →
  zLP prog 147 (S4 now pre) (j0 0 D B) (bV true) (j0 0 D (x4 zLU B (p5 D.l D.to n now pre)))
 | 0, D, now, pre, B, hm, hp, hn, hB, hl, hr => by
  rw [p5]
  by_cases q : now = D.to
  ·rw [if_pos q]; exact zG4 D now pre B (by simpa using hm) (by omega) q hB
  ·rw [if_neg q, zDv]; exact zG3 D now pre B (by simpa using hm) (by omega) q
 | n + 1, D, now, pre, B, hm, hp, hn, hB, hl, hr => zG5 D n (zCN n) now pre B hm hp hn hB hl hr
theorem zGx (D : ChainD) (k : Str) (n : Nat) (B : Option (List Str)) (hm : (n : Int) = D.many) (hp : n ≤ 100) (hk1 : x8 k 1 12 = true) (hB : Y3 B) (hl : D.l.length ≤ 1000) (hr : ∀ r, r ∈ D.l → r.src.length ≤ 1000 ∧ r.dst.length ≤ 1000) :
  zLP prog 146 [.yld 0, .ptr 4 0, .ptr 5 0, .ptr 6 0, .ptr 7 0] [.loopo (j1 D.fnF) [(3, .ptr 1 0), (6, .ptr 2 0), (7, .ptr 3 0)] (some none), .box [d6], .box [t7 B], .box [bV B.isSome], .box [iV D.many], .box [sV D.to], .box [w6 D.l], .box [sV k]] (.tup [])
   [.loopo (j1 D.fnF) [(3, .ptr 1 0), (6, .ptr 2 0), (7, .ptr 3 0)] (some none), .box [d6], .box [t7 (x4 zLU B (p5 D.l D.to n k []))], .box [bV (x4 zLU B (p5 D.l D.to n k [])).isSome], .box [iV D.many], .box [sV D.to], .box [w6 D.l], .box [sV k]] := by
 have hca : u7 prog 147 = true := by kernel_rfl
 have sg := zCN n D k [] B (by simpa using hm) (by simpa using hp) hk1 hB hl hr
 generalize x4 zLU B (p5 D.l D.to n k []) = B' at *
 clear hr
 refine q9 func146 rfl (fun E hE => ?_); simp only [go_sem, ntmps146]
 repeat' (first | (refine Qr rfl ?_; try intro _ hK; try simp only [go_sem, *]) | refine Qh rfl ?_ | (refine Qc rfl rfl ?_ ?_ <;> (intro hb; have hc := hb; try simp only [go_sem] at hc)) | refine q8 rfl ?_ | ((with_reducible apply And.intro); focus omega) | (refine q7 hK ?_; clear hK; simp only [go_sem, *]) | simp only [q6, z8, go_sem, *])
 refine w8 [4, 5, 8, 6, 9, 0, 1, 2, 3] sg ?_
 simp only [go_sem, *]
 repeat' (first | (refine Qr rfl ?_; try intro _ hK; try simp only [go_sem, *]) | refine Qh rfl ?_ | (refine Qc rfl rfl ?_ ?_ <;> (intro hb; have hc := hb; try simp only [go_sem] at hc)) | refine q8 rfl ?_ | ((with_reducible apply And.intro); focus omega) | (refine q7 hK ?_; clear hK; simp only [go_sem, *]) | simp only [q6, z8, go_sem, *])
 refine ⟨[], [some 0, some 1, some 2, some 3, some 4, some 5, some 6, some 7], [], trivial, ?_⟩
 simp only [go_sem, j5, *]
theorem zGw (k : Str) (l : List Rule) (to : Str) (many : Int) : zLP prog 125 [sV k, w6 l, sV to, iV many] [] (.fn 146 [.ptr 0 0, .ptr 1 0, .ptr 2 0, .ptr 3 0]) [.box [iV many], .box [sV to], .box [w6 l], .box [sV k]] := by
 refine q9 func125 rfl (fun E hE => ?_); simp only [go_sem, ntmps125]
 repeat' (first | (refine Qr rfl ?_; try intro _ hK; try simp only [go_sem, *]) | refine Qh rfl ?_ | (refine Qc rfl rfl ?_ ?_ <;> (intro hb; have hc := hb; try simp only [go_sem] at hc)) | refine q8 rfl ?_ | ((with_reducible apply And.intro); focus omega) | (refine q7 hK ?_; clear hK; simp only [go_sem, *]) | simp only [q6, z8, go_sem, *])
 refine ⟨[_], [some 3, some 2, some 1, some 0], [], ⟨rfl, trivial⟩, ?_⟩
 simp only [go_sem, *]
theorem zG1 (k : Str) (l : List Rule) (to : Str) (n : Nat) (hp : n ≤ 100) (hk1 : x8 k 1 12 = true) (hl : l.length ≤ 1000) (hr : ∀ r, r ∈ l → r.src.length ≤ 1000 ∧ r.dst.length ≤ 1000) :
  zLP prog 124 [.fn 146 [.ptr 0 0, .ptr 1 0, .ptr 2 0, .ptr 3 0], d6] [.box [iV n], .box [sV to], .box [w6 l], .box [sV k]] (.tup [t7 (Z8 l n k to), bV (Z8 l n k to).isSome]) [.box [iV n], .box [sV to], .box [w6 l], .box [sV k]] := by
 have s1 := fun fn => zGx ⟨n, to, l, 0, fn⟩ k n none rfl hp hk1 (fun b h => by cases h) hl hr
 have e : Z8 l n k to = x4 zLU none (p5 l to n k []) := rfl
 rw [e]
 simp only at s1
 generalize x4 zLU none (p5 l to n k []) = B at *
 clear hr e
 refine q9 func124 rfl (fun E hE => ?_); simp only [go_sem, ntmps124]
 repeat' (first | (refine Qr rfl ?_; try intro _ hK; try simp only [go_sem, *]) | refine Qh rfl ?_ | refine Qd rfl (by kernel_rfl) ?_ | (refine Qc rfl rfl ?_ ?_ <;> (intro hb; have hc := hb; try simp only [go_sem] at hc)) | refine q8 rfl ?_ | (refine Qb ?_ ?_; focus kernel_rfl) | ((with_reducible apply And.intro); focus omega) | (refine q7 hK ?_; clear hK; simp only [go_sem, *]) | simp only [q6, z8, go_sem, *])
 refine X6 (N := 23) (env := [(9, .fn 146 [.ptr 0 0, .ptr 1 0, .ptr 2 0, .ptr 3 0]), (3, .ptr 4 0), (6, .ptr 5 0), (7, .ptr 6 0)]) (As := [.box [iV n], .box [sV to], .box [w6 l], .box [sV k], .box [d6], .box [t7 none], .box [bV false]]) [some 0, some 1, some 2, some 3, some 4, some 5, some 6] [] (by (simp only [Weak, go_sem, List.map_append, List.map_set, *] <;> (try simp (disch := omega) only [u5]) <;> (try simp) <;> (try omega))) ?_
 refine H9 (f := 146) (caps := [.ptr 0 0, .ptr 1 0, .ptr 2 0, .ptr 3 0]) rfl (by simp only [go_sem]) (by kernel_rfl) (nx := 7) (by simp only [go_sem]) (fun fn => ⟨8, ?_⟩)
 refine Y6 [7, 4, 5, 6, 0, 1, 2, 3] [] (s1 fn) (by simp) (by simp only [go_sem]) ?_ (by simp) (.inl rfl) (by simp [go_sem]) (by simp [go_sem]) ?_
 ·simp only [go_sem, *]
  first | rfl | exact ⟨rfl, rfl⟩
 ·simp only [go_sem, *]
  refine ⟨j1 fn, [(3, .ptr 4 0), (6, .ptr 5 0), (7, .ptr 6 0)], none, by simp only [go_sem], ?_⟩
  simp only [go_sem]
  repeat' (first | (refine Qr rfl ?_; try intro _ hK; try simp only [go_sem, *]) | refine Qh rfl ?_ | refine Qd rfl (by kernel_rfl) ?_ | (refine Qc rfl rfl ?_ ?_ <;> (intro hb; have hc := hb; try simp only [go_sem] at hc)) | refine q8 rfl ?_ | (refine Qb ?_ ?_; focus kernel_rfl) | ((with_reducible apply And.intro); focus omega) | (refine q7 hK ?_; clear hK; simp only [go_sem, *]) | simp only [q6, z8, go_sem, *])
  refine ⟨[_, _], [some 0, some 1, some 2, some 3], [], ⟨rfl, rfl, trivial⟩, ?_⟩
  simp only [go_sem, *]
end Go.Abs

namespace Go.Abs
open Go
theorem zFZ {c : UInt8} (hc : x5 c = true) : y7 c = false := by
 unfold x5 at hc
 unfold y7
 rw [Bool.and_eq_true, Bool.and_eq_true, decide_eq_true_eq, decide_eq_true_eq] at hc
 simp; omega
theorem ValidN.mem0 {s : Str} (v : ValidN s) : s.getD 0 0 ∈ s := by
 cases s with
 | nil => have := v.ne; simp at this
 | cons c r => simp
theorem ValidN.latin {s : Str} (v : ValidN s) (h : y7 (s.getD 0 0) = true) : s.all y7 = true := by
 have hf := v.form
 unfold o9 at hf
 rw [Bool.or_eq_true] at hf
 rcases hf with hf | hf
 ·exact hf
 ·have := zFZ (List.all_eq_true.1 hf _ v.mem0)
  rw [h] at this; cases this
theorem ValidN.other {s : Str} (v : ValidN s) (h : y7 (s.getD 0 0) = false) : s.all x5 = true := by
 have hf := v.form
 unfold o9 at hf
 rw [Bool.or_eq_true] at hf
 rcases hf with hf | hf
 ·have := List.all_eq_true.1 hf _ v.mem0
  rw [h] at this; cases this
 ·exact hf
theorem ValidN.check {s : Str} (v : ValidN s) : y9 s = 0 := checkN_zero.2 v
end Go.Abs

namespace Go.Abs
open Go Go.Proofs Tryz
attribute [local irreducible] y3 Hold y8
theorem zF2 {r : List Rule} (h : l4 r = 0) : r.length ≤ 4 ∧ ∀ x, x ∈ r → x.src.length ≤ 2 ∧ x.dst.length ≤ 2 := by
 unfold l4 at h
 by_cases h4 : 4 < r.length
 ·rw [if_pos h4] at h; cases h
 ·rw [if_neg h4] at h
  by_cases ha : r.all Rule.ok = true
  ·refine ⟨by omega, fun x hx => ?_⟩
   have := List.all_eq_true.1 ha x hx
   unfold Rule.ok x8 at this
   simp only [Bool.and_eq_true, decide_eq_true_eq] at this
   exact ⟨this.1.2.1, this.2.1.2.1⟩
  ·rw [if_neg ha] at h; cases h
theorem zFi {a b : Str} (h : r4 [a, b] = 0) : ValidN a ∧ ValidN b := by
 rw [zBw] at h
 by_cases q : y9 a = 0
 ·rw [if_pos q] at h; exact ⟨checkN_zero.1 q, checkN_zero.1 h⟩
 ·rw [if_neg q] at h; exact absurd h q
theorem zDQ {α : Type} {f : Nat → Option α} {i : Nat} (h : i < 3) : u0 f (List.range' i (3 - i)) = match f i with
  | some b => some b
  | none => u0 f (List.range' (i + 1) (3 - (i + 1))) := by
 obtain rfl | rfl | rfl : i = 0 ∨ i = 1 ∨ i = 2 := by omega
 all_goals rfl
def T4 (k : Str) (l : List Rule) (to : Str) : Option (List Str) := u0 (fun n => Z8 l n k to) [0, 1, 2]
theorem zGv (k : Str) (l : List Rule) (to : Str) (hk1 : x8 k 1 12 = true) (hl : l.length ≤ 1000) (hr : ∀ r, r ∈ l → r.src.length ≤ 1000 ∧ r.dst.length ≤ 1000) :
  zLP prog 88 [sV k, w6 l, sV to] [] (.tup [t7 (T4 k l to), bV (T4 k l to).isSome]) [] := by
 have hca : u7 prog 126 = true := by kernel_rfl
 obtain ⟨T, hT⟩ : ∃ T, T4 k l to = T := ⟨_, rfl⟩
 rw [hT]
 have h0 : u0 (fun n => Z8 l n k to) (List.range' 0 (3 - 0)) = T := hT
 clear hT
 have s1 := zGw k l to
 have s2 := fun n hn => zG1 k l to n hn hk1 hl hr
 clear hk1 hl hr
 refine q9 func88 rfl (fun E hE => ?_); simp only [go_sem, ntmps88]
 repeat' (first | (refine Qr rfl ?_; try intro _ hK; try simp only [go_sem, *]) | refine Qh rfl ?_ | (refine Qc rfl rfl ?_ ?_ <;> (intro hb; have hc := hb; try simp only [go_sem] at hc)) | refine q8 rfl ?_ | ((with_reducible apply And.intro); focus omega) | (refine q7 hK ?_; clear hK; simp only [go_sem, *]) | simp only [q6, z8, go_sem, *])
 refine r8 rfl (3) (fun i => u0 (fun n => Z8 l n k to) (List.range' i (3 - i)) = T) 26 (fun i => [(11, iV i), (0, sV k), (1, w6 l), (2, sV to)]) (fun i => []) [] [] (by exact h0) ?_; intro i hi hP
 clear h0
 by_cases hi2 : i < 3
 ·rw [zDQ hi2] at hP
  have s1 := s1 (i : Int)
  have s2 := s2 i (by omega)
  have hi3 : (i : Int) < 3 := by omega
  have hw : IntKind.i64.wrap ((i : Int) + 1) = ((i + 1 : Nat) : Int) := u5 (by omega)
  cases hc : Z8 l i k to with
  | some c =>
   rw [hc] at hP s2
   have hP : some c = T := hP
   subst hP
   clear hc
   repeat' (first | (refine Qr rfl ?_; try intro _ hK; try simp only [go_sem, *]) | refine Qh rfl ?_ | (refine Qc rfl rfl ?_ ?_ <;> (intro hb; have hc := hb; try simp only [go_sem] at hc)) | refine q8 rfl ?_ | ((with_reducible apply And.intro); focus omega) | (refine q7 hK ?_; clear hK; simp only [go_sem, *]) | simp only [q6, z8, go_sem, *])
   refine t8 s1 ?_ (hu := by (intro j hj; simp only [List.length_cons, List.length_nil] at hj; (obtain rfl | rfl | rfl | rfl : j = 0 ∨ j = 1 ∨ j = 2 ∨ j = 3 := by omega) <;> simp [go_sem]))
   simp only [go_sem, *]
   repeat' (first | (refine Qr rfl ?_; try intro _ hK; try simp only [go_sem, *]) | refine Qh rfl ?_ | (refine Qc rfl rfl ?_ ?_ <;> (intro hb; have hc := hb; try simp only [go_sem] at hc)) | refine q8 rfl ?_ | ((with_reducible apply And.intro); focus omega) | (refine q7 hK ?_; clear hK; simp only [go_sem, *]) | simp only [q6, z8, go_sem, *])
   refine w8 [0, 1, 2, 3] s2 ?_
   simp only [go_sem, *]
   repeat' (first | (refine Qr rfl ?_; try intro _ hK; try simp only [go_sem, *]) | refine Qh rfl ?_ | (refine Qc rfl rfl ?_ ?_ <;> (intro hb; have hc := hb; try simp only [go_sem] at hc)) | refine q8 rfl ?_ | ((with_reducible apply And.intro); focus omega) | (refine q7 hK ?_; clear hK; simp only [go_sem, *]) | simp only [q6, z8, go_sem, *])
   all_goals try contradiction
   (refine ⟨[_, _], [], [], ⟨rfl, rfl, trivial⟩, ?_⟩; simp only [go_sem, *])
  | none =>
   rw [hc] at hP s2
   have hP : u0 (fun n => Z8 l n k to) (List.range' (i + 1) (3 - (i + 1))) = T := hP
   clear hc
   repeat' (first | (refine Qr rfl ?_; try intro _ hK; try simp only [go_sem, *]) | refine Qh rfl ?_ | (refine Qc rfl rfl ?_ ?_ <;> (intro hb; have hc := hb; try simp only [go_sem] at hc)) | refine q8 rfl ?_ | ((with_reducible apply And.intro); focus omega) | (refine q7 hK ?_; clear hK; simp only [go_sem, *]) | simp only [q6, z8, go_sem, *])
   refine t8 s1 ?_ (hu := by (intro j hj; simp only [List.length_cons, List.length_nil] at hj; (obtain rfl | rfl | rfl | rfl : j = 0 ∨ j = 1 ∨ j = 2 ∨ j = 3 := by omega) <;> simp [go_sem]))
   simp only [go_sem, *]
   repeat' (first | (refine Qr rfl ?_; try intro _ hK; try simp only [go_sem, *]) | refine Qh rfl ?_ | (refine Qc rfl rfl ?_ ?_ <;> (intro hb; have hc := hb; try simp only [go_sem] at hc)) | refine q8 rfl ?_ | ((with_reducible apply And.intro); focus omega) | (refine q7 hK ?_; clear hK; simp only [go_sem, *]) | simp only [q6, z8, go_sem, *])
   refine w8 [0, 1, 2, 3] s2 ?_
   simp only [go_sem, *]
   repeat' (first | (refine Qr rfl ?_; try intro _ hK; try simp only [go_sem, *]) | refine Qh rfl ?_ | (refine Qc rfl rfl ?_ ?_ <;> (intro hb; have hc := hb; try simp only [go_sem] at hc)) | refine q8 rfl ?_ | ((with_reducible apply And.intro); focus omega) | (refine q7 hK ?_; clear hK; simp only [go_sem, *]) | simp only [q6, z8, go_sem, *])
   all_goals try contradiction
   exact n0 (i' := i + 1) [] [] (by exact hP)
 ·have e : 3 - i = 0 := by omega
  rw [e] at hP
  have hP : none = T := hP
  subst hP
  have hi3 : ¬ (i : Int) < 3 := by omega
  clear s1 s2
  repeat' (first | (refine Qr rfl ?_; try intro _ hK; try simp only [go_sem, *]) | refine Qh rfl ?_ | (refine Qc rfl rfl ?_ ?_ <;> (intro hb; have hc := hb; try simp only [go_sem] at hc)) | refine q8 rfl ?_ | ((with_reducible apply And.intro); focus omega) | (refine q7 hK ?_; clear hK; simp only [go_sem, *]) | simp only [q6, z8, go_sem, *])
  all_goals try contradiction
  (refine ⟨[_, _], [], [], ⟨rfl, rfl, trivial⟩, ?_⟩; simp only [go_sem, *])
  all_goals rfl
def T5 (r : List Rule) (a b : Str) : Option (List Str) := if f7 r a b = 0 then O8 r a b else none
theorem B6 {r : List Rule} {a b : Str} (q : l4 r = 0) : f7 r a b = r4 [a, b] := by
 unfold f7; rw [if_pos q, zBw]
theorem zDM {r : List Rule} {a b : Str} (h : f7 r a b = 0) : T5 r a b = T4 (zLO a) r (zLO b) := if_pos h
theorem zDL {r : List Rule} {a b : Str} (h : f7 r a b = 0) : j8 r a b = if (T4 (zLO a) r (zLO b)).isSome = true then 0 else 11 := if_pos h
theorem zGY (r : List Rule) (a b : Str) (hl : r.length ≤ 4294967296) (hr : ∀ x, x ∈ r → x.src.length ≤ 4294967296 ∧ x.dst.length ≤ 4294967296) :
  zLP prog 38 [w6 r, sV a, sV b] [] (.tup [t7 (T5 r a b), iV (j8 r a b)]) [] := by
 have s1 := zHP r hl hr
 have sc : zLP prog 87 [.list [sV a, sV b]] [] (iV (r4 [a, b])) [] := zCJ [a, b] (by simp)
 by_cases q1 : l4 r = 0
 ·rw [q1] at s1
  by_cases q2 : r4 [a, b] = 0
  ·obtain ⟨va, vb⟩ := zFi q2
   have hp : f7 r a b = 0 := by rw [B6 q1, q2]
   obtain ⟨h4, h5⟩ := zF2 q1
   have s2 := W3 a va.form (by have := va.len; omega)
   have s3 := W3 b vb.form (by have := vb.len; omega)
   have s4 := zGv (zLO a) r (zLO b) (D8 va) (by omega) (fun x hx => by have := h5 x hx; omega)
   rw [zDM hp, zDL hp]
   rw [q2] at sc
   generalize T4 (zLO a) r (zLO b) = o at *
   generalize zLO a = ka at *
   generalize zLO b = kb at *
   clear q1 q2 va vb hp h4 h5 hl hr
   cases o with
   | none =>
    simp only [Option.isSome_none, Bool.false_eq_true, if_false] at s4 ⊢
    refine q9 func38 rfl (fun E hE => ?_); simp only [go_sem, ntmps38]
    repeat' (first | (refine Qr rfl ?_; try intro _ hK; try simp only [go_sem, *]) | refine Qh rfl ?_ | (refine Qc rfl rfl ?_ ?_ <;> (intro hb; have hc := hb; try simp only [go_sem] at hc)) | refine q8 rfl ?_ | (refine y2 (s1) ?_; simp only [go_sem, *]) | ((with_reducible apply And.intro); focus omega) | (refine q7 hK ?_; clear hK; simp only [go_sem, *]) | simp only [q6, z8, go_sem, *])
    all_goals try contradiction
    (refine Y7 [0] (sc) (by simp only [go_sem, *]) (.raw _) ?_; simp only [go_sem, *])
    repeat' (first | (refine Qr rfl ?_; try intro _ hK; try simp only [go_sem, *]) | refine Qh rfl ?_ | (refine Qc rfl rfl ?_ ?_ <;> (intro hb; have hc := hb; try simp only [go_sem] at hc)) | refine q8 rfl ?_ | (refine x6 (s2) ?_ ?_; (focus (simp only [go_sem, *]; done)); simp only [go_sem, *]) | (refine x6 (s3) ?_ ?_; (focus (simp only [go_sem, *]; done)); simp only [go_sem, *]) | (refine y2 (s4) ?_; simp only [go_sem, *]) | ((with_reducible apply And.intro); focus omega) | (refine q7 hK ?_; clear hK; simp only [go_sem, *]) | simp only [q6, z8, go_sem, *])
    all_goals try contradiction
    (refine ⟨[_, _], [], [], ⟨rfl, rfl, trivial⟩, ?_⟩; simp only [go_sem, *])
   | some c =>
    simp only [Option.isSome_some, if_true] at s4 ⊢
    refine q9 func38 rfl (fun E hE => ?_); simp only [go_sem, ntmps38]
    repeat' (first | (refine Qr rfl ?_; try intro _ hK; try simp only [go_sem, *]) | refine Qh rfl ?_ | (refine Qc rfl rfl ?_ ?_ <;> (intro hb; have hc := hb; try simp only [go_sem] at hc)) | refine q8 rfl ?_ | (refine y2 (s1) ?_; simp only [go_sem, *]) | ((with_reducible apply And.intro); focus omega) | (refine q7 hK ?_; clear hK; simp only [go_sem, *]) | simp only [q6, z8, go_sem, *])
    all_goals try contradiction
    (refine Y7 [0] (sc) (by simp only [go_sem, *]) (.raw _) ?_; simp only [go_sem, *])
    repeat' (first | (refine Qr rfl ?_; try intro _ hK; try simp only [go_sem, *]) | refine Qh rfl ?_ | (refine Qc rfl rfl ?_ ?_ <;> (intro hb; have hc := hb; try simp only [go_sem] at hc)) | refine q8 rfl ?_ | (refine x6 (s2) ?_ ?_; (focus (simp only [go_sem, *]; done)); simp only [go_sem, *]) | (refine x6 (s3) ?_ ?_; (focus (simp only [go_sem, *]; done)); simp only [go_sem, *]) | (refine y2 (s4) ?_; simp only [go_sem, *]) | ((with_reducible apply And.intro); focus omega) | (refine q7 hK ?_; clear hK; simp only [go_sem, *]) | simp only [q6, z8, go_sem, *])
    all_goals try contradiction
    (refine ⟨[_, _], [], [], ⟨rfl, rfl, trivial⟩, ?_⟩; simp only [go_sem, *])
  ·have hp : ¬ f7 r a b = 0 := by rw [B6 q1]; exact q2
   have e1 : T5 r a b = none := if_neg hp
   have e2 : j8 r a b = r4 [a, b] := by unfold j8; rw [if_neg hp, B6 q1]
   rw [e1, e2]
   clear e1 e2 hp q1 hl hr
   generalize r4 [a, b] = e at *
   refine q9 func38 rfl (fun E hE => ?_); simp only [go_sem, ntmps38]
   repeat' (first | (refine Qr rfl ?_; try intro _ hK; try simp only [go_sem, *]) | refine Qh rfl ?_ | (refine Qc rfl rfl ?_ ?_ <;> (intro hb; have hc := hb; try simp only [go_sem] at hc)) | refine q8 rfl ?_ | (refine y2 (s1) ?_; simp only [go_sem, *]) | ((with_reducible apply And.intro); focus omega) | (refine q7 hK ?_; clear hK; simp only [go_sem, *]) | simp only [q6, z8, go_sem, *])
   all_goals try contradiction
   (refine Y7 [0] (sc) (by simp only [go_sem, *]) (.raw _) ?_; simp only [go_sem, *])
   repeat' (first | (refine Qr rfl ?_; try intro _ hK; try simp only [go_sem, *]) | refine Qh rfl ?_ | (refine Qc rfl rfl ?_ ?_ <;> (intro hb; have hc := hb; try simp only [go_sem] at hc)) | refine q8 rfl ?_ | ((with_reducible apply And.intro); focus omega) | (refine q7 hK ?_; clear hK; simp only [go_sem, *]) | simp only [q6, z8, go_sem, *])
   all_goals try contradiction
   (refine ⟨[_, _], [], [], ⟨rfl, rfl, trivial⟩, ?_⟩; simp only [go_sem, *])
 ·have hp : f7 r a b = l4 r := by unfold f7; rw [if_neg q1]
  have e1 : T5 r a b = none := if_neg (by rw [hp]; exact q1)
  have e2 : j8 r a b = l4 r := by unfold j8; rw [hp, if_neg q1]
  rw [e1, e2]
  clear e1 e2 hp hl hr sc
  generalize l4 r = e at *
  refine q9 func38 rfl (fun E hE => ?_); simp only [go_sem, ntmps38]
  repeat' (first | (refine Qr rfl ?_; try intro _ hK; try simp only [go_sem, *]) | refine Qh rfl ?_ | (refine Qc rfl rfl ?_ ?_ <;> (intro hb; have hc := hb; try simp only [go_sem] at hc)) | refine q8 rfl ?_ | (refine y2 (s1) ?_; simp only [go_sem, *]) | ((with_reducible apply And.intro); focus omega) | (refine q7 hK ?_; clear hK; simp only [go_sem, *]) | simp only [q6, z8, go_sem, *])
  all_goals try contradiction
  (refine ⟨[_, _], [], [], ⟨rfl, rfl, trivial⟩, ?_⟩; simp only [go_sem, *])
end Go.Abs

namespace Go.Abs
open Go Go.Proofs Tryz
attribute [local irreducible] y3 Hold y8
def zKH (r : List Rule) (s : Str) (l : List Str) (m : Nat) : List Int := (List.range' m (3 - m)).flatMap fun (n : Nat) => I4 r s l n 0
end Go.Abs

namespace Go.Abs
open Go Go.Proofs Tryz
attribute [local irreducible] y3 Hold y8
def Y1 (s p : Str) : Str := if p.isPrefixOf s = true then s.drop p.length else s
theorem zGs (s p : Str) (h1 : s.length ≤ 4294967296) (h2 : p.length ≤ 4294967296) : zLP prog 161 [sV s, sV p] [] (sV (Y1 s p)) [] := by
 have sh := zCF s p h1 h2
 unfold Y1
 cases q : p.isPrefixOf s
 ·rw [q] at sh
  rw [if_neg (by decide)]
  clear q
  refine q9 func161 rfl (fun E hE => ?_); simp only [go_sem, ntmps161]
  repeat' (first | (refine Qr rfl ?_; try intro _ hK; try simp only [go_sem, *]) | refine Qh rfl ?_ | (refine Qc rfl rfl ?_ ?_ <;> (intro hb; have hc := hb; try simp only [go_sem] at hc)) | refine q8 rfl ?_ | (refine y2 (sh) ?_; simp only [go_sem, *]) | ((with_reducible apply And.intro); focus omega) | (refine q7 hK ?_; clear hK; simp only [go_sem, *]) | simp only [q6, z8, go_sem, *])
  all_goals try contradiction
  (refine ⟨[_], [], [], ⟨rfl, trivial⟩, ?_⟩; simp only [go_sem, *])
 ·rw [q] at sh
  have hpl := I9 q
  rw [if_pos rfl]
  clear q
  refine q9 func161 rfl (fun E hE => ?_); simp only [go_sem, ntmps161]
  repeat' (first | (refine Qr rfl ?_; try intro _ hK; try simp only [go_sem, *]) | refine Qh rfl ?_ | (refine Qc rfl rfl ?_ ?_ <;> (intro hb; have hc := hb; try simp only [go_sem] at hc)) | refine q8 rfl ?_ | (refine y2 (sh) ?_; simp only [go_sem, *]) | ((with_reducible apply And.intro); focus omega) | (refine q7 hK ?_; clear hK; simp only [go_sem, *]) | simp only [q6, z8, go_sem, *])
  all_goals try contradiction
  (refine ⟨[_], [], [], ⟨rfl, trivial⟩, ?_⟩; simp only [go_sem, *])
theorem zGr (s p : Str) (h1 : s.length ≤ 4294967296) (h2 : p.length ≤ 4294967296) : zLP prog 136 [sV s, sV p] [] (sV (Y1 s p)) [] := by
 have sh := zGs s p h1 h2
 generalize Y1 s p = t at *
 refine q9 func136 rfl (fun E hE => ?_); simp only [go_sem, ntmps136]
 repeat' (first | (refine Qr rfl ?_; try intro _ hK; try simp only [go_sem, *]) | refine Qh rfl ?_ | (refine Qc rfl rfl ?_ ?_ <;> (intro hb; have hc := hb; try simp only [go_sem] at hc)) | refine q8 rfl ?_ | (refine y2 (sh) ?_; simp only [go_sem, *]) | ((with_reducible apply And.intro); focus omega) | (refine q7 hK ?_; clear hK; simp only [go_sem, *]) | simp only [q6, z8, go_sem, *])
 (refine ⟨[_], [], [], ⟨rfl, trivial⟩, ?_⟩; simp only [go_sem, *])
theorem zHl (a : UInt8) (x : Str) : Y1 (a :: x) [a] = x := by simp [Y1]
theorem zHk {a c : UInt8} (h : ¬ a = c) (x : Str) : Y1 (a :: x) [c] = a :: x := by
 have : ¬ c = a := fun e => h e.symm
 simp [Y1, this]
theorem zFD {s : Str} (v : s.all y7 = true) {i : Nat} (h : i < s.length) : (s.getD i 0).toNat < 128 := by
 have hm : s.getD i 0 ∈ s := by simp [List.getD, h]
 have := List.all_eq_true.1 v _ hm
 unfold y7 at this
 simp only [Bool.and_eq_true, decide_eq_true_eq] at this
 omega
theorem zHV (k whole : Str) (hk0 : 0 < k.length) (hk1 : k.length ≤ 1000) (hw : whole.all y7 = true) (hw1 : whole.length ≤ 1000) : zLP prog 111 [sV k, sV whole] [] (bV (Z5 k whole)) [] := by
  by_cases q1 : k.length < whole.length
  · have q1i : ¬ (k.length : Int) ≥ (whole.length : Int) := by omega
    by_cases q2 : k.getD 0 0 = whole.getD 0 0
    · have e : Z5 k whole = zLu k whole := by
        unfold Z5
        rw [decide_eq_true q1, q2]; simp
      rw [e]
      have hP0 : zLu k (whole.drop 0) = zLu k whole := rfl
      generalize zLu k whole = R at *
      have q2n : ((k.getD 0 0).toNat : Int) = (whole.getD 0 0).toNat := by rw [q2]
      have hwa := fun i => zFD (i := i) hw
      clear e q2 hw
      refine q9 func111 rfl (fun E hE => ?_); simp only [go_sem, ntmps111]
      repeat' (first | (refine Qr rfl ?_; try intro _ hK; try simp only [go_sem, *]) | (refine Qi rfl rfl rfl rfl ?_ ?_ <;> (intro hb; (try intro _ hK); have hc := hb; try simp only [go_sem] at hc; simp only [go_sem, *])) | refine Qh rfl ?_ | refine Qd rfl (by kernel_rfl) ?_ | (refine Qc rfl rfl ?_ ?_ <;> (intro hb; have hc := hb; try simp only [go_sem] at hc)) | refine q8 rfl ?_ | (refine Qb ?_ ?_; focus kernel_rfl) | ((with_reducible apply And.intro); focus omega) | (refine q7 hK ?_; clear hK; simp only [go_sem, *]) | simp only [q6, z8, go_sem, *])
      all_goals first | contradiction | omega | skip
      refine c0 rfl (whole.length) (fun i (rest : Str) => 0 < rest.length ∧ rest.length ≤ 1000 ∧ zLu rest (whole.drop i) = R) 32 (fun i rest => [(22, .ptr 0 0), (5, sV rest)]) (fun i rest => [.siter ⟨whole.toArray⟩ i]) [some 0] [] (k) (by exact ⟨hk0, hk1, hP0⟩) ?_; intro i rest hi hP
      clear hP0 q2n
      obtain ⟨hr0, hr1, hP⟩ := hP
      obtain ⟨a, x, rfl⟩ : ∃ a x, rest = a :: x := by
        cases rest with
        | nil => simp at hr0
        | cons a x => exact ⟨a, x, rfl⟩
      by_cases hi2 : i < whole.length
      · have ha := hwa i hi2
        have hd := F6 hi2 ha
        have ee := F9 (n := ((whole.getD i 0).toNat : Int)) (by omega) (by omega)
        rw [Int.toNat_natCast, UInt8.ofNat_toNat] at ee
        have st := zGr (a :: x) [whole.getD i 0] (by omega) (by simp)
        rw [o6 hi2] at hP
        have hP : (if a = whole.getD i default then zLu x (whole.drop (i + 1)) else zLu (a :: x) (whole.drop (i + 1))) = R := hP
        have hdef : whole.getD i default = whole.getD i 0 := rfl
        rw [hdef] at hP
        clear hdef hwa
        generalize whole.getD i 0 = c at *
        generalize he : Utf8.encode (c.toNat : Int) = eb at *
        have st : zLP prog 136 [sV (a :: x), .raw (.string eb)] [] (sV (Y1 (a :: x) [c])) [] := by rw [ee]; exact st
        clear ee
        by_cases hac : a = c
        · subst hac
          rw [if_pos rfl] at hP
          rw [zHl] at st
          cases x with
          | nil =>
            have hP : true = R := by rw [← hP]; cases whole.drop (i + 1) <;> rfl
            subst hP
            repeat' (first | (refine Qr rfl ?_; try intro _ hK; try simp only [go_sem, *]) | (refine Qi rfl rfl rfl rfl ?_ ?_ <;> (intro hb; (try intro _ hK); have hc := hb; try simp only [go_sem] at hc; simp only [go_sem, *])) | refine Qh rfl ?_ | refine Qd rfl (by kernel_rfl) ?_ | (refine Qc rfl rfl ?_ ?_ <;> (intro hb; have hc := hb; try simp only [go_sem] at hc)) | refine q8 rfl ?_ | (refine Qb ?_ ?_; focus kernel_rfl) | (refine y2 (st) ?_; simp only [go_sem, *]) | ((with_reducible apply And.intro); focus omega) | (refine q7 hK ?_; clear hK; simp only [go_sem, *]) | simp only [q6, z8, go_sem, *])
            all_goals ((try clear hd he); first | contradiction | skip)
            (refine ⟨[_], [], [], ⟨rfl, trivial⟩, ?_⟩; simp only [go_sem, *])
          | cons b y =>
            have hr1' : (b :: y).length ≤ 1000 := by simp at hr1 ⊢; omega
            clear hr0 hr1
            repeat' (first | (refine Qr rfl ?_; try intro _ hK; try simp only [go_sem, *]) | (refine Qi rfl rfl rfl rfl ?_ ?_ <;> (intro hb; (try intro _ hK); have hc := hb; try simp only [go_sem] at hc; simp only [go_sem, *])) | refine Qh rfl ?_ | refine Qd rfl (by kernel_rfl) ?_ | (refine Qc rfl rfl ?_ ?_ <;> (intro hb; have hc := hb; try simp only [go_sem] at hc)) | refine q8 rfl ?_ | (refine Qb ?_ ?_; focus kernel_rfl) | (refine y2 (st) ?_; simp only [go_sem, *]) | ((with_reducible apply And.intro); focus omega) | (refine q7 hK ?_; clear hK; simp only [go_sem, *]) | simp only [q6, z8, go_sem, *])
            all_goals ((try clear hd he); first | contradiction | skip)
            exact r9 (i' := i + 1) [some 0] [] (b :: y) (by exact ⟨by simp, hr1', hP⟩)
        · rw [if_neg hac] at hP
          rw [zHk hac] at st
          clear hac
          repeat' (first | (refine Qr rfl ?_; try intro _ hK; try simp only [go_sem, *]) | (refine Qi rfl rfl rfl rfl ?_ ?_ <;> (intro hb; (try intro _ hK); have hc := hb; try simp only [go_sem] at hc; simp only [go_sem, *])) | refine Qh rfl ?_ | refine Qd rfl (by kernel_rfl) ?_ | (refine Qc rfl rfl ?_ ?_ <;> (intro hb; have hc := hb; try simp only [go_sem] at hc)) | refine q8 rfl ?_ | (refine Qb ?_ ?_; focus kernel_rfl) | (refine y2 (st) ?_; simp only [go_sem, *]) | ((with_reducible apply And.intro); focus omega) | (refine q7 hK ?_; clear hK; simp only [go_sem, *]) | simp only [q6, z8, go_sem, *])
          all_goals ((try clear hd he); first | contradiction | skip)
          exact r9 (i' := i + 1) [some 0] [] (a :: x) (by exact ⟨hr0, hr1, hP⟩)
      · rw [j9 (by omega)] at hP
        have hP : false = R := hP
        subst hP
        clear hwa
        repeat' (first | (refine Qr rfl ?_; try intro _ hK; try simp only [go_sem, *]) | (refine Qi rfl rfl rfl rfl ?_ ?_ <;> (intro hb; (try intro _ hK); have hc := hb; try simp only [go_sem] at hc; simp only [go_sem, *])) | refine Qh rfl ?_ | refine Qd rfl (by kernel_rfl) ?_ | (refine Qc rfl rfl ?_ ?_ <;> (intro hb; have hc := hb; try simp only [go_sem] at hc)) | refine q8 rfl ?_ | (refine Qb ?_ ?_; focus kernel_rfl) | ((with_reducible apply And.intro); focus omega) | (refine q7 hK ?_; clear hK; simp only [go_sem, *]) | simp only [q6, z8, go_sem, *])
        all_goals first | contradiction | omega | skip
        (refine ⟨[_], [], [], ⟨rfl, trivial⟩, ?_⟩; simp only [go_sem, *])
    · have e : Z5 k whole = false := by
        unfold Z5
        rw [show (k.getD 0 0 == whole.getD 0 0) = false by simpa using q2]; simp
      rw [e]
      have q2n : ¬ ((k.getD 0 0).toNat : Int) = (whole.getD 0 0).toNat := fun h => q2 (UInt8.toNat_inj.1 (by omega))
      clear e q2 hw
      refine q9 func111 rfl (fun E hE => ?_); simp only [go_sem, ntmps111]
      repeat' (first | (refine Qr rfl ?_; try intro _ hK; try simp only [go_sem, *]) | (refine Qi rfl rfl rfl rfl ?_ ?_ <;> (intro hb; (try intro _ hK); have hc := hb; try simp only [go_sem] at hc; simp only [go_sem, *])) | refine Qh rfl ?_ | refine Qd rfl (by kernel_rfl) ?_ | (refine Qc rfl rfl ?_ ?_ <;> (intro hb; have hc := hb; try simp only [go_sem] at hc)) | refine q8 rfl ?_ | (refine Qb ?_ ?_; focus kernel_rfl) | ((with_reducible apply And.intro); focus omega) | (refine q7 hK ?_; clear hK; simp only [go_sem, *]) | simp only [q6, z8, go_sem, *])
      all_goals first | contradiction | omega | skip
      (refine ⟨[_], [], [], ⟨rfl, trivial⟩, ?_⟩; simp only [go_sem, *])
  · have e : Z5 k whole = false := by
      unfold Z5
      rw [decide_eq_false q1]; rfl
    rw [e]
    clear e hw
    have q1i : (k.length : Int) ≥ (whole.length : Int) := by omega
    refine q9 func111 rfl (fun E hE => ?_); simp only [go_sem, ntmps111]
    repeat' (first | (refine Qr rfl ?_; try intro _ hK; try simp only [go_sem, *]) | (refine Qi rfl rfl rfl rfl ?_ ?_ <;> (intro hb; (try intro _ hK); have hc := hb; try simp only [go_sem] at hc; simp only [go_sem, *])) | refine Qh rfl ?_ | refine Qd rfl (by kernel_rfl) ?_ | (refine Qc rfl rfl ?_ ?_ <;> (intro hb; have hc := hb; try simp only [go_sem] at hc)) | refine q8 rfl ?_ | (refine Qb ?_ ?_; focus kernel_rfl) | ((with_reducible apply And.intro); focus omega) | (refine q7 hK ?_; clear hK; simp only [go_sem, *]) | simp only [q6, z8, go_sem, *])
    all_goals first | contradiction | omega | skip
    (refine ⟨[_], [], [], ⟨rfl, trivial⟩, ?_⟩; simp only [go_sem, *])
end Go.Abs

namespace Go.Abs
open Go Go.Proofs Tryz
attribute [local irreducible] y3 Hold y8
def zLh (k own s : Str) : Bool := !(decide (zLO s = own)) && Z5 k (zLO s)
theorem zHF (k own s : Str) (hk0 : 0 < k.length) (hk1 : k.length ≤ 1000) (v : ValidN s) : zLP prog 139 [sV s, .ptr 0 0, .ptr 1 0] [.box [sV own], .box [sV k]] (bV (zLh k own s)) [.box [sV own], .box [sV k]] := by
 have so := W3 s v.form (by have := v.len; omega)
 have hkl := D8 v
 unfold x8 at hkl
 simp only [Bool.and_eq_true, decide_eq_true_eq] at hkl
 have ss := zHV k (zLO s) hk0 hk1 hkl.2.2 (by omega)
 unfold zLh
 generalize zLO s = ks at *
 generalize Z5 k ks = b at *
 clear hkl v hk0
 by_cases q : ks = own
 ·have e : (!decide (ks = own) && b) = false := by rw [decide_eq_true q]; rfl
  rw [e]
  subst q
  clear e ss
  refine q9 func139 rfl (fun E hE => ?_); simp only [go_sem, ntmps139]
  repeat' (first | (refine Qr rfl ?_; try intro _ hK; try simp only [go_sem, *]) | (refine Qi rfl rfl rfl rfl ?_ ?_ <;> (intro hb; (try intro _ hK); have hc := hb; try simp only [go_sem] at hc; simp only [go_sem, *])) | refine Qh rfl ?_ | refine Qd rfl (by kernel_rfl) ?_ | (refine Qc rfl rfl ?_ ?_ <;> (intro hb; have hc := hb; try simp only [go_sem] at hc)) | refine q8 rfl ?_ | (refine Qb ?_ ?_; focus kernel_rfl) | (refine y2 (so) ?_; simp only [go_sem, *]) | ((with_reducible apply And.intro); focus omega) | (refine q7 hK ?_; clear hK; simp only [go_sem, *]) | simp only [q6, z8, go_sem, *])
  all_goals try contradiction
  refine ⟨[_], [some 0, some 1], [], ⟨rfl, trivial⟩, ?_⟩
  simp only [go_sem, *]
 ·have e : (!decide (ks = own) && b) = b := by rw [decide_eq_false q]; rfl
  rw [e]
  clear e
  refine q9 func139 rfl (fun E hE => ?_); simp only [go_sem, ntmps139]
  repeat' (first | (refine Qr rfl ?_; try intro _ hK; try simp only [go_sem, *]) | (refine Qi rfl rfl rfl rfl ?_ ?_ <;> (intro hb; (try intro _ hK); have hc := hb; try simp only [go_sem] at hc; simp only [go_sem, *])) | refine Qh rfl ?_ | refine Qd rfl (by kernel_rfl) ?_ | (refine Qc rfl rfl ?_ ?_ <;> (intro hb; have hc := hb; try simp only [go_sem] at hc)) | refine q8 rfl ?_ | (refine Qb ?_ ?_; focus kernel_rfl) | ((first | refine y2 (so) ?_ | refine y2 (ss) ?_); simp only [go_sem, *]) | ((with_reducible apply And.intro); focus omega) | (refine q7 hK ?_; clear hK; simp only [go_sem, *]) | simp only [q6, z8, go_sem, *])
  all_goals try contradiction
  refine ⟨[_], [some 0, some 1], [], ⟨rfl, trivial⟩, ?_⟩
  simp only [go_sem, *]
def zLm (p : Str → Bool) : List Str → Nat → Int
 | [], _ => -1
 | x :: r, i => if p x = true then (i : Int) else zLm p r (i + 1)
theorem zBA (p : Str → Bool) : ∀ (l : List Str) (i : Nat), decide (zLm p l i ≥ 0) = l.any p
 | [], i => by simp [zLm]
 | x :: r, i => by
  rw [zLm, List.any_cons]
  cases hp : p x with
  | true => simp
  | false => rw [if_neg (by decide), zBA p r (i + 1), Bool.false_or]
theorem zGj (k own : Str) (l : List Str) (hk0 : 0 < k.length) (hk1 : k.length ≤ 1000) (hv : ∀ s, s ∈ l → ValidN s) (hl : l.length ≤ 1000) :
  zLP prog 162 [y6 l, .fn 139 [.ptr 0 0, .ptr 1 0]] [.box [sV own], .box [sV k]] (iV (zLm (zLh k own) l 0)) [.box [sV own], .box [sV k]] := by
 have hca : u7 prog 139 = true := by kernel_rfl
 have h0 : zLm (zLh k own) (l.drop 0) 0 = zLm (zLh k own) l 0 := rfl
 generalize zLm (zLh k own) l 0 = T at *
 have sm := fun s v => zHF k own s hk0 hk1 v
 refine q9 func162 rfl (fun E hE => ?_); simp only [go_sem, ntmps162]
 repeat' (first | (refine Qr rfl ?_; try intro _ hK; try simp only [go_sem, *]) | refine Qh rfl ?_ | (refine Qc rfl rfl ?_ ?_ <;> (intro hb; have hc := hb; try simp only [go_sem] at hc)) | refine q8 rfl ?_ | ((with_reducible apply And.intro); focus omega) | (refine q7 hK ?_; clear hK; simp only [go_sem, *]) | simp only [q6, z8, go_sem, *])
 refine r8 rfl (l.length) (fun i => zLm (zLh k own) (l.drop i) i = T) 19 (fun i => [(8, iV i), (7, iV l.length), (0, y6 l), (1, .fn 139 [.ptr 0 0, .ptr 1 0])]) (fun i => [.box [sV own], .box [sV k]]) [some 0, some 1] [] (by exact h0) ?_; intro i hi hP
 clear h0
 by_cases hi2 : i < l.length
 ·have sc := sm _ (hv _ (i3 hi2))
  rw [o6 hi2, zLm] at hP
  generalize hm : zLh k own (l.getD i default) = b at *
  clear hm
  cases b
  ·have hP : zLm (zLh k own) (l.drop (i + 1)) (i + 1) = T := hP
   clear sm
   repeat' (first | (refine Qr rfl ?_; try intro _ hK; try simp only [go_sem, *]) | refine Qh rfl ?_ | (refine Qc rfl rfl ?_ ?_ <;> (intro hb; have hc := hb; try simp only [go_sem] at hc)) | refine q8 rfl ?_ | (refine w8 [0, 1] (sc) ?_; simp only [go_sem, *]) | ((with_reducible apply And.intro); focus omega) | (refine q7 hK ?_; clear hK; simp only [go_sem, *]) | simp only [q6, z8, go_sem, *])
   all_goals first | contradiction | omega | skip
   exact n0 (i' := i + 1) [some 0, some 1] [] (by exact hP)
  ·have hP : (i : Int) = T := hP
   subst hP
   clear sm
   repeat' (first | (refine Qr rfl ?_; try intro _ hK; try simp only [go_sem, *]) | refine Qh rfl ?_ | (refine Qc rfl rfl ?_ ?_ <;> (intro hb; have hc := hb; try simp only [go_sem] at hc)) | refine q8 rfl ?_ | (refine w8 [0, 1] (sc) ?_; simp only [go_sem, *]) | ((with_reducible apply And.intro); focus omega) | (refine q7 hK ?_; clear hK; simp only [go_sem, *]) | simp only [q6, z8, go_sem, *])
   all_goals first | contradiction | omega | skip
   refine ⟨[_], [some 0, some 1], [], ⟨rfl, trivial⟩, ?_⟩
   simp only [go_sem, *]
 ·rw [j9 (by omega)] at hP
  have hP : (-1 : Int) = T := hP
  subst hP
  clear sm
  repeat' (first | (refine Qr rfl ?_; try intro _ hK; try simp only [go_sem, *]) | refine Qh rfl ?_ | (refine Qc rfl rfl ?_ ?_ <;> (intro hb; have hc := hb; try simp only [go_sem] at hc)) | refine q8 rfl ?_ | ((with_reducible apply And.intro); focus omega) | (refine q7 hK ?_; clear hK; simp only [go_sem, *]) | simp only [q6, z8, go_sem, *])
  all_goals first | contradiction | omega | skip
  refine ⟨[_], [some 0, some 1], [], ⟨rfl, trivial⟩, ?_⟩
  simp only [go_sem, *]
theorem zGd (k own : Str) (l : List Str) (hk0 : 0 < k.length) (hk1 : k.length ≤ 1000) (hv : ∀ s, s ∈ l → ValidN s) (hl : l.length ≤ 1000) :
  zLP prog 138 [y6 l, .fn 139 [.ptr 0 0, .ptr 1 0]] [.box [sV own], .box [sV k]] (bV (l.any (zLh k own))) [.box [sV own], .box [sV k]] := by
 have si := zGj k own l hk0 hk1 hv hl
 rw [← zBA (zLh k own) l 0]
 generalize zLm (zLh k own) l 0 = n at *
 clear hv
 refine q9 func138 rfl (fun E hE => ?_); simp only [go_sem, ntmps138]
 repeat' (first | (refine Qr rfl ?_; try intro _ hK; try simp only [go_sem, *]) | refine Qh rfl ?_ | (refine Qc rfl rfl ?_ ?_ <;> (intro hb; have hc := hb; try simp only [go_sem] at hc)) | refine q8 rfl ?_ | (refine w8 [0, 1] (si) ?_; simp only [go_sem, *]) | ((with_reducible apply And.intro); focus omega) | (refine q7 hK ?_; clear hK; simp only [go_sem, *]) | simp only [q6, z8, go_sem, *])
 refine ⟨[_], [some 0, some 1], [], ⟨rfl, trivial⟩, ?_⟩
 simp only [go_sem, *]
theorem zHG (k own : Str) (l : List Str) (hk0 : 0 < k.length) (hk1 : k.length ≤ 1000) (hv : ∀ s, s ∈ l → ValidN s) (hl : l.length ≤ 1000) :
  zLP prog 114 [sV k, y6 l, sV own] [] (bV (i5 k l own)) [] := by
 have sc := zGd k own l hk0 hk1 hv hl
 have e : i5 k l own = l.any (zLh k own) := rfl
 rw [e]
 clear e hv
 generalize l.any (zLh k own) = b at *
 refine q9 func114 rfl (fun E hE => ?_); simp only [go_sem, ntmps114]
 repeat' (first | (refine Qr rfl ?_; try intro _ hK; try simp only [go_sem, *]) | refine Qh rfl ?_ | (refine Qc rfl rfl ?_ ?_ <;> (intro hb; have hc := hb; try simp only [go_sem] at hc)) | refine q8 rfl ?_ | (refine w8 [1, 0] (sc) ?_; simp only [go_sem, *]) | ((with_reducible apply And.intro); focus omega) | (refine q7 hK ?_; clear hK; simp only [go_sem, *]) | simp only [q6, z8, go_sem, *])
 (refine ⟨[_], [], [], ⟨rfl, trivial⟩, ?_⟩; simp only [go_sem, *])
end Go.Abs

namespace Go.Abs
open Go Go.Proofs Tryz
attribute [local irreducible] y3 Hold y8
abbrev zAd (now : Str) (i : Nat) : List AV := [sV now, iV i, .ptr 0 0, .ptr 1 0, .ptr 2 0]
abbrev Y8 (k : Str) (m : List Str) : List AObj := [.box [sV k], .box [.mp 3], .box [.fn 140 [.ptr 0 0, .ptr 1 0, .ptr 2 0]], .mapo (m.map zLW) (m.map fun _ => bV true)]
def SmallL (m : List Str) : Prop := ∀ x, x ∈ m → x.length ≤ 1000
theorem SmallL.met {k now : Str} {m : List Str} (h : SmallL m) (hn : now.length ≤ 1000) : SmallL (zLg k m now) := fun x hx => by
 rcases mem_metC.1 hx with hx | ⟨rfl, _⟩
 ·exact h x hx
 ·exact hn
theorem SmallL.go {k now : Str} {m : List Str} {n i : Nat} (h : SmallL m) (hk : k.length ≤ 1000) (hi : k.length - i ≤ n) : SmallL (goC k n m now i) := fun x hx => by
 rcases (C8 hi).1 hx with hx | ⟨t, _, _, hl⟩
 ·exact h x hx
 ·omega
theorem zCL (k : Str) (hk : k.length ≤ 1000) : ∀ (n : Nat) (m : List Str) (now : Str) (i : Nat), k.length - i ≤ n → now.length ≤ i → i ≤ k.length → SmallL m →
  zLP prog 140 (zAd now i) (Y8 k m) (.tup []) (Y8 k (goC k n m now i))
 | 0, m, now, i, hn, h1, h2, hs => by
  have hi : i = k.length := by omega
  subst hi
  have e : goC k 0 m now k.length = zLg k m now := rfl
  rw [e]
  clear e
  unfold zLg
  by_cases q : now.length < k.length
  ·rw [if_pos q]
   have qi : (now.length : Int) < (k.length : Int) := by omega
   refine q9 func140 rfl (fun E hE => ?_); simp only [go_sem, ntmps140]
   repeat' (first | (refine Qr rfl ?_; try intro _ hK; try simp only [go_sem, *]) | refine Qh rfl ?_ | refine Qd rfl (by kernel_rfl) ?_ | (refine Qc rfl rfl ?_ ?_ <;> (intro hb; have hc := hb; try simp only [go_sem] at hc)) | refine q8 rfl ?_ | (refine Qb ?_ ?_; focus kernel_rfl) | ((with_reducible apply And.intro); focus omega) | (refine q7 hK ?_; clear hK; simp only [go_sem, *]) | simp only [q6, z8, go_sem, *])
   all_goals first | contradiction | omega | skip
   refine zAG hs (by omega) (by simp only [go_sem]) ?_
   repeat' (first | (refine Qr rfl ?_; try intro _ hK; try simp only [go_sem, *]) | refine Qh rfl ?_ | refine Qd rfl (by kernel_rfl) ?_ | (refine Qc rfl rfl ?_ ?_ <;> (intro hb; have hc := hb; try simp only [go_sem] at hc)) | refine q8 rfl ?_ | (refine Qb ?_ ?_; focus kernel_rfl) | ((with_reducible apply And.intro); focus omega) | (refine q7 hK ?_; clear hK; simp only [go_sem, *]) | simp only [q6, z8, go_sem, *])
   refine r8 rfl (1) (fun t => NoQ t) 33 (fun t => [(7, iV k.length), (0, sV now), (2, .ptr 0 0), (3, .ptr 1 0), (4, .ptr 2 0)]) (fun t => Y8 k (zLk m now)) [some 0, some 1, some 2, some 3] [] (by trivial) ?_; intro t ht hP
   repeat' (first | (refine Qr rfl ?_; try intro _ hK; try simp only [go_sem, *]) | refine Qh rfl ?_ | refine Qd rfl (by kernel_rfl) ?_ | (refine Qc rfl rfl ?_ ?_ <;> (intro hb; have hc := hb; try simp only [go_sem] at hc)) | refine q8 rfl ?_ | (refine Qb ?_ ?_; focus kernel_rfl) | ((with_reducible apply And.intro); focus omega) | (refine q7 hK ?_; clear hK; simp only [go_sem, *]) | simp only [q6, z8, go_sem, *])
   all_goals first | contradiction | omega | skip
   refine ⟨[], [some 0, some 1, some 2, some 3], [], trivial, ?_⟩
   simp only [go_sem, j5, *]
  ·rw [if_neg q]
   have qi : ¬ (now.length : Int) < (k.length : Int) := by omega
   refine q9 func140 rfl (fun E hE => ?_); simp only [go_sem, ntmps140]
   repeat' (first | (refine Qr rfl ?_; try intro _ hK; try simp only [go_sem, *]) | refine Qh rfl ?_ | refine Qd rfl (by kernel_rfl) ?_ | (refine Qc rfl rfl ?_ ?_ <;> (intro hb; have hc := hb; try simp only [go_sem] at hc)) | refine q8 rfl ?_ | (refine Qb ?_ ?_; focus kernel_rfl) | ((with_reducible apply And.intro); focus omega) | (refine q7 hK ?_; clear hK; simp only [go_sem, *]) | simp only [q6, z8, go_sem, *])
   all_goals first | contradiction | omega | skip
   refine r8 rfl (1) (fun t => NoQ t) 33 (fun t => [(7, iV k.length), (0, sV now), (2, .ptr 0 0), (3, .ptr 1 0), (4, .ptr 2 0)]) (fun t => Y8 k m) [some 0, some 1, some 2, some 3] [] (by trivial) ?_; intro t ht hP
   repeat' (first | (refine Qr rfl ?_; try intro _ hK; try simp only [go_sem, *]) | refine Qh rfl ?_ | refine Qd rfl (by kernel_rfl) ?_ | (refine Qc rfl rfl ?_ ?_ <;> (intro hb; have hc := hb; try simp only [go_sem] at hc)) | refine q8 rfl ?_ | (refine Qb ?_ ?_; focus kernel_rfl) | ((with_reducible apply And.intro); focus omega) | (refine q7 hK ?_; clear hK; simp only [go_sem, *]) | simp only [q6, z8, go_sem, *])
   all_goals first | contradiction | omega | skip
   refine ⟨[], [some 0, some 1, some 2, some 3], [], trivial, ?_⟩
   simp only [go_sem, j5, *]
 | n + 1, m, now, i, hn, h1, h2, hs => by
  have hca : u7 prog 140 = true := by kernel_rfl
  have IH := zCL k hk n
  rw [D2]
  have hs2 : SmallL (zLg k m now) := hs.met (by omega)
  obtain ⟨T, hT⟩ : ∃ T, c9 k n (zLg k m now) now (i + 0) = T := ⟨_, rfl⟩
  have hT0 : c9 k n (zLg k m now) now i = T := hT
  rw [hT0]
  clear hT0
  unfold zLg at hT hs2
  by_cases q : now.length < k.length
  ·rw [if_pos q] at hT hs2
   have qi : (now.length : Int) < (k.length : Int) := by omega
   refine q9 func140 rfl (fun E hE => ?_); simp only [go_sem, ntmps140]
   repeat' (first | (refine Qr rfl ?_; try intro _ hK; try simp only [go_sem, *]) | refine Qh rfl ?_ | refine Qd rfl (by kernel_rfl) ?_ | (refine Qc rfl rfl ?_ ?_ <;> (intro hb; have hc := hb; try simp only [go_sem] at hc)) | refine q8 rfl ?_ | (refine Qb ?_ ?_; focus kernel_rfl) | ((with_reducible apply And.intro); focus omega) | (refine q7 hK ?_; clear hK; simp only [go_sem, *]) | simp only [q6, z8, go_sem, *])
   all_goals first | contradiction | omega | skip
   refine zAG hs (by omega) (by simp only [go_sem]) ?_
   repeat' (first | (refine Qr rfl ?_; try intro _ hK; try simp only [go_sem, *]) | refine Qh rfl ?_ | refine Qd rfl (by kernel_rfl) ?_ | (refine Qc rfl rfl ?_ ?_ <;> (intro hb; have hc := hb; try simp only [go_sem] at hc)) | refine q8 rfl ?_ | (refine Qb ?_ ?_; focus kernel_rfl) | ((with_reducible apply And.intro); focus omega) | (refine q7 hK ?_; clear hK; simp only [go_sem, *]) | simp only [q6, z8, go_sem, *])
   refine c0 rfl (k.length - i) (fun t (z : List Str) => c9 k n z now (i + t) = T ∧ SmallL z) 33 (fun t z => [(7, iV ((i + t : Nat) : Int)), (0, sV now), (2, .ptr 0 0), (3, .ptr 1 0), (4, .ptr 2 0)]) (fun t z => Y8 k z) [some 0, some 1, some 2, some 3] [] (zLk m now) (by exact ⟨hT, hs2⟩) ?_; intro t z ht hP
   clear hT hs2 hs
   obtain ⟨hP, hz⟩ := hP
   generalize hjj : i + t = j at *
   by_cases hj : j < k.length
   ·rw [D1 hj] at hP
    have sI := IH z (now ++ [k.getD j 0]) (j + 1) (by omega) (by simp; omega) (by omega) hz
    have hz2 : SmallL (goC k n z (now ++ [k.getD j 0]) (j + 1)) := hz.go hk (by omega)
    have hdt := F7 hj
    have hji : (j : Int) < (k.length : Int) := by omega
    have hwj : IntKind.i64.wrap ((j : Int) + 1) = ((j + 1 : Nat) : Int) := u5 (by omega)
    have hnx : i + (t + 1) = j + 1 := by omega
    generalize goC k n z (now ++ [k.getD j 0]) (j + 1) = z2 at *
    clear IH hz
    repeat' (first | (refine Qr rfl ?_; try intro _ hK; try simp only [go_sem, *]) | refine Qh rfl ?_ | refine Qd rfl (by kernel_rfl) ?_ | (refine Qc rfl rfl ?_ ?_ <;> (intro hb; have hc := hb; try simp only [go_sem] at hc)) | refine q8 rfl ?_ | (refine Qb ?_ ?_; focus kernel_rfl) | ((with_reducible apply And.intro); focus omega) | (refine q7 hK ?_; clear hK; simp only [go_sem, *]) | simp only [q6, z8, go_sem, *])
    refine w8 [0, 1, 2, 3] sI ?_
    simp only [go_sem, *]
    repeat' (first | (refine Qr rfl ?_; try intro _ hK; try simp only [go_sem, *]) | refine Qh rfl ?_ | refine Qd rfl (by kernel_rfl) ?_ | (refine Qc rfl rfl ?_ ?_ <;> (intro hb; have hc := hb; try simp only [go_sem] at hc)) | refine q8 rfl ?_ | (refine Qb ?_ ?_; focus kernel_rfl) | ((with_reducible apply And.intro); focus omega) | (refine q7 hK ?_; clear hK; simp only [go_sem, *]) | simp only [q6, z8, go_sem, *])
    all_goals first | contradiction | omega | skip
    exact r9 (i' := t + 1) [some 0, some 1, some 2, some 3] [] (z2) (by rw [hnx]; exact ⟨hP, hz2⟩)
   ·rw [J3 (by omega)] at hP
    subst hP
    have hji : ¬ (j : Int) < (k.length : Int) := by omega
    clear IH hz
    repeat' (first | (refine Qr rfl ?_; try intro _ hK; try simp only [go_sem, *]) | refine Qh rfl ?_ | refine Qd rfl (by kernel_rfl) ?_ | (refine Qc rfl rfl ?_ ?_ <;> (intro hb; have hc := hb; try simp only [go_sem] at hc)) | refine q8 rfl ?_ | (refine Qb ?_ ?_; focus kernel_rfl) | ((with_reducible apply And.intro); focus omega) | (refine q7 hK ?_; clear hK; simp only [go_sem, *]) | simp only [q6, z8, go_sem, *])
    all_goals first | contradiction | omega | skip
    refine ⟨[], [some 0, some 1, some 2, some 3], [], trivial, ?_⟩
    simp only [go_sem, j5, *]
  ·rw [if_neg q] at hT hs2
   have qi : ¬ (now.length : Int) < (k.length : Int) := by omega
   have hik : i = k.length := by omega
   rw [J3 (by omega)] at hT
   subst hT
   subst hik
   clear IH
   refine q9 func140 rfl (fun E hE => ?_); simp only [go_sem, ntmps140]
   repeat' (first | (refine Qr rfl ?_; try intro _ hK; try simp only [go_sem, *]) | refine Qh rfl ?_ | refine Qd rfl (by kernel_rfl) ?_ | (refine Qc rfl rfl ?_ ?_ <;> (intro hb; have hc := hb; try simp only [go_sem] at hc)) | refine q8 rfl ?_ | (refine Qb ?_ ?_; focus kernel_rfl) | ((with_reducible apply And.intro); focus omega) | (refine q7 hK ?_; clear hK; simp only [go_sem, *]) | simp only [q6, z8, go_sem, *])
   all_goals first | contradiction | omega | skip
   refine r8 rfl (1) (fun t => NoQ t) 33 (fun t => [(7, iV k.length), (0, sV now), (2, .ptr 0 0), (3, .ptr 1 0), (4, .ptr 2 0)]) (fun t => Y8 k m) [some 0, some 1, some 2, some 3] [] (by trivial) ?_; intro t ht hP
   repeat' (first | (refine Qr rfl ?_; try intro _ hK; try simp only [go_sem, *]) | refine Qh rfl ?_ | refine Qd rfl (by kernel_rfl) ?_ | (refine Qc rfl rfl ?_ ?_ <;> (intro hb; have hc := hb; try simp only [go_sem] at hc)) | refine q8 rfl ?_ | (refine Qb ?_ ?_; focus kernel_rfl) | ((with_reducible apply And.intro); focus omega) | (refine q7 hK ?_; clear hK; simp only [go_sem, *]) | simp only [q6, z8, go_sem, *])
   all_goals first | contradiction | omega | skip
   refine ⟨[], [some 0, some 1, some 2, some 3], [], trivial, ?_⟩
   simp only [go_sem, j5, *]
end Go.Abs

