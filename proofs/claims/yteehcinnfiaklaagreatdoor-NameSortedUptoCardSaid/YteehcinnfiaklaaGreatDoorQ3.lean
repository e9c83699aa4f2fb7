/-
  WHAT THE PROOF STANDS ON, PART 3: contracts of the program's functions and the logic that they are proved in. No condition.
-/
import Derived.Test.YteehcinnfiaklaaGreatDoorRows
import Derived.ProofKit
import Derived.OpenShut
import Derived.JoinedCond
import Derived.ChangeSlices
import Derived.Carry
import Derived.KernelRfl
import Derived.Shelf.Strings.OnBuilder
import Derived.Shelf.Strings.Runes
import Derived.Test.YteehcinnfiaklaaGreatDoorProg
import Derived.Test.YteehcinnfiaklaaGreatDoorCards
import Derived.Deep.DeepHandedRow
import Derived.Deep.DeepWitnessRowRef
import Derived.Lib.LaidCaseMet
import Derived.Maps.Keyed
import Derived.DeepKeys3
import Derived.Test.YteehcinnfiaklaaGreatDoorQ2
set_option maxRecDepth 100000
set_option maxHeartbeats 4000000
set_option linter.unusedVariables false
set_option linter.unusedSimpArgs false
set_option linter.unusedSectionVars false
namespace Go.Abs
open Go Go.Proofs Go.Proofs.YteehcinnfiaklaaGreatDoor Go.ChangeShapes Go.WideShapes Go.ChangeAt Go.RowKit
theorem zN5 : ownKnob Tryz.prog.godebug = none := by kernel_rfl
theorem zKu : laidOutB Tryz.prog = true := by kernel_rfl
abbrev zNR (w : World) : Nat → Prop := fun b => b < w.heap.size
theorem zIe (w : World) : SR (c0 w (zNR w) 0 (fun _ => .un)) (zNR w) (fun _ => .un) (hs []) T1 w :=
 ⟨.nil, rfl, fun t => .pure (.any _), fun o => rfl, fun o o' b c c' h => by simp [hs, zMn, AS.obj, lkO, AObj.live] at h, fun b hb => hb, fun o b c h => by simp [hs, zMn, AS.obj, lkO, AObj.live] at h,
  ⟨rfl, rfl, rfl, Nat.le_refl _, fun b _ _ => rfl, fun _ => Nat.le_refl _, fun p hp => by simp [zBB] at hp⟩, fun b hb => hb, fun b hb => .inl hb, fun k hk => absurd hk (Nat.not_lt_zero k)⟩
theorem zJy {f : FuncId} {args : List AV} (sp : zMf Tryz.prog f args [] (bV true) []) (w : World) (vs : Array Value) (hl : vs.size = args.length) (hv : ∀ i (h : i < args.length) (h' : i < vs.size), PR w (zNR w) args[i] vs[i]) :
  Calls Tryz.prog f vs w fun e w' => e = .returned (.bool true) ∧ Below w.heap.size w w' := by
 refine (sp w (zNR w) (fun _ => .un) vs (zIe w) hl (fun i h h' => .pure (hv i h h'))).mono ?_
 rintro e w' ⟨v, I', loc', rfl, hp⟩
 have hr := hp.val.raw_eq
 subst hr
 have fr := hp.sr.fr
 exact ⟨rfl, fr.os, fr.tape, fr.output, fr.size, fun k hk => fr.block k hk (fun ⟨j, c, hj, _⟩ => absurd hj (Nat.not_lt_zero j))⟩
theorem zGe {H : Type} (d : DataW H) : 1 ≤ Rows.uptoBulk d := by
 cases d with
 | lit l => cases l <;> simp [Rows.uptoBulk]
 | _ => simp [Rows.uptoBulk]
theorem length_le {H : Type} (l : List (DataW H)) : l.length ≤ Rows.uptoBulkAll l := by
 induction l with
 | nil => simp [Rows.uptoBulkAll]
 | cons x r ih => have := zGe x; simp only [Rows.uptoBulkAll, List.length_cons]; omega
theorem zJH {H : Type} {enc : TypeId × Value → H} {W : World} {v : Value} {d : DataW H} {ps : List MemPlace} (hval : Value.okWide Tryz.prog W .any 0 23 v ∨ ∃ base, Value.okWide Tryz.prog W .any base 23 v)
    (h : DataW.Trod enc Tryz.prog W 0 (fun _ => true) true 23 v d ps) (hk : Rows.uptoBulk d ≤ 1048576) : ∃ l : List Int, PR W (zNR W) (.list (l.map iV)) v ∧ l.length ≤ 1048576 := by
  have hsl : ∃ a len cap, v = .slice a len cap := by
    rcases hval with hval | ⟨base, hval⟩
    · exact okWide_slice Tryz.underlying23 hval
    · exact okWide_slice Tryz.underlying23 hval
  obtain ⟨a, len, cap, rfl⟩ := hsl
  obtain ⟨fuel, hf⟩ := h
  have hc : Tryz.prog.cellsOf 3 = 1 := by kernel_rfl
  rcases open_ints Tryz.underlying23 Tryz.underlying3 hc hf with ⟨hcs, _⟩ | ⟨a0, len0, cap0, zs, hcs, _, hle, hm, hz, hx, hcell, hwz⟩
  · have e : Value.slice a len cap = .slice none 0 0 := by simpa [Value.cells] using hcs
    rw [e]
    exact ⟨[], .nil _ _, by simp⟩
  · have e : Value.slice a len cap = .slice (some a0) len0 cap0 := by simpa [Value.cells] using hcs
    rw [e]
    simp only [if_true] at hz
    have hd := congrArg Prod.fst hx
    simp only at hd
    subst hd
    have hlen : (zs.take len0).length = len0 := by simp; omega
    refine ⟨zs.take len0, ?_, ?_⟩
    · by_cases h0 : len0 = 0
      · subst h0; exact .nil _ _
      · have h1 := hcell 0 (by omega)
        have hspot : a0.spot = none := by
          unfold World.cell? at h1
          split at h1
          · split at h1
            · cases h1
            · rename_i hs
              simpa [Addr.add] using hs
          · cases h1
        have hblk : a0.block < W.heap.size := by
          unfold World.cell? at h1
          split at h1
          · rename_i hb
            have := (Array.getElem?_eq_some_iff.1 hb).1
            simpa [Addr.add] using this
          · cases h1
        obtain ⟨b, off, sp⟩ := a0
        simp only at hspot hblk
        subst hspot
        have key := PR.list (w := W) (I := zNR W) b off cap0 1 ((zs.take len0).map iV) (fun i _ => .int .i64 (zs.getD i 0)) hblk (by omega) (by simp; omega) (fun i hi => by simp [AV.cells])
          (fun i j hi hj => by
            have hi' : i < zs.length := by simp at hi; omega
            have := hcell i hi'
            have hj0 : j = 0 := by omega
            subst hj0
            have ea : (⟨b, off, none⟩ : Addr).add i = ⟨b, off + i * 1 + 0, none⟩ := by
              unfold Addr.add
              split
              · rename_i h; subst h; simp
              · simp
            rw [ea] at this; exact this)
          (fun i hi j hj => by
            have hi' : i < zs.length := by simp at hi; omega
            have hj0 : j = 0 := by simp [AV.cells] at hj; omega
            subst hj0
            have e2 : (((zs.take len0).map iV)[i]).cells[0] = iV (zs.getD i 0) := by simp [AV.cells, List.getD, hi']
            rw [e2]
            exact .raw _ rfl)
        rw [List.length_map, hlen] at key
        exact key
    · have h1 : (zs.take len0).length ≤ Rows.uptoBulkAll (H := H) (lits .i64 (zs.take len0)) := by
        have := length_le (H := H) (lits .i64 (zs.take len0))
        simpa [lits] using this
      simp only [Rows.uptoBulk] at hk
      omega
end Go.Abs

namespace Go.Abs
open Go
theorem Plate.lt_iff (a b : Plate) : a.lt b = true ↔ a.number < b.number ∨ (a.number = b.number ∧ a.letter < b.letter) := by simp [Plate.lt]
theorem House.lt_iff (a b : House) : a.lt b = true ↔ a.street < b.street ∨ (a.street = b.street ∧ (a.plate.number < b.plate.number ∨ (a.plate.number = b.plate.number ∧ a.plate.letter < b.plate.letter))) := by simp [House.lt, Plate.lt]
theorem Plate.lt_irrefl (a : Plate) : ¬ a.lt a = true := by rw [Plate.lt_iff]; omega
theorem House.lt_irrefl (a : House) : ¬ a.lt a = true := by rw [House.lt_iff]; omega
abbrev Strict (l : List House) : Prop := l.Pairwise (fun a b => a.lt b = true)
theorem Strict.nodup {l : List House} (h : Strict l) : l.Nodup := h.imp (fun {a b} hab e => by subst e; exact House.lt_irrefl _ hab)
theorem Valid.row {p : zMq} (v : Valid p) (s : Int) : Sound (P1 p s) := by
 unfold P1
 by_cases h : s.toNat < p.length
 ·exact v.rows _ (j3 h)
 ·simp only [List.getD_eq_getElem?_getD, List.getElem?_eq_none (Nat.le_of_not_lt h), Option.getD_none]
  show Sound []
  exact ⟨by simp, fun x hx => by simp at hx, List.Pairwise.nil⟩
end Go.Abs

namespace Go.Abs
open Go
structure Fit (p : zMq) (c : Change) : Prop where
 kind : 1 ≤ c.kind ∧ c.kind ≤ 7
 street : 0 ≤ c.street ∧ c.street < p.length
 other : c.kind = 4 ∨ c.kind = 7 → 0 ≤ c.other ∧ c.other < p.length ∧ c.other ≠ c.street
 fits : zBo p c = 0
theorem Sound.nodup {l : List Plate} (h : Sound l) : l.Nodup := h.sorted.imp (fun {a b} hab e => by subst e; exact Plate.lt_irrefl _ hab)
section
variable {p : zMq} {c : Change} {x : Plate}
end
end Go.Abs

namespace Go.Abs
open Go
end Go.Abs

namespace Go.Abs
open Go
abbrev w9 (a b : Str) : Bool := Op.bytesLess a b
theorem zAz (a b : UInt8) (x y : Str) : w9 (a :: x) (b :: y) = (decide (a < b) || (a == b && w9 x y)) := rfl
theorem zA0 : ∀ a : Str, w9 a a = false
 | [] => rfl
 | a :: x => by rw [zAz, zA0 x]; simp
theorem zA1 : ∀ {a b c : Str}, w9 a b = true → w9 b c = true → w9 a c = true
 | [], [], _, h, _ => by cases h
 | [], _ :: _, [], _, h => by cases h
 | [], _ :: _, _ :: _, _, _ => rfl
 | _ :: _, [], _, h, _ => by cases h
 | _ :: _, _ :: _, [], _, h => by cases h
 | a :: x, b :: y, c :: z, h1, h2 => by
  rw [zAz, Bool.or_eq_true, Bool.and_eq_true, decide_eq_true_eq, beq_iff_eq] at h1 h2 ⊢
  rw [UInt8.lt_iff_toNat_lt] at h1 h2 ⊢
  rcases h1 with h1 | ⟨rfl, h1⟩
  ·rcases h2 with h2 | ⟨rfl, h2⟩
   ·exact .inl (by omega)
   ·exact .inl h1
  ·rcases h2 with h2 | ⟨rfl, h2⟩
   ·exact .inl h2
   ·exact .inr ⟨rfl, zA1 h1 h2⟩
theorem L7 : ∀ {a b : Str}, w9 a b = false → w9 b a = false → a = b
 | [], [], _, _ => rfl
 | [], _ :: _, h, _ => by cases h
 | _ :: _, [], _, h => by cases h
 | a :: x, b :: y, h1, h2 => by
  rw [zAz, Bool.or_eq_false_iff] at h1 h2
  have e1 : ¬ a < b := by simpa using h1.1
  have e2 : ¬ b < a := by simpa using h2.1
  rw [UInt8.lt_iff_toNat_lt] at e1 e2
  have e : a = b := UInt8.toNat_inj.1 (by omega)
  subst e
  have g1 : w9 x y = false := by simpa using h1.2
  have g2 : w9 y x = false := by simpa using h2.2
  rw [L7 g1 g2]
theorem zAy {a b : Str} (h : w9 a b = true) : w9 b a = false := by
 cases e : w9 b a with
 | false => rfl
 | true => have := zA1 h e; rw [zA0] at this; cases this
def zMj (a b : Str) : Int := if w9 a b = true then -1 else if w9 b a = true then 1 else 0
theorem cmpS_neg {a b : Str} : zMj a b < 0 ↔ w9 a b = true := by
 unfold zMj
 by_cases h : w9 a b = true
 ·rw [if_pos h]; simp [h]
 ·rw [if_neg h]
  split <;> simp [h]
theorem cmpS_zero {a b : Str} : zMj a b = 0 ↔ a = b := by
 unfold zMj
 constructor
 ·intro h
  by_cases h1 : w9 a b = true
  ·rw [if_pos h1] at h; cases h
  ·rw [if_neg h1] at h
   by_cases h2 : w9 b a = true
   ·rw [if_pos h2] at h; cases h
   ·exact L7 (by simpa using h1) (by simpa using h2)
 ·rintro rfl
  simp [zA0]
def y7 (c : UInt8) : Bool := decide (97 ≤ c.toNat) && decide (c.toNat ≤ 122)
def w7 (c : UInt8) : Bool := decide (65 ≤ c.toNat) && decide (c.toNat ≤ 90) && !(c == 72 || c == 81 || c == 87)
def x7 (c : UInt8) : Int := if y7 c = true then 1 else if w7 c = true then 2 else 0
def y5 (c : UInt8) : Str := if c = 67 then [99, 104] else if c = 74 then [106, 117] else if c = 88 then [115, 104] else if c = 89 then [106, 97] else if 65 ≤ c.toNat ∧ c.toNat ≤ 90 then [UInt8.ofNat (c.toNat + 32)] else [c]
def zMg (s : Str) : Str := s.flatMap y5
def o4 (s : Str) : Bool := s.all y7 || s.all w7
def y9 (s : Str) : Int := if s.length = 0 then 7 else if 6 < s.length then 10 else if o4 s = true then 0 else 2
structure ValidN (s : Str) : Prop where
 ne : 0 < s.length
 len : s.length ≤ 6
 form : o4 s = true
theorem checkN_zero {s : Str} : y9 s = 0 ↔ ValidN s := by
 unfold y9
 constructor
 ·intro h
  split at h
  ·cases h
  ·split at h
   ·cases h
   ·split at h
    ·rename_i h1 h2 h3; exact ⟨by omega, by omega, h3⟩
    ·cases h
 ·intro v
  have h1 := v.ne
  have h2 := v.len
  rw [if_neg (by omega), if_neg (by omega), if_pos v.form]
theorem zHU {c : UInt8} (h : y7 c = true) : y5 c = [c] := by
 unfold y7 at h
 rw [Bool.and_eq_true, decide_eq_true_eq, decide_eq_true_eq] at h
 have ne : ∀ d : UInt8, d.toNat < 97 → ¬ c = d := fun d hd e => by subst e; omega
 unfold y5
 rw [if_neg (ne 67 (by decide)), if_neg (ne 74 (by decide)), if_neg (ne 88 (by decide)), if_neg (ne 89 (by decide)), if_neg (by omega)]
theorem R4 : ∀ {s : Str}, s.all y7 = true → zMg s = s
 | [], _ => rfl
 | c :: r, h => by
  rw [List.all_cons, Bool.and_eq_true] at h
  show y5 c ++ zMg r = _
  rw [zHU h.1, R4 h.2]; rfl
theorem P4 (c : UInt8) : 1 ≤ (y5 c).length ∧ (y5 c).length ≤ 2 := by
 unfold y5
 repeat' split
 all_goals simp
theorem R5 : ∀ s : Str, s.length ≤ (zMg s).length ∧ (zMg s).length ≤ 2 * s.length
 | [] => by simp [zMg]
 | c :: r => by
  have h1 := P4 c
  have h2 := R5 r
  have e : zMg (c :: r) = y5 c ++ zMg r := rfl
  rw [e, List.length_append, List.length_cons]
  omega
theorem zHV {c : UInt8} (h : w7 c = true) : ∀ d, d ∈ y5 c → y7 d = true := by
 unfold w7 at h
 rw [Bool.and_eq_true, Bool.and_eq_true, decide_eq_true_eq, decide_eq_true_eq] at h
 obtain ⟨⟨h1, h2⟩, _⟩ := h
 unfold y5
 split
 ·decide
 ·split
  ·decide
  ·split
   ·decide
   ·split
    ·decide
    ·rw [if_pos ⟨h1, h2⟩]
     intro d hd
     rw [List.mem_singleton.1 hd]
     unfold y7
     have : (UInt8.ofNat (c.toNat + 32)).toNat = c.toNat + 32 := UInt8.toNat_ofNat_of_lt' (by show c.toNat + 32 < 256; omega)
     rw [this]
     simp; omega
theorem zF1 {s : Str} (h : o4 s = true) : (zMg s).all y7 = true := by
 unfold o4 at h
 rw [Bool.or_eq_true] at h
 rcases h with h | h
 ·rw [R4 h]; exact h
 ·rw [List.all_eq_true] at h ⊢
  intro d hd
  obtain ⟨c, hc, hd⟩ := List.mem_flatMap.1 hd
  exact zHV (h c hc) d hd
def o8 (s : Str) : Int := x7 (s.getD 0 0)
def x6 (a b : Str) : Int := orI (zMj (zMg a) (zMg b)) (zMl (o8 a) (o8 b))
def zBM (a b : Str) : Bool := if zMg a = zMg b then y7 (a.getD 0 0) && !y7 (b.getD 0 0) else w9 (zMg a) (zMg b)
theorem ValidN.script {s : Str} (v : ValidN s) : o8 s = if y7 (s.getD 0 0) = true then 1 else 2 := by
 unfold o8 x7
 by_cases h : y7 (s.getD 0 0) = true
 ·rw [if_pos h, if_pos h]
 ·rw [if_neg h, if_neg h]
  have hm : s.getD 0 0 ∈ s := by
   cases s with
   | nil => have := v.ne; simp at this
   | cons c r => simp
  have hf := v.form
  unfold o4 at hf
  rw [Bool.or_eq_true, List.all_eq_true, List.all_eq_true] at hf
  rcases hf with hf | hf
  ·exact absurd (hf _ hm) h
  ·rw [if_pos (hf _ hm)]
end Go.Abs

namespace Go.Abs
open Go
structure Rule where
 src : Str
 dst : Str
 deriving DecidableEq, Inhabited
@[reducible] def Rule.enc (r : Rule) : AV := .agg [sV r.src, sV r.dst]
def x5 (s : Str) (lo hi : Nat) : Bool := decide (lo ≤ s.length) && (decide (s.length ≤ hi) && s.all y7)
def Rule.ok (r : Rule) : Bool := x5 r.src 1 2 && (x5 r.dst 0 2 && !(decide (r.src = r.dst)))
def r8 (l : List Rule) : Int := if 4 < l.length then 6 else if l.all Rule.ok = true then 0 else 2
def r4 : List Str → Int
 | [] => 0
 | s :: r => if y9 s = 0 then r4 r else y9 s
def t8 (l : List Str) : Int := if 6 < l.length then 6 else r4 l
def W5 (k a b : Str) (i : Nat) : List Str := (List.range' i (k.length + 1 - i)).flatMap fun i => if a.isPrefixOf (k.drop i) = true ∧ x5 (k.take i ++ b ++ k.drop (i + a.length)) 1 12 = true then [k.take i ++ b ++ k.drop (i + a.length)] else []
def j4 (k a b : Str) : List Str := W5 k a b 0
def p8 (l : List Rule) (k : Str) : List Str := l.flatMap fun r => j4 k r.src r.dst ++ j4 k r.dst r.src
def X6 (met : List Str) : List Str → List Str
 | [] => []
 | x :: r => if x ∈ met then X6 met r else x :: X6 (x :: met) r
theorem zAY : ∀ (l met : List Str) (x : Str), x ∈ X6 met l ↔ x ∈ l ∧ x ∉ met
 | [], met, x => by simp [X6]
 | y :: r, met, x => by
  rw [X6]
  split
  ·rename_i h
   rw [zAY r met x]
   constructor
   ·rintro ⟨h1, h2⟩; exact ⟨by simp [h1], h2⟩
   ·rintro ⟨h1, h2⟩
    refine ⟨?_, h2⟩
    rcases List.mem_cons.1 h1 with rfl | h1
    ·exact absurd h h2
    ·exact h1
  ·rename_i h
   rw [List.mem_cons, zAY r _ x]
   simp only [List.mem_cons, not_or]
   constructor
   ·rintro (rfl | ⟨h1, h2, h3⟩)
    ·exact ⟨.inl rfl, h⟩
    ·exact ⟨.inr h1, h3⟩
   ·rintro ⟨h1, h2⟩
    by_cases e : x = y
    ·exact .inl e
    ·exact .inr ⟨h1.resolve_left e, e, h2⟩
def F5 (l : List Str) : List Str := X6 [] l
theorem mem_dedupN {l : List Str} {x : Str} : x ∈ F5 l ↔ x ∈ l := by unfold F5; rw [zAY]; simp
def p9 (l : List Rule) (to : Str) : Nat → Str → List Str → List (List Str)
 | 0, now, pre => if now = to then [pre ++ [now]] else []
 | n + 1, now, pre => (F5 (p8 l now)).flatMap fun s => p9 l to n s (pre ++ [now])
inductive IsChain (l : List Rule) (to : Str) : Nat → Str → List Str → Prop
 | nil : IsChain l to 0 to [to]
 | cons {n : Nat} {s s' : Str} {c : List Str} : s' ∈ p8 l s → IsChain l to n s' c → IsChain l to (n + 1) s (s :: c)
theorem mem_chainsN {l : List Rule} {to : Str} : ∀ {n : Nat} {s : Str} {pre c : List Str}, c ∈ p9 l to n s pre ↔ ∃ d, c = pre ++ d ∧ IsChain l to n s d
 | 0, s, pre, c => by
  rw [p9]
  constructor
  ·intro h
   split at h
   ·rename_i e
    subst e
    exact ⟨[s], List.mem_singleton.1 h, .nil⟩
   ·cases h
  ·rintro ⟨d, rfl, h⟩
   cases h
   simp
 | n + 1, s, pre, c => by
  rw [p9, List.mem_flatMap]
  constructor
  ·rintro ⟨s', h1, h2⟩
   obtain ⟨d, rfl, h⟩ := mem_chainsN.1 h2
   exact ⟨s :: d, by simp, .cons (mem_dedupN.1 h1) h⟩
  ·rintro ⟨d, rfl, h⟩
   cases h with
   | cons h1 h2 => exact ⟨_, mem_dedupN.2 h1, mem_chainsN.2 ⟨_, by simp, h2⟩⟩
def zMi : List Str → List Str → Int
 | [], [] => 0
 | [], _ :: _ => -1
 | _ :: _, [] => 1
 | a :: x, b :: y => if zMj a b = 0 then zMi x y else zMj a b
theorem X5 (a b : Str) : zMj b a = -zMj a b := by
 unfold zMj
 cases h : w9 a b with
 | true => rw [zAy h]; simp
 | false => cases h2 : w9 b a <;> simp
theorem A2 : ∀ x y : List Str, zMi y x = -zMi x y
 | [], [] => rfl
 | [], _ :: _ => rfl
 | _ :: _, [] => rfl
 | a :: x, b :: y => by
  rw [zMi, zMi, X5 a b]
  by_cases h : zMj a b = 0
  ·rw [if_pos h, if_pos (by omega), A2 x y]
  ·rw [if_neg h, if_neg (by omega)]
theorem zBW : ∀ {x y : List Str}, zMi x y = 0 → x = y
 | [], [], _ => rfl
 | [], _ :: _, h => by cases h
 | _ :: _, [], h => by cases h
 | a :: x, b :: y, h => by
  rw [zMi] at h
  split at h
  ·rename_i e; rw [cmpS_zero.1 e, zBW h]
  ·rename_i e; exact absurd h e
def y6 {α : Type} (cmp : α → α → Int) : Option α → List α → Option α
 | b, [] => b
 | none, x :: r => y6 cmp (some x) r
 | some y, x :: r => if cmp x y < 0 then y6 cmp (some x) r else y6 cmp (some y) r
def j1 {α : Type} (cmp : α → α → Int) (l : List α) : Option α := y6 cmp none l
def l8 {α : Type} (cmp : α → α → Int) (S : α → Prop) (b : α) : Prop := S b ∧ ∀ x, S x → ¬ cmp x b < 0
section
variable {α : Type} {cmp : α → α → Int} (tr : ∀ x y z, ¬ cmp x y < 0 → ¬ cmp y z < 0 → ¬ cmp x z < 0) (asy : ∀ x y, cmp x y < 0 → ¬ cmp y x < 0)
include tr asy
theorem zAB : ∀ (l : List α) (y : α), ∃ b, y6 cmp (some y) l = some b ∧ l8 cmp (fun x => x = y ∨ x ∈ l) b
 | [], y => ⟨y, rfl, .inl rfl, fun x hx => by
  rcases hx with rfl | hx
  ·exact fun h => asy _ _ h h
  ·cases hx⟩
 | x :: r, y => by
  rw [y6]
  split
  ·rename_i h
   obtain ⟨b, h1, h2, h3⟩ := zAB r x
   refine ⟨b, h1, ?_, fun z hz => ?_⟩
   ·rcases h2 with h2 | h2
    ·exact .inr (by simp [h2])
    ·exact .inr (by simp [h2])
   ·rcases hz with rfl | hz
    ·exact tr _ _ _ (asy _ _ h) (h3 x (.inl rfl))
    ·rcases List.mem_cons.1 hz with rfl | hz
     ·exact h3 _ (.inl rfl)
     ·exact h3 _ (.inr hz)
  ·rename_i h
   obtain ⟨b, h1, h2, h3⟩ := zAB r y
   refine ⟨b, h1, ?_, fun z hz => ?_⟩
   ·rcases h2 with h2 | h2
    ·exact .inl h2
    ·exact .inr (by simp [h2])
   ·rcases hz with rfl | hz
    ·exact h3 _ (.inl rfl)
    ·rcases List.mem_cons.1 hz with rfl | hz
     ·exact tr _ _ _ h (h3 y (.inl rfl))
     ·exact h3 _ (.inr hz)
theorem N3 {l : List α} (hl : l ≠ []) : ∃ b, j1 cmp l = some b ∧ l8 cmp (· ∈ l) b := by
 cases l with
 | nil => exact absurd rfl hl
 | cons x r =>
  obtain ⟨b, h1, h2, h3⟩ := zAB tr asy r x
  refine ⟨b, h1, ?_, fun z hz => h3 z ?_⟩
  ·rcases h2 with rfl | h2
   ·simp
   ·simp [h2]
  ·exact List.mem_cons.1 hz
end
theorem zBn {α : Type} {cmp : α → α → Int} : j1 cmp ([] : List α) = none := rfl
theorem zNn {x y z : Str} (h1 : ¬ zMj x y < 0) (h2 : ¬ zMj y z < 0) : ¬ zMj x z < 0 := by
 rw [cmpS_neg] at *
 intro h
 by_cases e : w9 y x = true
 ·exact h2 (zA1 e h)
 ·have : x = y := L7 (by simpa using h1) (by simpa using e)
  subst this; exact h2 h
theorem zNm : ∀ {x y z : List Str}, ¬ zMi x y < 0 → ¬ zMi y z < 0 → ¬ zMi x z < 0
 | [], [], _, _, h => h
 | [], _ :: _, _, h, _ => absurd (by rw [zMi]; decide) h
 | _ :: _, [], [], _, _ => by rw [zMi]; decide
 | _ :: _, [], _ :: _, _, h => absurd (by rw [zMi]; decide) h
 | _ :: _, _ :: _, [], _, _ => by rw [zMi]; decide
 | a :: x, b :: y, c :: z, h1, h2 => by
  rw [zMi] at *
  have hab := X5 a b
  have hbc := X5 b c
  have hac := X5 a c
  by_cases e1 : zMj a b = 0
  ·rw [if_pos e1] at h1
   rw [cmpS_zero.1 e1]
   by_cases e2 : zMj b c = 0
   ·rw [if_pos e2] at h2 ⊢
    exact zNm h1 h2
   ·rw [if_neg e2] at h2 ⊢
    exact h2
  ·rw [if_neg e1] at h1
   by_cases e2 : zMj b c = 0
   ·rw [if_pos e2] at h2
    rw [← cmpS_zero.1 e2, if_neg e1]; exact h1
   ·rw [if_neg e2] at h2
    have h3 := zNn h1 h2
    by_cases e3 : zMj a c = 0
    ·have : a = c := cmpS_zero.1 e3
     subst this
     omega
    ·rw [if_neg e3]; exact h3
theorem zD4 (x y : List Str) (h : zMi x y < 0) : ¬ zMi y x < 0 := by have := A2 x y; omega
theorem zGE {S : List Str → Prop} {a b : List Str} (ha : l8 zMi S a) (hb : l8 zMi S b) : a = b := by
 have h1 := ha.2 b hb.1
 have h2 := hb.2 a ha.1
 have := A2 a b
 exact zBW (by omega)
def d8 (l : List Rule) (n : Nat) (k to : Str) : Option (List Str) := j1 zMi (p9 l to n k [])
theorem chainN_some {l : List Rule} {n : Nat} {k to : Str} {c : List Str} : d8 l n k to = some c ↔ l8 zMi (IsChain l to n k) c := by
 have hm : ∀ x, x ∈ p9 l to n k [] ↔ IsChain l to n k x := fun x => by
  rw [mem_chainsN]
  exact ⟨fun ⟨d, e, h⟩ => by rw [e]; exact h, fun h => ⟨x, rfl, h⟩⟩
 unfold d8
 by_cases hl : p9 l to n k [] = []
 ·rw [hl, zBn]
  constructor
  ·intro h; cases h
  ·intro h
   have := (hm c).2 h.1
   rw [hl] at this; cases this
 ·obtain ⟨b, h1, h2, h3⟩ := N3 (cmp := zMi) (fun _ _ _ => zNm) zD4 hl
  have hb : l8 zMi (IsChain l to n k) b := ⟨(hm b).1 h2, fun x hx => h3 x ((hm x).2 hx)⟩
  rw [h1]
  constructor
  ·intro h; cases h; exact hb
  ·intro h; rw [zGE h hb]
def B5 (s : Str) : Option (List Str) → Str → Option (List Str) → Option (List Str)
 | best, _, none => best
 | none, _, some rest => some (s :: rest)
 | some b, x, some rest => if w9 x (b.getD 1 []) = true then some (s :: rest) else some b
def V7 (l : List Rule) (to : Str) : Nat → Str → Option (List Str)
 | 0, s => if s = to then some [s] else none
 | n + 1, s => (p8 l s).foldl (fun best x => B5 s best x (V7 l to n x)) none
theorem IsChain.head {l : List Rule} {to : Str} {n : Nat} {s : Str} {c : List Str} (h : IsChain l to n s c) : ∃ r, c = s :: r := by
 cases h with
 | nil => exact ⟨_, rfl⟩
 | cons _ _ => exact ⟨_, rfl⟩
def zND (l : List Rule) (to : Str) (n : Nat) (s : Str) (xs : List Str) (c : List Str) : Prop := ∃ x r, x ∈ xs ∧ c = s :: r ∧ IsChain l to n x r
theorem O5 (a : Str) (x y : List Str) : zMi (a :: x) (a :: y) = zMi x y := by rw [zMi, if_pos (cmpS_zero.2 rfl)]
theorem F2 {l : List Rule} {to : Str} : ∀ {n : Nat} {s : Str} {o : Option (List Str)}, V7 l to n s = o → match o with
    | none => ∀ c, ¬ IsChain l to n s c
    | some c => l8 zMi (IsChain l to n s) c
  | 0, s, o, h => by
    rw [V7] at h
    split at h
    · rename_i e
      subst h e
      refine ⟨.nil, fun x hx => ?_⟩
      cases hx
      rw [zMi, if_pos (cmpS_zero.2 rfl)]; decide
    · rename_i e
      subst h
      intro c hc
      cases hc
      exact e rfl
  | n + 1, s, o, h => by
    rw [V7] at h
    have key : ∀ (xs done : List Str) (b : Option (List Str)), (match b with
        | none => ∀ c, ¬ zND l to n s done c
        | some c => l8 zMi (zND l to n s done) c) →
        match xs.foldl (fun best x => B5 s best x (V7 l to n x)) b with
        | none => ∀ c, ¬ zND l to n s (done ++ xs) c
        | some c => l8 zMi (zND l to n s (done ++ xs)) c := by
      intro xs
      induction xs with
      | nil => intro done b hb; simpa using hb
      | cons x xs ih =>
        intro done b hb
        rw [List.foldl_cons, show done ++ x :: xs = (done ++ [x]) ++ xs by simp]
        apply ih
        have IH := F2 (l := l) (to := to) (n := n) (s := x) rfl
        cases hr : V7 l to n x with
        | none =>
          rw [hr] at IH
          have hov : ∀ c, zND l to n s (done ++ [x]) c ↔ zND l to n s done c := fun c => by
            constructor
            · rintro ⟨y, r, hy, rfl, hc⟩
              rcases List.mem_append.1 hy with hy | hy
              · exact ⟨y, r, hy, rfl, hc⟩
              · rw [List.mem_singleton.1 hy] at hc; exact absurd hc (IH r)
            · rintro ⟨y, r, hy, rfl, hc⟩
              exact ⟨y, r, by simp [hy], rfl, hc⟩
          cases b with
          | none => exact fun c hc => hb c ((hov c).1 hc)
          | some b => exact ⟨(hov b).2 hb.1, fun z hz => hb.2 z ((hov z).1 hz)⟩
        | some rest =>
          rw [hr] at IH
          obtain ⟨r0, rfl⟩ := IH.1.head
          have hnew : zND l to n s (done ++ [x]) (s :: x :: r0) := ⟨x, x :: r0, by simp, rfl, IH.1⟩
          cases b with
          | none =>
            show l8 zMi _ (s :: x :: r0)
            refine ⟨hnew, ?_⟩
            rintro z ⟨y, r, hy, rfl, hc⟩
            rcases List.mem_append.1 hy with hy | hy
            · exact absurd ⟨y, r, hy, rfl, hc⟩ (hb (s :: r))
            · rw [List.mem_singleton.1 hy] at hc
              rw [O5]; exact IH.2 _ hc
          | some b =>
            obtain ⟨⟨yb, rb, hyb, eb, hcb⟩, hleast⟩ := hb
            obtain ⟨rb0, rfl⟩ := hcb.head
            subst eb
            simp only [B5, List.getD_cons_succ, List.getD_cons_zero]
            by_cases hlt : w9 x yb = true
            · rw [if_pos hlt]
              refine ⟨hnew, ?_⟩
              rintro z ⟨y, r, hy, rfl, hc⟩
              rcases List.mem_append.1 hy with hy | hy
              · have h1 := hleast (s :: r) ⟨y, r, hy, rfl, hc⟩
                refine zNm h1 ?_
                rw [O5, zMi]
                have h2 := cmpS_neg.2 hlt
                have h3 := X5 x yb
                rw [if_neg (by omega)]; omega
              · rw [List.mem_singleton.1 hy] at hc
                rw [O5]; exact IH.2 _ hc
            · rw [if_neg hlt]
              refine ⟨⟨yb, yb :: rb0, by simp [hyb], rfl, hcb⟩, ?_⟩
              rintro z ⟨y, r, hy, rfl, hc⟩
              rcases List.mem_append.1 hy with hy | hy
              · exact hleast (s :: r) ⟨y, r, hy, rfl, hc⟩
              · rw [List.mem_singleton.1 hy] at hc
                obtain ⟨r', rfl⟩ := hc.head
                rw [O5, zMi]
                have h2 : ¬ zMj x yb < 0 := fun h => hlt (cmpS_neg.1 h)
                split
                · rename_i e
                  have e := cmpS_zero.1 e
                  subst e
                  have := hleast (s :: x :: r') ⟨x, x :: r', hyb, rfl, hc⟩
                  rw [O5, O5] at this
                  exact this
                · exact h2
    have := key (p8 l s) [] none (by rintro c ⟨y, r, hy, _⟩; cases hy)
    rw [h, List.nil_append] at this
    have hov : ∀ c, zND l to n s (p8 l s) c ↔ IsChain l to (n + 1) s c := fun c => by
      constructor
      · rintro ⟨y, r, hy, rfl, hc⟩; exact .cons hy hc
      · intro hc
        cases hc with
        | cons h1 h2 => exact ⟨_, _, h1, rfl, h2⟩
    cases o with
    | none => exact fun c hc => this c ((hov c).2 hc)
    | some c => exact ⟨(hov c).1 this.1, fun z hz => this.2 z ((hov z).2 hz)⟩
theorem zBT (l : List Rule) (to : Str) (n : Nat) (s : Str) : d8 l n s to = V7 l to n s := by
 have h := F2 (l := l) (to := to) (n := n) (s := s) rfl
 cases hr : V7 l to n s with
 | some c => rw [hr] at h; exact chainN_some.2 h
 | none =>
  rw [hr] at h
  cases hc : d8 l n s to with
  | none => rfl
  | some c => exact absurd (chainN_some.1 hc).1 (h c)
end Go.Abs

namespace Go.Abs
open Go
def zNC : Str → Str → Bool
 | [], _ => true
 | _ :: _, [] => false
 | a :: x, b :: y => if a = b then zNC x y else zNC (a :: x) y
def Y9 (k whole : Str) : Bool := decide (k.length < whole.length) && (k.getD 0 0 == whole.getD 0 0 && zNC k whole)
def e9 (k : Str) (l : List Str) (own : Str) : Bool := l.any fun s => !(decide (zMg s = own)) && Y9 k (zMg s)
def L9 : Str → List Str
 | [] => [[]]
 | a :: r => (L9 r).map (a :: ·) ++ L9 r
theorem mem_subsL : ∀ {k s : Str}, s ∈ L9 k ↔ s.Sublist k
 | [], s => by simp [L9]
 | a :: r, s => by
  rw [L9, List.mem_append, List.mem_map]
  constructor
  ·rintro (⟨t, ht, rfl⟩ | h)
   ·exact (mem_subsL.1 ht).cons_cons a
   ·exact (mem_subsL.1 h).cons a
  ·intro h
   cases h with
   | cons _ h => exact .inr (mem_subsL.2 h)
   | cons_cons _ h => exact .inl ⟨_, mem_subsL.2 h, rfl⟩
def X1 (k s : Str) : Prop := ∃ t : Str, t.Sublist (k.drop 1) ∧ s = k.take 1 ++ t ∧ s.length < k.length
def V9 (k : Str) : List Str := ((L9 (k.drop 1)).map (k.take 1 ++ ·)).filter fun s => decide (s.length < k.length)
theorem zGR {k s : Str} : s ∈ V9 k ↔ X1 k s := by
 unfold V9 X1
 rw [List.mem_filter, List.mem_map, decide_eq_true_eq]
 constructor
 ·rintro ⟨⟨t, ht, rfl⟩, h⟩; exact ⟨t, mem_subsL.1 ht, rfl, h⟩
 ·rintro ⟨t, ht, rfl, h⟩; exact ⟨⟨t, mem_subsL.2 ht, rfl⟩, h⟩
def zMm (up : Bool) (a b : Str) : Int := orI (if up = true then (a.length : Int) - b.length else (b.length : Int) - a.length) (zMj a b)
theorem A1 {up : Bool} {a b : Str} : zMm up a b < 0 ↔ (if up = true then a.length < b.length else b.length < a.length) ∨ (a.length = b.length ∧ w9 a b = true) := by
 unfold zMm orI
 cases up
 ·simp only [Bool.false_eq_true, if_false]
  by_cases h : (b.length : Int) - a.length = 0
  ·rw [if_pos h, cmpS_neg]
   constructor
   ·intro k; exact .inr ⟨by omega, k⟩
   ·rintro (k | k)
    ·omega
    ·exact k.2
  ·rw [if_neg h]
   constructor
   ·intro k; exact .inl (by omega)
   ·rintro (k | k)
    ·omega
    ·omega
 ·simp only [if_true]
  by_cases h : (a.length : Int) - b.length = 0
  ·rw [if_pos h, cmpS_neg]
   constructor
   ·intro k; exact .inr ⟨by omega, k⟩
   ·rintro (k | k)
    ·omega
    ·exact k.2
  ·rw [if_neg h]
   constructor
   ·intro k; exact .inl (by omega)
   ·rintro (k | k)
    ·omega
    ·omega
theorem zDV {x y z : Str} (h1 : ¬ w9 x y = true) (h2 : ¬ w9 y z = true) : ¬ w9 x z = true := by
 rw [← cmpS_neg] at *; exact zNn h1 h2
theorem zNl {up : Bool} {x y z : Str} (h1 : ¬ zMm up x y < 0) (h2 : ¬ zMm up y z < 0) : ¬ zMm up x z < 0 := by
 rw [A1] at *
 cases up
 ·simp only [Bool.false_eq_true, if_false, not_or, not_and] at *
  refine ⟨by omega, fun e => ?_⟩
  exact zDV (h1.2 (by omega)) (h2.2 (by omega))
 ·simp only [if_true, not_or, not_and] at *
  refine ⟨by omega, fun e => ?_⟩
  exact zDV (h1.2 (by omega)) (h2.2 (by omega))
theorem B4 {up : Bool} (x y : Str) (h : zMm up x y < 0) : ¬ zMm up y x < 0 := by
 rw [A1] at *
 cases up
 ·simp only [Bool.false_eq_true, if_false, not_or, not_and] at *
  rcases h with h | h
  ·exact ⟨by omega, fun e => by omega⟩
  ·exact ⟨by omega, fun _ => by rw [zAy h.2]; simp⟩
 ·simp only [if_true, not_or, not_and] at *
  rcases h with h | h
  ·exact ⟨by omega, fun e => by omega⟩
  ·exact ⟨by omega, fun _ => by rw [zAy h.2]; simp⟩
theorem zCP {up : Bool} {S : Str → Prop} {a b : Str} (ha : l8 (zMm up) S a) (hb : l8 (zMm up) S b) : a = b := by
 have h1 := ha.2 b hb.1
 have h2 := hb.2 a ha.1
 rw [A1] at h1 h2
 have hl : a.length = b.length := by
  cases up
  ·simp only [Bool.false_eq_true, if_false, not_or] at h1 h2; omega
  ·simp only [if_true, not_or] at h1 h2; omega
 simp only [not_or, not_and] at h1 h2
 exact L7 (by simpa using h2.2 hl) (by simpa using h1.2 hl.symm)
def P8 (l : List Str) (own : Str) (most : Int) (s : Str) : Prop := X1 own s ∧ (s.length : Int) ≤ most ∧ e9 s l own = false
def zMu (l : List Str) (own : Str) (most : Int) (up : Bool) : Option Str := j1 (zMm up) ((V9 own).filter fun s => decide ((s.length : Int) ≤ most) && !e9 s l own)
theorem mem_ok {l : List Str} {own : Str} {most : Int} {s : Str} : s ∈ (V9 own).filter (fun s => decide ((s.length : Int) ≤ most) && !e9 s l own) ↔ P8 l own most s := by
 unfold P8
 rw [List.mem_filter, zGR, Bool.and_eq_true, decide_eq_true_eq, Bool.not_eq_true']
theorem zEf {l : List Str} {own : Str} {most : Int} {up : Bool} {L : List Str} (h : ∀ s, s ∈ L ↔ P8 l own most s) : j1 (zMm up) L = zMu l own most up := by
  have hm : ∀ s, s ∈ L ↔ s ∈ (V9 own).filter (fun s => decide ((s.length : Int) ≤ most) && !e9 s l own) := fun s => (h s).trans mem_ok.symm
  unfold zMu
  by_cases e : L = []
  · have e2 : (V9 own).filter (fun s => decide ((s.length : Int) ≤ most) && !e9 s l own) = [] := by
      rw [List.eq_nil_iff_forall_not_mem]
      intro x hx
      have := (hm x).2 hx
      rw [e] at this; cases this
    rw [e, e2]
  · have e2 : (V9 own).filter (fun s => decide ((s.length : Int) ≤ most) && !e9 s l own) ≠ [] := fun k => e (by
      rw [List.eq_nil_iff_forall_not_mem]
      intro x hx
      have := (hm x).1 hx
      rw [k] at this; cases this)
    obtain ⟨a, a1, a2⟩ := N3 (cmp := zMm up) (fun _ _ _ => zNl) B4 e
    obtain ⟨b, b1, b2⟩ := N3 (cmp := zMm up) (fun _ _ _ => zNl) B4 e2
    rw [a1, b1, zCP a2 ⟨(hm b).2 b2.1, fun x hx => b2.2 x ((hm x).1 hx)⟩]
theorem cutN_some {l : List Str} {own : Str} {most : Int} {up : Bool} {s : Str} : zMu l own most up = some s ↔ l8 (zMm up) (P8 l own most) s := by
 unfold zMu
 by_cases e : (V9 own).filter (fun s => decide ((s.length : Int) ≤ most) && !e9 s l own) = []
 ·rw [e, zBn]
  constructor
  ·intro h; cases h
  ·intro h
   have := mem_ok.2 h.1
   rw [e] at this; cases this
 ·obtain ⟨b, b1, b2⟩ := N3 (cmp := zMm up) (fun _ _ _ => zNl) B4 e
  have hb : l8 (zMm up) (P8 l own most) b := ⟨mem_ok.1 b2.1, fun x hx => b2.2 x (mem_ok.2 hx)⟩
  rw [b1]
  constructor
  ·intro h; cases h; exact hb
  ·intro h; rw [zCP h hb]
def zAi : Nat → Str → List Str
 | 0, _ => [[]]
 | n + 1, s => match s with
  | [] => []
  | a :: r => (zAi n r).map (a :: ·) ++ zAi (n + 1) r
 termination_by n s => (n, s.length)
def zJo (l : List Str) (own : Str) (many : Nat) : Option Str :=
 if own.length ≤ many then none else j1 zMj (((zAi (many - 1) (own.drop 1)).map (own.take 1 ++ ·)).filter fun s => !e9 s l own)
end Go.Abs

namespace Go.Abs
open Go
theorem zFz {own s : Str} (h : X1 own s) : 1 ≤ s.length := by
 obtain ⟨t, ht, rfl, hl⟩ := h
 cases own with
 | nil => simp at hl
 | cons a r => simp
def zJG (l : List Str) (own : Str) (m : Nat) (s : Str) : Prop := X1 own s ∧ s.length = m ∧ e9 s l own = false
theorem J2 {α β : Type} {f : α → Option β} : ∀ {L : List α}, p5 f L = none → ∀ x, x ∈ L → f x = none
 | [], _, _, hx => by cases hx
 | y :: r, h, x, hx => by
  rw [p5] at h
  split at h
  ·cases h
  ·rename_i e
   rcases List.mem_cons.1 hx with rfl | hx
   ·exact e
   ·exact J2 h x hx
theorem J3 {α β : Type} {f : α → Option β} {b : β} : ∀ {L : List α}, p5 f L = some b → ∃ pre x post, L = pre ++ x :: post ∧ f x = some b ∧ ∀ y, y ∈ pre → f y = none
 | [], h => by cases h
 | y :: r, h => by
  rw [p5] at h
  split at h
  ·rename_i e; cases h; exact ⟨[], y, r, rfl, e, fun _ h => by cases h⟩
  ·rename_i e
   obtain ⟨pre, x, post, rfl, h1, h2⟩ := J3 h
   exact ⟨y :: pre, x, post, rfl, h1, fun z hz => by
    rcases List.mem_cons.1 hz with rfl | hz
    ·exact e
    ·exact h2 z hz⟩
def t7 (l : List Str) (i : Int) : Str := zMg (l.getD i.toNat [])
def f8 (l : List Str) (i : Int) : Int := if t8 l = 0 then if i < 0 ∨ (l.length : Int) ≤ i then 3 else 0 else t8 l
def zNb (s : Str) : Str := s ++ [46]
def zAp (l : List Str) (i : Int) : Int := if f8 l i = 0 then if (zMu l (t7 l i) 12 true).isSome = true then 0 else 11 else f8 l i
def zAq (l : List Str) (i : Int) : Str := if f8 l i = 0 then ((zMu l (t7 l i) 12 true).map zNb).getD [] else []
def zAC (l : List Str) (i w : Int) : Int := if f8 l i = 0 then if w < 1 then 1 else if ((t7 l i).length : Int) ≤ w then 0 else if (zMu l (t7 l i) (w - 1) false).isSome = true then 0 else 11 else f8 l i
def zNk (l : List Str) (i w : Int) : Str := if f8 l i = 0 then if w < 1 then [] else if ((t7 l i).length : Int) ≤ w then t7 l i else ((zMu l (t7 l i) (w - 1) false).map zNb).getD [] else []
def zEh : Nat → List Nat
 | 0 => []
 | n + 1 => (n + 1) :: zEh n
end Go.Abs

namespace Go.Abs
open Go
def otherL : List UInt8 := [65, 66, 67, 68, 69, 70, 71, 73, 74, 75, 76, 77, 78, 79, 80, 82, 83, 84, 85, 86, 88, 89, 90]
theorem mem_otherL {c : UInt8} : c ∈ otherL ↔ w7 c = true := by
 unfold otherL w7
 constructor
 ·intro h
  simp only [List.mem_cons, List.not_mem_nil, or_false] at h
  rcases h with rfl | rfl | rfl | rfl | rfl | rfl | rfl | rfl | rfl | rfl | rfl | rfl | rfl | rfl | rfl | rfl | rfl | rfl | rfl | rfl | rfl | rfl | rfl <;> decide
 ·intro h
  rw [Bool.and_eq_true, Bool.and_eq_true, decide_eq_true_eq, decide_eq_true_eq, Bool.not_eq_true', Bool.or_eq_false_iff, Bool.or_eq_false_iff, beq_eq_false_iff_ne, beq_eq_false_iff_ne, beq_eq_false_iff_ne] at h
  obtain ⟨⟨h1, h2⟩, ⟨h3, h4⟩, h5⟩ := h
  have key : ∀ n : Nat, 65 ≤ n → n ≤ 90 → n ≠ 72 → n ≠ 81 → n ≠ 87 → UInt8.ofNat n ∈ otherL := by
   intro n a b c d e
   have : n = 65 ∨ n = 66 ∨ n = 67 ∨ n = 68 ∨ n = 69 ∨ n = 70 ∨ n = 71 ∨ n = 73 ∨ n = 74 ∨ n = 75 ∨ n = 76 ∨ n = 77 ∨ n = 78 ∨ n = 79 ∨ n = 80 ∨ n = 82 ∨ n = 83 ∨ n = 84 ∨ n = 85 ∨ n = 86 ∨ n = 88 ∨ n = 89 ∨ n = 90 := by omega
   rcases this with rfl | rfl | rfl | rfl | rfl | rfl | rfl | rfl | rfl | rfl | rfl | rfl | rfl | rfl | rfl | rfl | rfl | rfl | rfl | rfl | rfl | rfl | rfl <;> decide
  have ne : ∀ d : UInt8, c ≠ d → c.toNat ≠ d.toNat := fun d hd e => hd (UInt8.toNat_inj.1 e)
  have := key c.toNat h1 h2 (ne 72 h3) (ne 81 h4) (ne 87 h5)
  rw [UInt8.ofNat_toNat] at this
  exact this
def p6 : Nat → Str → Option Str
 | _, [] => some []
 | 0, _ :: _ => none
 | n + 1, a :: r => p5 (fun c => if (y5 c).isPrefixOf (a :: r) = true then (p6 n ((a :: r).drop (y5 c).length)).map (c :: ·) else none) otherL
def N4 (k : Str) : Option Str := p6 k.length k
def zGh : Nat → Str → List Str
 | _, [] => [[]]
 | 0, _ :: _ => []
 | n + 1, a :: r => otherL.flatMap fun c => if (y5 c).isPrefixOf (a :: r) = true then (zGh n ((a :: r).drop (y5 c).length)).map (c :: ·) else []
def W2 (s : Str) : Int := if y9 s = 0 then if (N4 (zMg s)).isSome = true then 0 else 11 else y9 s
def T2 (s : Str) : Str := if y9 s = 0 then (N4 (zMg s)).getD [] else []
def i7 (r : List Rule) (a b : Str) : Int := if r8 r = 0 then if y9 a = 0 then y9 b else y9 a else r8 r
def Z6 (r : List Rule) (a b : Str) : Option (List Str) := p5 (fun n => d8 r n (zMg a) (zMg b)) [0, 1, 2]
def r7 (r : List Rule) (a b : Str) : Int := if i7 r a b = 0 then if (Z6 r a b).isSome = true then 0 else 11 else i7 r a b
def K8 (r : List Rule) (a b : Str) : List Str := if i7 r a b = 0 then (Z6 r a b).getD [] else []
def Z4 (r : List Rule) (a b : Str) : Int := if r7 r a b = 0 then ((K8 r a b).length : Int) - 1 else 0
def zDf (r : List Rule) (a b : Str) : Int := if r7 r a b = 11 then 2 else if r7 r a b = 0 then (if Z4 r a b = 0 then 1 else 3) else 0
def zDe (r : List Rule) (a b : Str) : Int := if r7 r a b = 11 then 0 else r7 r a b
theorem zBU {r : List Rule} {to : Str} {n : Nat} {s : Str} {c : List Str} (h : IsChain r to n s c) : c.length = n + 1 := by
 induction h with
 | nil => rfl
 | cons _ _ ih => rw [List.length_cons, ih]
theorem F1 {r : List Rule} {a b : Str} {c : List Str} (h : Z6 r a b = some c) : ∃ n, n ≤ 2 ∧ c.length = n + 1 ∧ IsChain r (zMg b) n (zMg a) c ∧ ∀ m, m < n → ∀ d, ¬ IsChain r (zMg b) m (zMg a) d := by
 obtain ⟨pre, n, post, h1, h2, h3⟩ := J3 h
 have hn := (chainN_some.1 h2).1
 have hm : ∀ m, m ∈ pre → ∀ d, ¬ IsChain r (zMg b) m (zMg a) d := fun m hm d hd => by
  have := h3 m hm
  rw [zBT] at this
  exact (F2 this) d hd
 have hcase : (n = 0 ∧ pre = []) ∨ (n = 1 ∧ pre = [0]) ∨ (n = 2 ∧ pre = [0, 1]) := by
  match pre, h1 with
  | [], h1 => simp at h1; exact .inl ⟨h1.1.symm, rfl⟩
  | [x], h1 => simp at h1; exact .inr (.inl ⟨h1.2.1.symm, by rw [h1.1]⟩)
  | [x, y], h1 => simp at h1; exact .inr (.inr ⟨h1.2.2.1.symm, by rw [h1.1, h1.2.1]⟩)
  | x :: y :: z :: t, h1 =>
   have := congrArg List.length h1
   simp at this
 refine ⟨n, by rcases hcase with h | h | h <;> omega, zBU hn, hn, fun m hlt d => ?_⟩
 rcases hcase with ⟨rfl, _⟩ | ⟨rfl, rfl⟩ | ⟨rfl, rfl⟩
 ·omega
 ·exact hm m (by simp; omega) d
 ·exact hm m (by simp; omega) d
def E7 (r : List Rule) (s : Str) (l : List Str) (n : Int) (i : Nat) : List Int := (List.range' i (l.length - i)).flatMap fun (i : Nat) => if r7 r s (l.getD i []) = 0 ∧ Z4 r s (l.getD i []) = n then [(i : Int)] else []
def zLO (r : List Rule) (s : Str) (l : List Str) : List Int := E7 r s l 0 0 ++ E7 r s l 1 0 ++ E7 r s l 2 0
def zLN (r : List Rule) (s : Str) (l : List Str) : Int := if r8 r = 0 then if y9 s = 0 then t8 l else y9 s else r8 r
end Go.Abs

namespace Go.Abs
open Go
structure Dice where
 list : List Int
 at_ : Nat
 seed : Int
 deriving Inhabited
abbrev uV (n : Int) : AV := .raw (.int .u64 n)
def u5 (d : Dice) : AObj := .box [.list (d.list.map iV), iV d.at_, uV d.seed]
def Q3 (a b : Int) : Int := IntKind.u64.wrap (BitVec.ofInt IntKind.u64.bits a ^^^ BitVec.ofInt IntKind.u64.bits b).toNat
def H8 (a : Int) (k : Nat) : Int := IntKind.u64.wrap (a * 2 ^ (min k IntKind.u64.bits))
def e7 (a : Int) (k : Nat) : Int := a.fdiv (2 ^ (min k IntKind.u64.bits))
def zNo (s : Int) : Int := Q3 s (H8 s 13)
def zNp (s : Int) : Int := Q3 s (e7 s 7)
def zNq (s : Int) : Int := Q3 s (H8 s 17)
def I8 (s : Int) : Int := zNq (zNp (zNo s))
def zNB (d : Dice) : Int := if d.at_ < d.list.length then IntKind.u64.wrap (I8 d.seed + IntKind.u64.wrap (IntKind.u64.wrap (d.list.getD d.at_ default) * 13787848793156543929)) else I8 d.seed
def zM5 (d : Dice) : Dice := ⟨d.list, if d.at_ < d.list.length then d.at_ + 1 else d.at_, zNB d⟩
def zNY (n : Int) : Int := IntKind.u64.wrap (Q3 n (e7 n 30) * 10723151780598845931)
def zM7 (d : Dice) : Int := Q3 (zNY (zNB d)) (e7 (zNY (zNB d)) 31)
theorem zIs (n : Int) : 0 ≤ IntKind.u64.wrap n ∧ IntKind.u64.wrap n < 18446744073709551616 := by
 rw [IntKind.wrap_u64]; omega
theorem zGt (d : Dice) : 0 ≤ zM7 d ∧ zM7 d < 18446744073709551616 := zIs _
def toN (n : Int) (d : Dice) : Int := if n < 1 then 0 else (e7 (zM7 d) 16).tmod (n + 1)
def toD (n : Int) (d : Dice) : Dice := if n < 1 then d else zM5 d
theorem zHP (n : Int) (h0 : 0 ≤ n) : 0 ≤ e7 n 16 := by
 unfold e7
 rw [Int.fdiv_eq_ediv_of_nonneg _ (by decide)]
 exact Int.ediv_nonneg h0 (by decide)
theorem zDb (n : Int) (d : Dice) : 0 ≤ toN n d ∧ (toN n d ≤ n ∨ toN n d = 0) := by
 unfold toN
 split
 ·omega
 ·have h := zHP _ (zGt d).1
  rw [Int.tmod_eq_emod_of_nonneg h]
  have h1 := Int.emod_nonneg (e7 (zM7 d) 16) (b := n + 1) (by omega)
  have h2 := Int.emod_lt_of_pos (e7 (zM7 d) 16) (b := n + 1) (by omega)
  omega
theorem d6 {n : Int} (h : 0 ≤ n) (d : Dice) : 0 ≤ toN n d ∧ toN n d ≤ n := by
 have := zDb n d; omega
def a6 (lo hi : Int) (d : Dice) : Int := lo + toN (hi - lo) d
def X7 (lo hi : Int) (d : Dice) : Dice := toD (hi - lo) d
theorem zAE {lo hi : Int} (h : lo ≤ hi) (d : Dice) : lo ≤ a6 lo hi d ∧ a6 lo hi d ≤ hi := by
 have := d6 (n := hi - lo) (by omega) d
 unfold a6; omega
def Y3 (k : Int) (d : Dice) : Bool := toN (k - 1) d == 0
def v8 (k : Int) (d : Dice) : Dice := toD (k - 1) d
end Go.Abs

namespace Go.Abs
open Go
theorem mem_replacedN {k a b s : Str} : s ∈ j4 k a b ↔ ∃ i, i ≤ k.length ∧ a.isPrefixOf (k.drop i) = true ∧ x5 s 1 12 = true ∧ s = k.take i ++ b ++ k.drop (i + a.length) := by
 unfold j4 W5
 rw [List.mem_flatMap]
 constructor
 ·rintro ⟨i, hi, h⟩
  rw [List.mem_range'_1] at hi
  split at h
  ·rename_i hc
   have := List.mem_singleton.1 h
   subst this
   exact ⟨i, by omega, hc.1, hc.2, rfl⟩
  ·cases h
 ·rintro ⟨i, hi, h1, h2, rfl⟩
  refine ⟨i, by rw [List.mem_range'_1]; omega, ?_⟩
  rw [if_pos ⟨h1, h2⟩]
  simp
theorem zGo {a x : Str} (h : a.isPrefixOf x = true) : x = a ++ x.drop a.length := by
 obtain ⟨t, rfl⟩ := List.isPrefixOf_iff_prefix.1 h
 simp
theorem zCv {k a b s : Str} (hk : x5 k 1 12 = true) (h : s ∈ j4 k a b) : k ∈ j4 s b a := by
  obtain ⟨i, hi, h1, h2, rfl⟩ := mem_replacedN.1 h
  have e := zGo h1
  have hti : (k.take i).length = i := by rw [List.length_take]; omega
  refine mem_replacedN.2 ⟨i, by simp; omega, ?_, hk, ?_⟩
  · rw [List.append_assoc, List.drop_append_of_le_length (by omega), List.drop_of_length_le (by omega : (k.take i).length ≤ i), List.nil_append]
    exact List.isPrefixOf_iff_prefix.2 ⟨_, rfl⟩
  · have e1 : (k.take i ++ b ++ k.drop (i + a.length)).take i = k.take i := by
      rw [List.append_assoc, List.take_append_of_le_length (by omega), List.take_of_length_le (by omega)]
    have e2 : (k.take i ++ b ++ k.drop (i + a.length)).drop (i + b.length) = k.drop (i + a.length) := by
      rw [List.drop_append, List.drop_of_length_le (by simp; omega), List.nil_append]
      have : i + b.length - (k.take i ++ b).length = 0 := by simp; omega
      rw [this]; rfl
    rw [e1, e2]
    have e3 : k.drop (i + a.length) = (k.drop i).drop a.length := by rw [List.drop_drop]
    rw [e3, List.append_assoc, ← e, List.take_append_drop]
theorem zIm {l : List Rule} {k s : Str} (hk : x5 k 1 12 = true) (h : s ∈ p8 l k) : k ∈ p8 l s ∧ x5 s 1 12 = true := by
 unfold p8 at *
 obtain ⟨r, hr, h⟩ := List.mem_flatMap.1 h
 rcases List.mem_append.1 h with h | h
 ·exact ⟨List.mem_flatMap.2 ⟨r, hr, List.mem_append.2 (.inr (zCv hk h))⟩, by obtain ⟨_, _, _, h2, _⟩ := mem_replacedN.1 h; exact h2⟩
 ·exact ⟨List.mem_flatMap.2 ⟨r, hr, List.mem_append.2 (.inl (zCv hk h))⟩, by obtain ⟨_, _, _, h2, _⟩ := mem_replacedN.1 h; exact h2⟩
def Far (l : List Rule) (n : Nat) (s t : Str) : Prop := ∃ c, IsChain l t n s c
theorem Far.zero {l : List Rule} {s t : Str} : Far l 0 s t ↔ s = t := by
 constructor
 ·rintro ⟨c, h⟩; cases h; rfl
 ·rintro rfl; exact ⟨_, .nil⟩
theorem Far.step {l : List Rule} {n : Nat} {s t : Str} : Far l (n + 1) s t ↔ ∃ x, x ∈ p8 l s ∧ Far l n x t := by
 constructor
 ·rintro ⟨c, h⟩
  cases h with
  | cons h1 h2 => exact ⟨_, h1, _, h2⟩
 ·rintro ⟨x, h1, c, h2⟩; exact ⟨_, .cons h1 h2⟩
theorem Far.join {l : List Rule} : ∀ {n m : Nat} {s t u : Str}, Far l n s t → Far l m t u → Far l (n + m) s u
 | 0, m, s, t, u, h1, h2 => by rw [Far.zero.1 h1, Nat.zero_add]; exact h2
 | n + 1, m, s, t, u, h1, h2 => by
  obtain ⟨x, hx, h⟩ := Far.step.1 h1
  rw [show n + 1 + m = (n + m) + 1 by omega]
  exact Far.step.2 ⟨x, hx, h.join h2⟩
theorem Far.back {l : List Rule} : ∀ {n : Nat} {s t : Str}, x5 s 1 12 = true → Far l n s t → Far l n t s
 | 0, s, t, _, h => by rw [Far.zero.1 h]; exact Far.zero.2 rfl
 | n + 1, s, t, hs, h => by
  obtain ⟨x, hx, h⟩ := Far.step.1 h
  obtain ⟨g1, g2⟩ := zIm hs hx
  have := (h.back g2).join (m := 1) (Far.step.2 ⟨s, g1, Far.zero.2 rfl⟩)
  exact this
theorem Far.more {l l' : List Rule} (h : ∀ r, r ∈ l → r ∈ l') : ∀ {n : Nat} {s t : Str}, Far l n s t → Far l' n s t
 | 0, s, t, k => Far.zero.2 (Far.zero.1 k)
 | n + 1, s, t, k => by
  obtain ⟨x, hx, k⟩ := Far.step.1 k
  refine Far.step.2 ⟨x, ?_, k.more h⟩
  unfold p8 at *
  obtain ⟨r, hr, hx⟩ := List.mem_flatMap.1 hx
  exact List.mem_flatMap.2 ⟨r, h r hr, hx⟩
def zMy (r : List Rule) (a b : Str) : Int := match Z6 r a b with
 | some c => (c.length : Int) - 1
 | none => 9
theorem zEL {r : List Rule} {a b : Str} (h : Z6 r a b = none) : ∀ n, n ≤ 2 → ¬ Far r n (zMg a) (zMg b) := by
 intro n hn ⟨c, hc⟩
 have h1 := J2 h n (by simp; omega)
 rw [zBT] at h1
 exact (F2 h1) c hc
theorem zEr {r : List Rule} {a b : Str} {n : Nat} (hn : n ≤ 2) : zMy r a b ≤ n ↔ ∃ m, m ≤ n ∧ Far r m (zMg a) (zMg b) := by
 unfold zMy
 cases h : Z6 r a b with
 | none =>
  constructor
  ·intro k; simp only at k; omega
  ·rintro ⟨m, h1, h2⟩; exact absurd h2 (zEL h m (by omega))
 | some c =>
  obtain ⟨m, h1, h2, h3, h4⟩ := F1 h
  simp only
  constructor
  ·intro k; exact ⟨m, by omega, c, h3⟩
  ·rintro ⟨m', h5, d, h6⟩
   have : ¬ m' < m := fun hlt => h4 m' hlt d h6
   omega
theorem zEs (r : List Rule) (a b : Str) : (0 ≤ zMy r a b ∧ zMy r a b ≤ 2) ∨ zMy r a b = 9 := by
 unfold zMy
 cases h : Z6 r a b with
 | none => exact .inr rfl
 | some c =>
  obtain ⟨m, h1, h2, _⟩ := F1 h
  simp only; omega
theorem zAP {s : Str} (v : ValidN s) : x5 (zMg s) 1 12 = true := by
 have h1 := R5 s
 have h2 := v.ne
 have h3 := v.len
 unfold x5
 rw [Bool.and_eq_true, Bool.and_eq_true, decide_eq_true_eq, decide_eq_true_eq]
 exact ⟨by omega, by omega, zF1 v.form⟩
theorem zJ8 {r : List Rule} {a b : Str} : zMy r a b = 0 ↔ zMg a = zMg b := by
 have h := zEr (r := r) (a := a) (b := b) (n := 0) (by omega)
 have hr := zEs r a b
 constructor
 ·intro e
  obtain ⟨m, h1, h2⟩ := h.1 (by omega)
  have : m = 0 := by omega
  subst this
  exact Far.zero.1 h2
 ·intro e
  have := h.2 ⟨0, Nat.le_refl _, Far.zero.2 e⟩
  omega
end Go.Abs

namespace Go.Abs
open Go
section
variable {α : Type} (cf : α → α → Int)
def zNF (x : α) : List α → List α
 | [] => [x]
 | y :: r => if cf x y < 0 then y :: zNF x r else x :: y :: r
def zMt (pre : List α) (x : α) : List α := (zNF cf x pre.reverse).reverse
def o5 (xs : List α) : List α := xs.foldl (zMt cf) []
theorem zCB (x : α) : ∀ l : List α, (zNF cf x l).Perm (x :: l)
 | [] => .refl _
 | y :: r => by
  unfold zNF
  split
  ·exact ((zCB x r).cons y).trans (.swap x y r)
  ·exact .refl _
theorem zFw (pre : List α) (x : α) : (zMt cf pre x).Perm (pre ++ [x]) := by
 unfold zMt
 refine (List.reverse_perm _).trans ((zCB cf x _).trans ?_)
 exact ((List.reverse_perm pre).cons x).trans (List.perm_append_comm (l₁ := [x]) (l₂ := pre))
theorem zCF : ∀ (xs pre : List α), (xs.foldl (zMt cf) pre).Perm (pre ++ xs)
 | [], pre => by simp
 | x :: r, pre => by
  rw [List.foldl_cons]
  refine (zCF r _).trans ?_
  refine ((zFw cf pre x).append_right r).trans ?_
  simp
theorem E0 (xs : List α) : (o5 cf xs).Perm xs := by have := zCF cf xs []; simpa [o5] using this
theorem zCG (xs : List α) : (o5 cf xs).length = xs.length := (E0 cf xs).length_eq
theorem zCI (xs : List α) (x : α) : o5 cf (xs ++ [x]) = zMt cf (o5 cf xs) x := by simp [o5, List.foldl_append]
def zM3 (S : List α) (x : α) (R : List α) (d : Nat) : List α := S.take (S.length - d) ++ x :: (S.drop (S.length - d) ++ R)
theorem zEZ (S : List α) (x : α) (R : List α) (d : Nat) : (zM3 S x R d).length = S.length + 1 + R.length := by simp [zM3]; omega
variable [Inhabited α]
theorem zEb (S : List α) (x : α) (R : List α) {d : Nat} (h : d ≤ S.length) : (zM3 S x R d).getD (S.length - d) default = x := by
 unfold zM3
 simp only [List.getD_eq_getElem?_getD]
 rw [List.getElem?_append_right (by simp)]
 simp [show min (S.length - d) S.length = S.length - d by omega]
theorem zEc (S : List α) (x : α) (R : List α) {d : Nat} (h : d < S.length) : (zM3 S x R d).getD (S.length - d - 1) default = S.getD (S.length - d - 1) default := by
 unfold zM3
 simp only [List.getD_eq_getElem?_getD]
 rw [List.getElem?_append_left (by simp; omega), List.getElem?_take, if_pos (by omega)]
theorem zEa (S : List α) (x : α) (R : List α) {d : Nat} (h : d < S.length) :
  ((zM3 S x R d).set (S.length - d) (S.getD (S.length - d - 1) default)).set (S.length - d - 1) x = zM3 S x R (d + 1) := by
 obtain ⟨j, hj⟩ : ∃ j, S.length - d = j + 1 := ⟨S.length - d - 1, by omega⟩
 have hj' : S.length - (d + 1) = j := by omega
 have hlt : j < S.length := by omega
 unfold zM3
 rw [hj, hj']
 have e1 : S.take (j + 1) = S.take j ++ [S.getD j default] := by rw [List.take_add_one]; simp [List.getD, hlt]
 have e2 : S.drop j = S.getD j default :: S.drop (j + 1) := o3 hlt
 rw [e1, e2]
 simp only [Nat.add_sub_cancel]
 have hl : (S.take j).length = j := by simp; omega
 rw [List.append_assoc, List.set_append_right _ _ (by omega), hl]
 simp only [Nat.add_sub_cancel_left, List.singleton_append, List.set_cons_succ, List.set_cons_zero]
 rw [List.set_append_right _ _ (by omega), hl]
 simp
theorem zCA (pre : List α) (x y : α) (h : cf x y < 0) : zMt cf (pre ++ [y]) x = zMt cf pre x ++ [y] := by
 have _ := (default : α)
 unfold zMt; simp [zNF, h]
theorem zB9 (pre : List α) (x y : α) (h : ¬ cf x y < 0) : zMt cf (pre ++ [y]) x = pre ++ [y] ++ [x] := by
 have _ := (default : α)
 unfold zMt; simp [zNF, h]
theorem zDX {l : List α} {i : Nat} (h : i < l.length) : l.take (i + 1) = l.take i ++ [l.getD i default] := by
 rw [List.take_add_one]; simp [List.getD, h]
def InsP (S : List α) (x : α) (R : List α) (cur : List α) (d : Nat) : Prop := cur = zM3 S x R d ∧ zMt cf S x = zMt cf (S.take (S.length - d)) x ++ S.drop (S.length - d)
theorem InsP.start (S : List α) (x : α) (R : List α) : InsP cf S x R (S ++ x :: R) 0 := by simp [InsP, zM3]
theorem InsP.next {S : List α} {x : α} {R cur : List α} {d : Nat} (h : InsP cf S x R cur d) (hd : d < S.length) (hc : cf x (S.getD (S.length - d - 1) default) < 0) :
  InsP cf S x R ((cur.set (S.length - d) (S.getD (S.length - d - 1) default)).set (S.length - d - 1) x) (d + 1) := by
 obtain ⟨h1, h2⟩ := h
 refine ⟨by rw [h1, zEa S x R hd], ?_⟩
 obtain ⟨j, hj⟩ : ∃ j, S.length - d = j + 1 := ⟨S.length - d - 1, by omega⟩
 have hj' : S.length - (d + 1) = j := by omega
 have hlt : j < S.length := by omega
 have e1 : S.take (j + 1) = S.take j ++ [S.getD j default] := by rw [List.take_add_one]; simp [List.getD, hlt]
 have e2 : S.drop j = S.getD j default :: S.drop (j + 1) := o3 hlt
 rw [hj] at h2 hc
 simp only [Nat.add_sub_cancel] at hc
 rw [h2, hj', e1, zCA cf _ _ _ hc, e2, List.append_assoc]; rfl
theorem InsP.stop {S : List α} {x : α} {R cur : List α} {d : Nat} (h : InsP cf S x R cur d) (hd : d ≤ S.length) (hc : d < S.length → ¬ cf x (S.getD (S.length - d - 1) default) < 0) : cur = zMt cf S x ++ R := by
 obtain ⟨h1, h2⟩ := h
 rw [h1, h2]
 unfold zM3
 by_cases e : d = S.length
 ·subst e; simp [zMt, zNF]
 ·obtain ⟨j, hj⟩ : ∃ j, S.length - d = j + 1 := ⟨S.length - d - 1, by omega⟩
  have hlt : j < S.length := by omega
  have e1 : S.take (j + 1) = S.take j ++ [S.getD j default] := by rw [List.take_add_one]; simp [List.getD, hlt]
  have hc' := hc (by omega)
  rw [hj] at hc' ⊢
  simp only [Nat.add_sub_cancel] at hc'
  rw [e1, zB9 cf _ _ _ hc']; simp
end
end Go.Abs

namespace Go.Abs
open Go
theorem zBX (a b : Int) : zMl b a = -zMl a b := by
 unfold zMl
 repeat' split
 all_goals omega
theorem F4 (a b : Str) : x6 b a = -x6 a b := by
 unfold x6 orI
 rw [X5 (zMg a) (zMg b), zBX (o8 a) (o8 b)]
 by_cases h : zMj (zMg a) (zMg b) = 0
 ·rw [if_pos h, if_pos (by omega)]
 ·rw [if_neg h, if_neg (by omega)]
theorem zBx {x y z : Str} (h1 : ¬ x6 x y < 0) (h2 : ¬ x6 y z < 0) : ¬ x6 x z < 0 := by
 unfold x6 orI at *
 have a1 := X5 (zMg x) (zMg y)
 have a2 := X5 (zMg y) (zMg z)
 have gS := fun (p : ¬ zMj (zMg x) (zMg y) < 0) (q : ¬ zMj (zMg y) (zMg z) < 0) => zNn p q
 by_cases e1 : zMj (zMg x) (zMg y) = 0
 ·rw [if_pos e1] at h1
  rw [cmpS_zero.1 e1]
  by_cases e2 : zMj (zMg y) (zMg z) = 0
  ·rw [if_pos e2] at h2 ⊢
   unfold zMl at *
   repeat' split at h1
   all_goals repeat' split at h2
   all_goals repeat' split
   all_goals omega
  ·rw [if_neg e2] at h2 ⊢
   exact h2
 ·rw [if_neg e1] at h1
  by_cases e2 : zMj (zMg y) (zMg z) = 0
  ·rw [if_pos e2] at h2
   rw [← cmpS_zero.1 e2, if_neg e1]; exact h1
  ·rw [if_neg e2] at h2
   have h3 := gS h1 h2
   by_cases e3 : zMj (zMg x) (zMg z) = 0
   ·have e := cmpS_zero.1 e3
    rw [e] at a1 h1
    have := X5 (zMg y) (zMg z)
    omega
   ·rw [if_neg e3]; exact h3
def l3 : List Str → Bool
 | [] => true
 | [_] => true
 | a :: b :: r => !(decide (x6 b a < 0)) && l3 (b :: r)
def Y5 (l : List Str) (s : Str) : Int := if t8 l = 0 then if y9 s = 0 then if l3 l = true then 0 else 5 else y9 s else t8 l
def W3 (l : List Str) (s : Str) : Int := if Y5 l s = 0 then (l.countP fun x => decide (x6 x s < 0) : Nat) else 0
def P3 (l : List Str) : List Nat := o5 (fun a b => x6 (l.getD a []) (l.getD b [])) (List.range l.length)
def zN2 (set i : Nat) : Bool := set.testBit i
def i5 (n set : Nat) : List Nat := (List.range n).filter fun i => set.testBit i
def L3 (l : List Str) (set : Nat) : List Str := ((List.range l.length).filter fun i => !set.testBit i).map fun i => l.getD i []
def x9 : List Nat → List Nat → Int
 | [], [] => 0
 | [], _ :: _ => -1
 | _ :: _, [] => 1
 | a :: x, b :: y => if zMl a b = 0 then x9 x y else zMl a b
def w3 (a b : List Nat) : Int := orI (zMl a.length b.length) (x9 a b)
def j5 (l : List Str) : List (List Nat) := (List.range (2 ^ l.length)).filterMap fun set => if l3 (L3 l set) = true then some (i5 l.length set) else none
def Q2 (l : List Str) : List Nat := (j1 w3 (j5 l)).getD []
end Go.Abs

namespace Go.Abs
open Go
def wordsL : List Str := [[97, 101, 115], [115, 104, 101, 116, 97], [115, 109, 105, 116, 121, 104, 97], [99, 104, 106, 97], [97, 110, 110, 101]]
def wordsU : List Str := [[65, 69, 83], [88, 69, 84, 65], [83, 77, 73, 84, 89, 65], [67, 74, 65, 88], [65, 78, 78, 69]]
def wordsF : List Str := [[101], [121], [115, 104], [97], [110, 110], [116, 104], [109]]
def wordsT : List Str := [[], [105], [115], [116], [97, 101], [106], [110]]
def l6 (ws : List Str) (d : Dice) : Str := ws.getD (toN ((ws.length : Int) - 1) d).toNat []
def x8 (ws : List Str) (d : Dice) : Dice := toD ((ws.length : Int) - 1) d
theorem M9 {ws : List Str} (h : 0 < ws.length) (d : Dice) : l6 ws d ∈ ws := by
 have := d6 (n := (ws.length : Int) - 1) (by omega) d
 unfold l6
 have hlt : (toN ((ws.length : Int) - 1) d).toNat < ws.length := by omega
 simp [List.getD, hlt]
def e8 (set : Str) : Nat → Dice → Str → Str × Dice
 | 0, d, s => (s, d)
 | n + 1, d, s => e8 set n (toD ((set.length : Int) - 1) d) (s ++ [set.getD (toN ((set.length : Int) - 1) d).toNat 0])
def zNg (t : Bool) (d d2 : Dice) (a : Str) : Str × Dice := if t = true then (l6 wordsU d2, x8 wordsU d2) else (a, d2)
def zM8 (d : Dice) : Str × Dice := zNg (Y3 3 (x8 wordsL d)) d (v8 3 (x8 wordsL d)) (l6 wordsL d)
def E6 (most : Int) (p : Str × Dice) : Str × Dice := e8 p.1 (a6 1 (min most 6) p.2).toNat (X7 1 (min most 6) p.2) []
def i3 (d : Dice) (most : Int) : Str × Dice := E6 most (zM8 d)
theorem zCS (set : Str) : ∀ (n : Nat) (d : Dice) (s : Str), (e8 set n d s).1.length = s.length + n
 | 0, d, s => rfl
 | n + 1, d, s => by rw [e8, zCS set n]; simp; omega
theorem zAR (set : Str) (p : UInt8 → Bool) (h0 : 0 < set.length) (hp : set.all p = true) : ∀ (n : Nat) (d : Dice) (s : Str), s.all p = true → (e8 set n d s).1.all p = true
 | 0, d, s, h => h
 | n + 1, d, s, h => by
  rw [e8]
  refine zAR set p h0 hp n _ _ ?_
  have := d6 (n := (set.length : Int) - 1) (by omega) d
  have hlt : (toN ((set.length : Int) - 1) d).toNat < set.length := by omega
  rw [List.all_append, h, Bool.true_and, List.all_cons, List.all_nil, Bool.and_true]
  refine List.all_eq_true.1 hp _ ?_
  simp [List.getD, hlt]
theorem p7 (n : Int) (d : Dice) : (toD n d).list = d.list := by unfold toD; split <;> rfl
theorem zCT (set : Str) : ∀ (n : Nat) (d : Dice) (s : Str), (e8 set n d s).2.list = d.list
 | 0, d, s => rfl
 | n + 1, d, s => by rw [e8, zCT set n, p7]
theorem zIq {x : Str} (h : x ∈ wordsU) : 0 < x.length ∧ x.all w7 = true := by
 have key : (wordsU.all fun x => decide (0 < x.length) && x.all w7) = true := by decide
 have := List.all_eq_true.1 key x h
 simpa using this
theorem zIp {x : Str} (h : x ∈ wordsL) : 0 < x.length ∧ x.all y7 = true := by
 have key : (wordsL.all fun x => decide (0 < x.length) && x.all y7) = true := by decide
 have := List.all_eq_true.1 key x h
 simpa using this
theorem zC7 (d : Dice) : 0 < (zM8 d).1.length ∧ ((zM8 d).1.all y7 = true ∨ (zM8 d).1.all w7 = true) ∧ (zM8 d).2.list = d.list := by
 unfold zM8 zNg
 split
 ·have := zIq (M9 (ws := wordsU) (by decide) (v8 3 (x8 wordsL d)))
  exact ⟨this.1, .inr this.2, by simp only [x8, v8, p7]⟩
 ·have := zIp (M9 (ws := wordsL) (by decide) d)
  exact ⟨this.1, .inl this.2, by simp only [x8, v8, p7]⟩
theorem zAb {d : Dice} {most : Int} (h : 1 ≤ most) : ValidN (i3 d most).1 ∧ ((i3 d most).1.length : Int) ≤ most ∧ (i3 d most).2.list = d.list := by
 obtain ⟨h1, h2, h3⟩ := zC7 d
 unfold i3 E6
 generalize zM8 d = p at *
 have hr := zAE (lo := 1) (hi := min most 6) (by omega) p.2
 have hl := zCS p.1 (a6 1 (min most 6) p.2).toNat (X7 1 (min most 6) p.2) []
 simp only [List.length_nil, Nat.zero_add] at hl
 refine ⟨⟨by rw [hl]; omega, by rw [hl]; omega, ?_⟩, by rw [hl]; omega, ?_⟩
 ·unfold o4
  rw [Bool.or_eq_true]
  rcases h2 with h2 | h2
  ·exact .inl (zAR p.1 y7 h1 h2 _ _ [] rfl)
  ·exact .inr (zAR p.1 w7 h1 h2 _ _ [] rfl)
 ·rw [zCT]
  unfold X7
  rw [p7, h3]
def Q6 (s : Str) (at_ : Nat) : Str := s.take at_ ++ s.drop (at_ + 1)
def zDd (s : Str) (t : Bool) (d : Dice) : Str × Dice := if t = true then (Q6 s (toN ((s.length : Int) - 1) d).toNat, toD ((s.length : Int) - 1) d) else (s, d)
def T7 (s : Str) (d : Dice) : Str × Dice := if 97 ≤ (s.getD 0 0).toNat ∧ 1 < s.length then zDd s (Y3 2 d) (v8 2 d) else (s, d)
def M8 (out : List Str) (d : Dice) : Str := out.getD (toN ((out.length : Int) - 1) d).toNat []
def B3 (out : List Str) (p : Str × Dice) (t : Bool) (d : Dice) : Str × Dice := if t = true then T7 (M8 out d) (toD ((out.length : Int) - 1) d) else (p.1, d)
def b5 (out : List Str) (p : Str × Dice) : Str × Dice := if 0 < out.length then B3 out p (Y3 3 p.2) (v8 3 p.2) else p
def Z0 (most : Int) : Nat → Dice → List Str → List Str × Dice
 | 0, d, out => (out, d)
 | n + 1, d, out => Z0 most n (b5 out (i3 d most)).2 (out ++ [(b5 out (i3 d most)).1])
def T0 (d : Dice) (many most : Int) : List Str × Dice := Z0 most (toN many d).toNat (toD many d) []
theorem zEe {s : Str} (v : ValidN s) (hl : 1 < s.length) {i : Nat} (hi : i < s.length) : ValidN (Q6 s i) ∧ (Q6 s i).length = s.length - 1 := by
 have h1 : (Q6 s i).length = s.length - 1 := by unfold Q6; simp; omega
 refine ⟨⟨by omega, by have := v.len; omega, ?_⟩, h1⟩
 have hf := v.form
 unfold o4 at hf ⊢
 rw [Bool.or_eq_true, List.all_eq_true, List.all_eq_true] at hf ⊢
 have hm : ∀ c, c ∈ Q6 s i → c ∈ s := fun c hc => by
  rcases List.mem_append.1 hc with hc | hc
  ·exact List.mem_of_mem_take hc
  ·exact List.mem_of_mem_drop hc
 rcases hf with hf | hf
 ·exact .inl (fun c hc => hf c (hm c hc))
 ·exact .inr (fun c hc => hf c (hm c hc))
theorem zIo {s : Str} (v : ValidN s) (d : Dice) : ValidN (T7 s d).1 ∧ (T7 s d).1.length ≤ s.length ∧ (T7 s d).2.list = d.list := by
 unfold T7
 split
 ·rename_i h
  unfold zDd
  split
  ·have := d6 (n := (s.length : Int) - 1) (by omega) (v8 2 d)
   obtain ⟨h1, h2⟩ := zEe v h.2 (i := (toN ((s.length : Int) - 1) (v8 2 d)).toNat) (by omega)
   exact ⟨h1, by show (Q6 _ _).length ≤ _; omega, by simp only [p7, v8]⟩
  ·exact ⟨v, Nat.le_refl _, by simp only [p7, v8]⟩
 ·exact ⟨v, Nat.le_refl _, rfl⟩
def V6 (most : Int) (s : Str) : Prop := ValidN s ∧ (s.length : Int) ≤ most
theorem zBE {out : List Str} {most : Int} (ho : ∀ s, s ∈ out → V6 most s) {p : Str × Dice} (hp : V6 most p.1) : V6 most (b5 out p).1 ∧ (b5 out p).2.list = p.2.list := by
 unfold b5
 split
 ·rename_i h
  unfold B3
  split
  ·have := d6 (n := (out.length : Int) - 1) (by omega) (v8 3 p.2)
   have hm : M8 out (v8 3 p.2) ∈ out := by
    unfold M8
    have hlt : (toN ((out.length : Int) - 1) (v8 3 p.2)).toNat < out.length := by omega
    simp [List.getD, hlt]
   obtain ⟨h1, h2⟩ := ho _ hm
   obtain ⟨g1, g2, g3⟩ := zIo h1 (toD ((out.length : Int) - 1) (v8 3 p.2))
   exact ⟨⟨g1, by omega⟩, by rw [g3]; simp only [p7, v8]⟩
  ·exact ⟨hp, by simp only [p7, v8]⟩
 ·exact ⟨hp, rfl⟩
theorem zCi {most : Int} (h : 1 ≤ most) : ∀ (n : Nat) (d : Dice) (out : List Str), (∀ s, s ∈ out → V6 most s) → (∀ s, s ∈ (Z0 most n d out).1 → V6 most s) ∧ (Z0 most n d out).1.length = out.length + n ∧ (Z0 most n d out).2.list = d.list
 | 0, d, out, ho => ⟨ho, rfl, rfl⟩
 | n + 1, d, out, ho => by
  obtain ⟨v, hl, hd⟩ := zAb (d := d) h
  obtain ⟨g1, g2⟩ := zBE ho (p := i3 d most) ⟨v, hl⟩
  rw [Z0]
  obtain ⟨k1, k2, k3⟩ := zCi h n (b5 out (i3 d most)).2 (out ++ [(b5 out (i3 d most)).1]) (fun s hs => by
   rcases List.mem_append.1 hs with hs | hs
   ·exact ho s hs
   ·rw [List.mem_singleton.1 hs]; exact g1)
  exact ⟨k1, by rw [k2]; simp; omega, by rw [k3, g2, hd]⟩
theorem zGW {d : Dice} {many most : Int} (hm : 0 ≤ many) (h : 1 ≤ most) : (∀ s, s ∈ (T0 d many most).1 → V6 most s) ∧ ((T0 d many most).1.length : Int) ≤ many ∧ (T0 d many most).2.list = d.list := by
 have hr := d6 hm d
 obtain ⟨h1, h2, h3⟩ := zCi h (toN many d).toNat (toD many d) [] (fun s hs => by cases hs)
 unfold T0
 refine ⟨h1, ?_, by rw [h3, p7]⟩
 rw [h2]; simp; omega
def c9 : Nat → Dice → List Rule → List Rule × Dice
 | 0, d, out => (out, d)
 | n + 1, d, out => c9 n (x8 wordsT (x8 wordsF d)) (out ++ [⟨l6 wordsF d, l6 wordsT (x8 wordsF d)⟩])
def T3 (d : Dice) (many : Int) : List Rule × Dice := c9 (toN many d).toNat (toD many d) []
theorem zCy : ∀ (n : Nat) (d : Dice) (out : List Rule), out.all Rule.ok = true → (c9 n d out).1.all Rule.ok = true ∧ (c9 n d out).1.length = out.length + n ∧ (c9 n d out).2.list = d.list
 | 0, d, out, h => ⟨h, rfl, rfl⟩
 | n + 1, d, out, h => by
  rw [c9]
  have h1 := M9 (ws := wordsF) (by decide) d
  have h2 := M9 (ws := wordsT) (by decide) (x8 wordsF d)
  obtain ⟨k1, k2, k3⟩ := zCy n (x8 wordsT (x8 wordsF d)) (out ++ [⟨l6 wordsF d, l6 wordsT (x8 wordsF d)⟩]) (by
   rw [List.all_append, h, Bool.true_and, List.all_cons, List.all_nil, Bool.and_true]
   generalize l6 wordsF d = x at *
   generalize l6 wordsT (x8 wordsF d) = y at *
   have key : (wordsF.all fun x => wordsT.all fun y => Rule.ok ⟨x, y⟩) = true := by decide
   exact List.all_eq_true.1 (List.all_eq_true.1 key x h1) y h2)
  exact ⟨k1, by rw [k2]; simp; omega, by rw [k3]; simp only [x8, p7]⟩
theorem zG7 {d : Dice} {many : Int} (hm : 0 ≤ many ∧ many ≤ 4) : r8 (T3 d many).1 = 0 ∧ ((T3 d many).1.length : Int) ≤ many ∧ (T3 d many).2.list = d.list := by
 have hr := d6 hm.1 d
 obtain ⟨h1, h2, h3⟩ := zCy (toN many d).toNat (toD many d) [] rfl
 unfold T3
 have hl : (c9 (toN many d).toNat (toD many d) []).1.length = (toN many d).toNat := by rw [h2]; simp
 refine ⟨?_, by omega, by rw [h3, p7]⟩
 unfold r8
 rw [if_neg (by omega), if_pos h1]
def H9 (key : Str) : Nat → Nat → Dice → Str → Str × Dice
 | 0, _, d, s => (s, d)
 | n + 1, i, d, s => if i = 0 then H9 key n (i + 1) d (s ++ [key.getD i 0]) else if Y3 2 d = true then H9 key n (i + 1) (v8 2 d) (s ++ [key.getD i 0]) else H9 key n (i + 1) (v8 2 d) s
def zMK (d : Dice) (key : Str) : Str × Dice := ((H9 key key.length 0 d []).1 ++ [46], (H9 key key.length 0 d []).2)
end Go.Abs

namespace Go.Abs
open Go
def zMY (l : List Nat) : Str := l.map UInt8.ofNat
def zNN : Str := [67, 65, 68]
def I9 : Str := [99, 104, 97, 100]
def E5 : Str := [97, 110, 110, 97]
def zNe : Str := [66, 69, 78]
def Y1 : Str := [115, 109, 121, 116, 104, 101]
def H0 : Str := [115, 109, 105, 116, 104, 101]
def a8 : Str := [115, 109, 105, 116, 104]
def zAa : Str := [115, 109, 121, 116, 104]
def zNr : Str := [115, 97, 109]
def rulesX : List Rule := [⟨[112, 104], [102]⟩, ⟨[121], [105]⟩, ⟨[101], []⟩]
def smithsX : List Str := [a8, zAa, zNr]
theorem zIx : zMg zNN = I9 := by kernel_rfl
theorem zIu : y9 zNN = 0 := by kernel_rfl
theorem zI1 : P3 [I9, zNN, E5, zNe] = [2, 3, 0, 1] := by kernel_rfl
theorem zIy : t8 [I9, zNN, E5, zNe] = 0 := by kernel_rfl
theorem zDm : i7 rulesX Y1 a8 = 0 := by kernel_rfl
theorem zDl : Z6 rulesX Y1 a8 = some [Y1, H0, a8] := by kernel_rfl
theorem zIz : zAq smithsX 0 = [115, 105, 46] := by kernel_rfl
theorem zI0 : zAp smithsX 0 = 0 := by kernel_rfl
theorem zIv : zNk smithsX 0 4 = [115, 105, 104, 46] := by kernel_rfl
theorem zIw : zAC smithsX 0 4 = 0 := by kernel_rfl
end Go.Abs

namespace Go.Abs
open Go
theorem zFv {α : Type} [Inhabited α] (cf : α → α → Int) (x : α) (S : List α) : ∃ A B, S = A ++ B ∧ zMt cf S x = A ++ x :: B ∧ (∀ y, y ∈ B → cf x y < 0) ∧ ∀ y, A.getLast? = some y → ¬ cf x y < 0 := by
 have key : ∀ R : List α, ∃ A B, R.reverse = A ++ B ∧ zMt cf R.reverse x = A ++ x :: B ∧ (∀ y, y ∈ B → cf x y < 0) ∧ ∀ y, A.getLast? = some y → ¬ cf x y < 0 := by
  intro R
  induction R with
  | nil => exact ⟨[], [], rfl, rfl, (fun y h => nomatch h), (fun y h => by simp at h)⟩
  | cons y R ih =>
   rw [List.reverse_cons]
   by_cases h : cf x y < 0
   ·obtain ⟨A, B, h1, h2, h3, h4⟩ := ih
    refine ⟨A, B ++ [y], by rw [h1]; simp, by rw [zCA cf _ _ _ h, h2]; simp, fun z hz => ?_, h4⟩
    rcases List.mem_append.1 hz with hz | hz
    ·exact h3 z hz
    ·rw [List.mem_singleton.1 hz]; exact h
   ·refine ⟨R.reverse ++ [y], [], by simp, by rw [zB9 cf _ _ _ h], (fun z hz => nomatch hz), fun z hz => ?_⟩
    simp at hz
    subst hz; exact h
 have := key S.reverse
 rwa [List.reverse_reverse] at this
section
variable (l : List Str)
def cfI (a b : Nat) : Int := x6 (l.getD a []) (l.getD b [])
def Prec (a b : Nat) : Prop := cfI l a b < 0 ∨ (¬ cfI l b a < 0 ∧ a < b)
theorem G9 (a b : Nat) : cfI l b a = -cfI l a b := F4 _ _
theorem F0 {a b c : Nat} (h1 : ¬ cfI l a b < 0) (h2 : ¬ cfI l b c < 0) : ¬ cfI l a c < 0 := zBx h1 h2
theorem Prec.trans {a b c : Nat} (h1 : Prec l a b) (h2 : Prec l b c) : Prec l a c := by
 have ab := G9 l a b
 have bc := G9 l b c
 have ac := G9 l a c
 unfold Prec at *
 have g1 : ¬ cfI l b a < 0 := by rcases h1 with h1 | h1 <;> omega
 have g2 : ¬ cfI l c b < 0 := by rcases h2 with h2 | h2 <;> omega
 have g3 : ¬ cfI l c a < 0 := F0 l g2 g1
 by_cases e : cfI l a c < 0
 ·exact .inl e
 ·refine .inr ⟨g3, ?_⟩
  -- all three are alike
  have e1 : ¬ cfI l a b < 0 := fun h => by
   have : ¬ cfI l a b < 0 := F0 l (b := c) e g2
   exact this h
  have e2 : ¬ cfI l b c < 0 := fun h => by
   have : ¬ cfI l b c < 0 := F0 l (b := a) g1 e
   exact this h
  rcases h1 with h1 | h1
  ·exact absurd h1 e1
  ·rcases h2 with h2 | h2
   ·exact absurd h2 e2
   ·omega
theorem zFx {S : List Nat} {x : Nat} (hs : S.Pairwise (Prec l)) (hx : ∀ y, y ∈ S → y < x) : (zMt (cfI l) S x).Pairwise (Prec l) := by
 obtain ⟨A, B, rfl, h2, h3, h4⟩ := zFv (cfI l) x S
 rw [h2]
 obtain ⟨hA, hB, hAB⟩ := List.pairwise_append.1 hs
 have hAx : ∀ y, y ∈ A → Prec l y x := fun y hy => by
  refine .inr ⟨?_, hx y (by simp [hy])⟩
  obtain ⟨A', z, rfl⟩ : ∃ A' z, A = A' ++ [z] := by
   have hne : A ≠ [] := fun e => by rw [e] at hy; cases hy
   exact ⟨A.dropLast, A.getLast hne, (List.dropLast_concat_getLast hne).symm⟩
  have hz := h4 z (by simp)
  rcases List.mem_append.1 hy with hy | hy
  ·have hyz := (List.pairwise_append.1 hA).2.2 y hy z (by simp)
   have hz2 : ¬ cfI l z y < 0 := by
    have := G9 l y z
    rcases hyz with h | h <;> omega
   exact F0 l hz hz2
  ·rw [List.mem_singleton.1 hy]; exact hz
 refine List.pairwise_append.2 ⟨hA, List.pairwise_cons.2 ⟨fun y hy => .inl (h3 y hy), hB⟩, fun a ha b hb => ?_⟩
 rcases List.mem_cons.1 hb with rfl | hb
 ·exact hAx a ha
 ·exact hAB a ha b hb
theorem zCH : ∀ n : Nat, (o5 (cfI l) (List.range n)).Pairwise (Prec l)
 | 0 => .nil
 | n + 1 => by
  rw [List.range_succ, zCI]
  refine zFx l (zCH n) (fun y hy => ?_)
  have := (E0 (cfI l) (List.range n)).mem_iff.1 hy
  simpa using this
theorem zMN : (P3 l).Pairwise (Prec l) := zCH l l.length
theorem zHT : (P3 l).Perm (List.range l.length) := E0 _ _
theorem zHS : (P3 l).length = l.length := by rw [(zHT l).length_eq, List.length_range]
def zLy (i : Nat) : Nat := (List.range l.length).countP fun k => zBM (l.getD k []) (l.getD i []) || (decide (k < i) && !zBM (l.getD i []) (l.getD k []))
end
end Go.Abs

namespace Go.Proofs
open Go.Shelf
def Tryz.lays159_ren : Go.Shelf.Ren := ⟨fun | 159 => 143 | 165 => 163 | 166 => 164 | 167 => 165 | 169 => 166 | 230 => 167 | 204 => 168 | 240 => 182 | 241 => 183 | 197 => 184 | 118 => 185 | 168 => 186 | 270 => 187 | 262 => 188 | 276 => 194 | 277 => 195 | 260 => 196 | 242 => 197 | 313 => 198 | 278 => 200 | 274 => 201 | 275 => 202 | n => n, fun | 9 => 9 | 4 => 4 | 3 => 3 | 5 => 5 | 72 => 180 | 0 => 0 | 76 => 182 | 75 => 147 | 107 => 187 | 70 => 178 | 20 => 20 | 37 => 141 | 127 => 207 | 21 => 21 | 105 => 208 | 164 => 165 | 162 => 219 | 203 => 217 | 119 => 220 | 46 => 89 | 139 => 223 | 138 => 222 | 51 => 224 | 160 => 225 | 208 => 231 | 206 => 229 | 80 => 185 | n => n, fun | 13 => 2 | 3 => 3 | 4 => 4 | n => n⟩
theorem Tryz.lays159 : Go.Proofs.Lays.n159 Tryz.prog Tryz.lays159_ren := {
 mixed := by kernel_rfl
 f118 := Tryz.func185.trans (congrArg some (by kernel_rfl))
 f159 := Tryz.func143.trans (congrArg some (by kernel_rfl))
 f165 := Tryz.func163.trans (congrArg some (by kernel_rfl))
 f166 := Tryz.func164.trans (congrArg some (by kernel_rfl))
 f167 := Tryz.func165.trans (congrArg some (by kernel_rfl))
 f168 := Tryz.func186.trans (congrArg some (by kernel_rfl))
 f169 := Tryz.func166.trans (congrArg some (by kernel_rfl))
 f197 := Tryz.func184.trans (congrArg some (by kernel_rfl))
 f204 := Tryz.func168.trans (congrArg some (by kernel_rfl))
 f230 := Tryz.func167.trans (congrArg some (by kernel_rfl))
 f240 := Tryz.func182.trans (congrArg some (by kernel_rfl))
 f241 := Tryz.func183.trans (congrArg some (by kernel_rfl))
 f242 := Tryz.func197.trans (congrArg some (by kernel_rfl))
 f260 := Tryz.func196.trans (congrArg some (by kernel_rfl))
 f262 := Tryz.func188.trans (congrArg some (by kernel_rfl))
 f270 := Tryz.func187.trans (congrArg some (by kernel_rfl))
 f274 := Tryz.func201.trans (congrArg some (by kernel_rfl))
 f275 := Tryz.func202.trans (congrArg some (by kernel_rfl))
 f276 := Tryz.func194.trans (congrArg some (by kernel_rfl))
 f277 := Tryz.func195.trans (congrArg some (by kernel_rfl))
 f278 := Tryz.func200.trans (congrArg some (by kernel_rfl))
 f313 := Tryz.func198.trans (congrArg some (by kernel_rfl))
 t0 := Tryz.underlying0
 a0 := Tryz.isAgg0
 z0 := Tryz.sizeOf0
 v0 := Tryz.zeroValue0
 t3 := Tryz.underlying3
 a3 := Tryz.isAgg3
 z3 := Tryz.sizeOf3
 v3 := Tryz.zeroValue3
 t4 := Tryz.underlying4
 a4 := Tryz.isAgg4
 z4 := Tryz.sizeOf4
 v4 := Tryz.zeroValue4
 t5 := Tryz.underlying5
 a5 := Tryz.isAgg5
 z5 := Tryz.sizeOf5
 v5 := Tryz.zeroValue5
 t9 := Tryz.underlying9
 a9 := Tryz.isAgg9
 z9 := Tryz.sizeOf9
 v9 := Tryz.zeroValue9
 t20 := Tryz.underlying20
 a20 := Tryz.isAgg20
 z20 := Tryz.sizeOf20
 v20 := Tryz.zeroValue20
 t21 := Tryz.underlying21
 a21 := Tryz.isAgg21
 z21 := Tryz.sizeOf21
 v21 := Tryz.zeroValue21
 t37 := Tryz.underlying141
 a37 := Tryz.isAgg141
 z37 := Tryz.sizeOf141
 v37 := Tryz.zeroValue141
 t46 := Tryz.underlying89
 a46 := Tryz.isAgg89
 z46 := Tryz.sizeOf89
 v46 := Tryz.zeroValue89
 t51 := Tryz.underlying224
 a51 := Tryz.isAgg224
 z51 := Tryz.sizeOf224
 v51 := Tryz.zeroValue224
 t70 := Tryz.underlying178
 a70 := Tryz.isAgg178
 z70 := Tryz.sizeOf178
 v70 := Tryz.zeroValue178
 t72 := Tryz.underlying180
 a72 := Tryz.isAgg180
 z72 := Tryz.sizeOf180
 v72 := Tryz.zeroValue180
 t75 := Tryz.underlying147
 a75 := Tryz.isAgg147
 z75 := Tryz.sizeOf147
 v75 := Tryz.zeroValue147
 t76 := Tryz.underlying182
 a76 := Tryz.isAgg182
 z76 := Tryz.sizeOf182
 v76 := Tryz.zeroValue182
 t105 := Tryz.underlying208
 a105 := Tryz.isAgg208
 z105 := Tryz.sizeOf208
 v105 := Tryz.zeroValue208
 t107 := Tryz.underlying187
 a107 := Tryz.isAgg187
 z107 := Tryz.sizeOf187
 v107 := Tryz.zeroValue187
 t119 := Tryz.underlying220
 a119 := Tryz.isAgg220
 z119 := Tryz.sizeOf220
 t127 := Tryz.underlying207
 a127 := Tryz.isAgg207
 z127 := Tryz.sizeOf207
 v127 := Tryz.zeroValue207
 t138 := Tryz.underlying222
 a138 := Tryz.isAgg222
 z138 := Tryz.sizeOf222
 v138 := Tryz.zeroValue222
 t139 := Tryz.underlying223
 a139 := Tryz.isAgg223
 z139 := Tryz.sizeOf223
 v139 := Tryz.zeroValue223
 t160 := Tryz.underlying225
 a160 := Tryz.isAgg225
 z160 := Tryz.sizeOf225
 v160 := Tryz.zeroValue225
 t162 := Tryz.underlying219
 a162 := Tryz.isAgg219
 z162 := Tryz.sizeOf219
 v162 := Tryz.zeroValue219
 t164 := Tryz.underlying165
 a164 := Tryz.isAgg165
 z164 := Tryz.sizeOf165
 v164 := Tryz.zeroValue165
 t203 := Tryz.underlying217
 a203 := Tryz.isAgg217
 z203 := Tryz.sizeOf217
 v203 := Tryz.zeroValue217
 t206 := Tryz.underlying229
 a206 := Tryz.isAgg229
 z206 := Tryz.sizeOf229
 v206 := Tryz.zeroValue229
 t208 := Tryz.underlying231
 a208 := Tryz.isAgg231
 z208 := Tryz.sizeOf231
 v208 := Tryz.zeroValue231
 g3 := by kernel_rfl
 g4 := by kernel_rfl
 g13 := by kernel_rfl }
theorem Tryz.Builder_Extra_159 : Builder.Extra Tryz.prog Tryz.lays159_ren := {
 sizeBuilder := by kernel_rfl
 liesBuilder := by kernel_rfl
 t5 := Tryz.underlying5
 a5 := Tryz.isAgg5
 z5 := Tryz.sizeOf5
 v5 := Tryz.zeroValue5
 infoByte := by kernel_rfl
 cellsByte := by kernel_rfl
 sizeByte := by kernel_rfl
 neB5 := by decide }
open Go.RowKit in
theorem Tryz.strings_ToLower_ascii (s : ByteArray) (w : World) (hs : s.size ≤ 140737488355328) (hascii : ∀ (j : Nat) (b : UInt8), s.data.toList[j]? = some b → b.toNat < 128) :
  Calls Tryz.prog 143 #[.string s] w fun e w' => e = .returned (.string ⟨(Lib.toLowerA s.data.toList).toArray⟩) ∧ Below w.heap.size w w' := Any.strings_ToLower_ascii Tryz.lays159 Tryz.Builder_Extra_159 s w hs hascii
def Tryz.lays151_ren : Go.Shelf.Ren := ⟨fun | 151 => 128 | 152 => 152 | 137 => 173 | 119 => 174 | 224 => 175 | 225 => 176 | 217 => 191 | 266 => 199 | n => n, fun | 9 => 9 | 21 => 21 | 4 => 4 | 3 => 3 | 5 => 5 | 0 => 0 | 46 => 89 | n => n, fun | n => n⟩
theorem Tryz.lays151 : Go.Proofs.Lays.n151 Tryz.prog Tryz.lays151_ren := {
 mixed := by kernel_rfl
 f119 := Tryz.func174.trans (congrArg some (by kernel_rfl))
 f137 := Tryz.func173.trans (congrArg some (by kernel_rfl))
 f151 := Tryz.func128.trans (congrArg some (by kernel_rfl))
 f152 := Tryz.func152.trans (congrArg some (by kernel_rfl))
 f217 := Tryz.func191.trans (congrArg some (by kernel_rfl))
 f224 := Tryz.func175.trans (congrArg some (by kernel_rfl))
 f225 := Tryz.func176.trans (congrArg some (by kernel_rfl))
 f266 := Tryz.func199.trans (congrArg some (by kernel_rfl))
 t0 := Tryz.underlying0
 a0 := Tryz.isAgg0
 z0 := Tryz.sizeOf0
 v0 := Tryz.zeroValue0
 t3 := Tryz.underlying3
 a3 := Tryz.isAgg3
 z3 := Tryz.sizeOf3
 v3 := Tryz.zeroValue3
 t4 := Tryz.underlying4
 a4 := Tryz.isAgg4
 z4 := Tryz.sizeOf4
 v4 := Tryz.zeroValue4
 t5 := Tryz.underlying5
 a5 := Tryz.isAgg5
 z5 := Tryz.sizeOf5
 v5 := Tryz.zeroValue5
 t9 := Tryz.underlying9
 a9 := Tryz.isAgg9
 z9 := Tryz.sizeOf9
 v9 := Tryz.zeroValue9
 t21 := Tryz.underlying21
 a21 := Tryz.isAgg21
 z21 := Tryz.sizeOf21
 v21 := Tryz.zeroValue21
 t46 := Tryz.underlying89
 a46 := Tryz.isAgg89
 z46 := Tryz.sizeOf89
 v46 := Tryz.zeroValue89 }
open Go.RowKit Go.Lib in
theorem Tryz.strings_ContainsRune_ascii (s : ByteArray) (r : Int) (w : World) (h0 : 0 ≤ r) (h1 : r < 128) :
  Calls Tryz.prog 128 #[.string s, .int .i32 r] w fun e w' => e = .returned (.bool (decide (0 ≤ Lib.indexByte s.data.toList r.toNat.toUInt8))) ∧ w' = w := Any.strings_ContainsRune_ascii Tryz.lays151 s r w h0 h1
end Go.Proofs

namespace Go.Abs
open Go Go.Proofs Go.Proofs.YteehcinnfiaklaaGreatDoor
theorem zGB {P : Program} {w : World} {a b c : String × DataW Unit} (h : laidMet P [a, c, b] w) : laidMet P [a, b, c] w := by
 obtain ⟨ps, hv, hn, hr⟩ := h
 obtain ⟨n1, d1⟩ := a
 obtain ⟨n2, d2⟩ := b
 obtain ⟨n3, d3⟩ := c
 obtain ⟨g1, t1, c1, f1, p1, q1, a1, b1, v1, r1, ⟨g3, t3, c3, f3, p3, q3, a3, b3, v3, r3, ⟨g2, t2, c2, f2, p2, q2, a2, b2, v2, r2, e2, rfl⟩, rfl⟩, rfl⟩ := hv
 cases (show q2 = [] from e2)
 have hp : ((MemPlace.row ⟨g1, 0, none⟩ c1.size ++ p1) ++ ((MemPlace.row ⟨g3, 0, none⟩ c3.size ++ p3) ++ ((MemPlace.row ⟨g2, 0, none⟩ c2.size ++ p2) ++ []))).Perm ((MemPlace.row ⟨g1, 0, none⟩ c1.size ++ p1) ++ ((MemPlace.row ⟨g2, 0, none⟩ c2.size ++ p2) ++ ((MemPlace.row ⟨g3, 0, none⟩ c3.size ++ p3) ++ []))) := by
  simp only [List.append_nil]
  exact List.Perm.append_left _ List.perm_append_comm
 exact ⟨_, ⟨g1, t1, c1, f1, p1, _, a1, b1, v1, r1, ⟨g2, t2, c2, f2, p2, _, a2, b2, v2, r2, ⟨g3, t3, c3, f3, p3, [], a3, b3, v3, r3, rfl, rfl⟩, rfl⟩, rfl⟩, hp.nodup_iff.1 hn, fun b off hm => hr b off (hp.mem_iff.2 hm)⟩
noncomputable def zGC (os : Os) : World :=
 let N := (World.settled Tryz.prog os).heap.size
 let w0 := World.holding Tryz.prog os ⟨#[.cells Lib.caseCells5 (Tryz.lays159_ren.t 208)], #[], []⟩
 let put (h : Array Obj) (g : Nat) (cs : Array Value) : Array Obj := h.modify g fun
  | .cells _ t frozen => .cells cs t frozen
  | o => o
 let h1 := put w0.heap 3 (Lib.firstTab.map fun z => Value.int .u8 z).toArray
 let h2 := put h1 4 ((List.range 16).flatMap fun i => [Value.int .u8 (Lib.accLo i), Value.int .u8 (Lib.accHi i)]).toArray
 let h3 := put h2 2 #[.slice (some ⟨N, 0, none⟩) 336 336]
 { w0 with heap := h3 }
theorem zDw : (Rows.laid_unicode_utf8_acceptRanges : DataW Unit) = Lib.acceptData := by kernel_rfl
theorem zEI : Rows.laid_unicode_CaseRanges = Lib.caseData := by kernel_rfl
theorem zEw : Rows.laid_unicode_utf8_first = Lib.firstData := by kernel_rfl
theorem zKv (os : Os) (args : Array Value) : laidMet Tryz.prog [("unicode/utf8.acceptRanges", Rows.laid_unicode_utf8_acceptRanges), ("unicode.CaseRanges", Rows.laid_unicode_CaseRanges), ("unicode/utf8.first", Rows.laid_unicode_utf8_first)] ((zGC os).forCall (fun _ _ => 0) ⟨#[], args, []⟩).memory := by
 rw [zDw, zEI, zEw]
 refine zGB ?_
 exact laidMet_with_case (ρ := Tryz.lays159_ren) { Tryz.lays159 with } Tryz.lays159.t206 ⟨by kernel_rfl, by kernel_rfl, by kernel_rfl, by kernel_rfl, by kernel_rfl, by kernel_rfl⟩
  (l := [("unicode/utf8.acceptRanges", Lib.acceptData), ("unicode/utf8.first", Lib.firstData)])
  10 (by kernel_rfl) (by kernel_rfl) (by kernel_rfl) ((World.settled Tryz.prog default).heap.size) (Tryz.lays159_ren.t 208) (of_decide_eq_true (by kernel_rfl)) (by kernel_rfl) (by kernel_rfl) (by kernel_rfl)
theorem zLm : laidOutB Tryz.pinned.checked.prog = true := by kernel_rfl
theorem zLo : mapsRowed Tryz.pinned.checked.prog = true := by kernel_rfl
theorem zLp : (Tryz.pinned.checked.prog.stops == []) = true := by kernel_rfl
theorem zLl : (Tryz.pinned.checked.prog.stopKnobs == []) = true := by kernel_rfl
theorem zLk : Tryz.pinned.checked.prog.stopsHeard = true := by kernel_rfl
theorem zLj : Tryz.pinned.checked.prog.mayEnter = true := by kernel_rfl
theorem zLn : true = Tryz.pinned.checked.prog.looks [] := by kernel_rfl
end Go.Abs

namespace Go.Abs
open Go Go.Proofs Tryz
attribute [local irreducible] q9 Hold y8
attribute [go_sem] u5 Nat.le_refl Nat.sub_zero Int.reduceGT Nat.reduceGT Int.reduceGE
@[go_sem ↓] theorem zKr (a b : Int) (K : Cont) : zNG .xor .u64 a b K = K (uV (Q3 a b)) [] [] := rfl
@[go_sem ↓] theorem zMH (a b : Int) (K : Cont) : T4 .shl .u64 a b K = (0 ≤ b ∧ K (uV (H8 a b.toNat)) [] []) := rfl
@[go_sem ↓] theorem zMI (a b : Int) (K : Cont) : T4 .shr .u64 a b K = (0 ≤ b ∧ K (uV (e7 a b.toNat)) [] []) := rfl
@[go_sem] theorem zKD (s : Int) : Q3 s (H8 s 13) = zNo s := rfl
@[go_sem] theorem zKE (s : Int) : Q3 s (e7 s 7) = zNp s := rfl
@[go_sem] theorem zKF (s : Int) : Q3 s (H8 s 17) = zNq s := rfl
@[go_sem] theorem zKG (s : Int) : zNq (zNp (zNo s)) = I8 s := rfl
@[go_sem] theorem zKH (n : Int) : IntKind.u64.wrap (Q3 n (e7 n 30) * 10723151780598845931) = zNY n := rfl
theorem zIM (d : Dice) (h : d.list.length ≤ 4294967296) : zMf prog 77 [.ptr 0 0] [u5 d] (uV (zM7 d)) [u5 (zM5 d)] := by
 have e2 : (zM5 d).list = d.list := rfl
 have e4 : (zM5 d).seed = zNB d := rfl
 have e6 : zM7 d = Q3 (zNY (zNB d)) (e7 (zNY (zNB d)) 31) := rfl
 by_cases q : d.at_ < d.list.length
 ·have q2 : ((d.at_ : Int) < (d.list.length : Int)) := by omega
  have e1 : zNB d = IntKind.u64.wrap (I8 d.seed + IntKind.u64.wrap (IntKind.u64.wrap (d.list.getD d.at_ default) * 13787848793156543929)) := by unfold zNB; rw [if_pos q]
  have e3 : (zM5 d).at_ = d.at_ + 1 := by unfold zM5; simp only; rw [if_pos q]
  have e5 : IntKind.i64.wrap ((d.at_ : Int) + 1) = ((d.at_ + 1 : Nat) : Int) := r9 (by omega)
  generalize zM5 d = d' at *
  refine q7 func77 rfl (fun E hE => ?_); simp only [go_sem, ntmps77]
  repeat' (first | (refine Qr rfl ?_; try intro _ hK; try simp only [go_sem, *]) | refine Qh rfl ?_ | refine Qd rfl (by kernel_rfl) ?_ | (refine Qc rfl rfl ?_ ?_ <;> (intro hb; have hc := hb; try simp only [go_sem] at hc)) | refine q6 rfl ?_ | (refine Qb ?_ ?_; focus kernel_rfl) | ((with_reducible apply And.intro); focus omega) | (refine z8 hK ?_; clear hK; simp only [go_sem, *]) | simp only [z7, z6, go_sem, *])
  all_goals first | contradiction | omega | skip
  refine ⟨[_], [some 0], [], ⟨rfl, trivial⟩, ?_⟩
  simp only [go_sem, *]
 ·have q2 : ¬ ((d.at_ : Int) < (d.list.length : Int)) := by omega
  have e1 : zNB d = I8 d.seed := by unfold zNB; rw [if_neg q]
  have e3 : (zM5 d).at_ = d.at_ := by unfold zM5; simp only; rw [if_neg q]
  generalize zM5 d = d' at *
  refine q7 func77 rfl (fun E hE => ?_); simp only [go_sem, ntmps77]
  repeat' (first | (refine Qr rfl ?_; try intro _ hK; try simp only [go_sem, *]) | refine Qh rfl ?_ | refine Qd rfl (by kernel_rfl) ?_ | (refine Qc rfl rfl ?_ ?_ <;> (intro hb; have hc := hb; try simp only [go_sem] at hc)) | refine q6 rfl ?_ | (refine Qb ?_ ?_; focus kernel_rfl) | ((with_reducible apply And.intro); focus omega) | (refine z8 hK ?_; clear hK; simp only [go_sem, *]) | simp only [z7, z6, go_sem, *])
  all_goals first | contradiction | omega | skip
  refine ⟨[_], [some 0], [], ⟨rfl, trivial⟩, ?_⟩
  simp only [go_sem, *]
theorem W8 (d : Dice) (n : Int) (h : d.list.length ≤ 4294967296) (hn : n ≤ 4294967296) : zMf prog 26 [.ptr 0 0, iV n] [u5 d] (iV (toN n d)) [u5 (toD n d)] := by
 by_cases q : n < 1
 ·have e1 : toN n d = 0 := by unfold toN; rw [if_pos q]
  have e2 : toD n d = d := by unfold toD; rw [if_pos q]
  refine q7 func26 rfl (fun E hE => ?_); simp only [go_sem, ntmps26]
  repeat' (first | (refine Qr rfl ?_; try intro _ hK; try simp only [go_sem, *]) | refine Qh rfl ?_ | (refine Qc rfl rfl ?_ ?_ <;> (intro hb; have hc := hb; try simp only [go_sem] at hc)) | refine q6 rfl ?_ | ((with_reducible apply And.intro); focus omega) | (refine z8 hK ?_; clear hK; simp only [go_sem, *]) | simp only [z7, z6, go_sem, *])
  all_goals first | contradiction | omega | skip
  refine ⟨[_], [some 0], [], ⟨rfl, trivial⟩, ?_⟩
  simp only [go_sem, *]
 ·have e1 : toN n d = (e7 (zM7 d) 16).tmod (n + 1) := by unfold toN; rw [if_neg q]
  have e2 : toD n d = zM5 d := by unfold toD; rw [if_neg q]
  have hr := zDb n d
  rw [e1] at hr
  have e3 : IntKind.i64.wrap (n + 1) = n + 1 := wrap_i64 (by omega) (by omega)
  have e4 : IntKind.u64.wrap (n + 1) = n + 1 := by rw [IntKind.wrap_u64]; omega
  have e5 : IntKind.i64.wrap ((e7 (zM7 d) 16).tmod (n + 1)) = (e7 (zM7 d) 16).tmod (n + 1) := wrap_i64 (by omega) (by omega)
  have e6 : ¬ n + 1 = 0 := by omega
  have sr := zIM d h
  generalize zM7 d = r at *
  generalize zM5 d = d' at *
  clear hr
  refine q7 func26 rfl (fun E hE => ?_); simp only [go_sem, ntmps26]
  repeat' (first | (refine Qr rfl ?_; try intro _ hK; try simp only [go_sem, *]) | refine Qh rfl ?_ | (refine Qc rfl rfl ?_ ?_ <;> (intro hb; have hc := hb; try simp only [go_sem] at hc)) | refine q6 rfl ?_ | (refine v6 [0] (sr) ?_; simp only [go_sem, *]) | ((with_reducible apply And.intro); focus omega) | (refine z8 hK ?_; clear hK; simp only [go_sem, *]) | simp only [z7, z6, go_sem, *])
  all_goals first | contradiction | omega | skip
  refine ⟨[_], [some 0], [], ⟨rfl, trivial⟩, ?_⟩
  simp only [go_sem, *]
theorem zHl (d : Dice) (lo hi : Int) (h : d.list.length ≤ 4294967296) (hl : 0 ≤ lo ∧ lo ≤ hi) (hh : hi ≤ 4294967296) : zMf prog 27 [.ptr 0 0, iV lo, iV hi] [u5 d] (iV (a6 lo hi d)) [u5 (X7 lo hi d)] := by
 have st := W8 d (hi - lo) h (by omega)
 have hf := zAE hl.2 d
 have e1 : IntKind.i64.wrap (hi - lo) = hi - lo := wrap_i64 (by omega) (by omega)
 have e2 : IntKind.i64.wrap (lo + toN (hi - lo) d) = a6 lo hi d := by
  have : lo + toN (hi - lo) d = a6 lo hi d := rfl
  rw [this]; exact wrap_i64 (by omega) (by omega)
 have e3 : X7 lo hi d = toD (hi - lo) d := rfl
 rw [e3]
 generalize a6 lo hi d = r at *
 clear e3 hf hl
 refine q7 func27 rfl (fun E hE => ?_); simp only [go_sem, ntmps27]
 repeat' (first | (refine Qr rfl ?_; try intro _ hK; try simp only [go_sem, *]) | refine Qh rfl ?_ | (refine Qc rfl rfl ?_ ?_ <;> (intro hb; have hc := hb; try simp only [go_sem] at hc)) | refine q6 rfl ?_ | (refine v6 [0] (st) ?_; simp only [go_sem, *]) | ((with_reducible apply And.intro); focus omega) | (refine z8 hK ?_; clear hK; simp only [go_sem, *]) | simp only [z7, z6, go_sem, *])
 refine ⟨[_], [some 0], [], ⟨rfl, trivial⟩, ?_⟩
 simp only [go_sem, *]
theorem zAu (d : Dice) (k : Int) (h : d.list.length ≤ 4294967296) (hk : 0 ≤ k ∧ k ≤ 4294967296) : zMf prog 34 [.ptr 0 0, iV k] [u5 d] (bV (Y3 k d)) [u5 (v8 k d)] := by
 have st := W8 d (k - 1) h (by omega)
 have e1 : IntKind.i64.wrap (k - 1) = k - 1 := wrap_i64 (by omega) (by omega)
 have e2 : Y3 k d = (toN (k - 1) d == 0) := rfl
 have e3 : v8 k d = toD (k - 1) d := rfl
 rw [e3, e2]
 clear e2 e3 hk
 refine q7 func34 rfl (fun E hE => ?_); simp only [go_sem, ntmps34]
 repeat' (first | (refine Qr rfl ?_; try intro _ hK; try simp only [go_sem, *]) | refine Qh rfl ?_ | (refine Qc rfl rfl ?_ ?_ <;> (intro hb; have hc := hb; try simp only [go_sem] at hc)) | refine q6 rfl ?_ | (refine v6 [0] (st) ?_; simp only [go_sem, *]) | ((with_reducible apply And.intro); focus omega) | (refine z8 hK ?_; clear hK; simp only [go_sem, *]) | simp only [z7, z6, go_sem, *])
 refine ⟨[_], [some 0], [], ⟨rfl, trivial⟩, ?_⟩
 simp only [go_sem, *]
@[reducible] def R0 (l : List Int) : AV := .list (l.map iV)
def zCj (l : List Int) : Dice := ⟨l, 0, 11400714819323198485⟩
theorem zHp (l : List Int) : zMf prog 23 [R0 l] [] (.ptr 0 0) [u5 (zCj l)] := by
 refine q7 func23 rfl (fun E hE => ?_); simp only [go_sem, ntmps23]
 repeat' (first | (refine Qr rfl ?_; try intro _ hK; try simp only [go_sem, *]) | refine Qh rfl ?_ | (refine Qc rfl rfl ?_ ?_ <;> (intro hb; have hc := hb; try simp only [go_sem] at hc)) | refine q6 rfl ?_ | ((with_reducible apply And.intro); focus omega) | (refine z8 hK ?_; clear hK; simp only [go_sem, *]) | simp only [z7, z6, go_sem, *])
 refine ⟨[_], [some 0], [], ⟨rfl, trivial⟩, ?_⟩
 simp only [go_sem, zCj, *]
 try rfl
end Go.Abs

namespace Go.Abs
open Go
end Go.Abs

namespace Go.Abs
open Go
def J6 (x : Str) : Prop := x.head? ≠ some 104
theorem zHb : (otherL.all fun a => otherL.all fun b => decide (a = b) || (!((y5 a).head? == (y5 b).head?) || ((a == 83 && b == 88) || (a == 88 && b == 83) || (a == 74 && b == 89) || (a == 89 && b == 74)))) = true := by decide
theorem zHa : (otherL.all fun a => !((y5 a).head? == some 104)) = true := by decide
theorem Q8 (a : UInt8) (r : Str) : zMg (a :: r) = y5 a ++ zMg r := rfl
theorem C3 (a : UInt8) : y5 a ≠ [] := fun h => by have := (P4 a).1; rw [h] at this; simp at this
theorem zCK : ∀ {x : Str}, x.all w7 = true → J6 (zMg x)
 | [], _ => by simp [J6, zMg]
 | a :: r, h => by
  rw [List.all_cons, Bool.and_eq_true] at h
  have := List.all_eq_true.1 zHa a (mem_otherL.2 h.1)
  unfold J6
  rw [Q8, List.head?_append]
  cases e : (y5 a).head? with
  | none => exact absurd (List.head?_eq_none_iff.1 e) (C3 a)
  | some b => rw [e] at this; simpa using this
theorem zHc {a b : UInt8} (ha : w7 a = true) (hb : w7 b = true) {x y : Str} (hx : J6 x) (hy : J6 y) (h : y5 a ++ x = y5 b ++ y) : a = b ∧ x = y := by
 have key := List.all_eq_true.1 (List.all_eq_true.1 zHb a (mem_otherL.2 ha)) b (mem_otherL.2 hb)
 rw [Bool.or_eq_true, decide_eq_true_eq] at key
 rcases key with rfl | key
 ·exact ⟨rfl, List.append_cancel_left h⟩
 ·exfalso
  have hh := congrArg List.head? h
  rw [List.head?_append, List.head?_append] at hh
  have e1 : ∃ p, (y5 a).head? = some p := by
   cases e : (y5 a).head? with
   | none => exact absurd (List.head?_eq_none_iff.1 e) (C3 a)
   | some p => exact ⟨p, rfl⟩
  have e2 : ∃ p, (y5 b).head? = some p := by
   cases e : (y5 b).head? with
   | none => exact absurd (List.head?_eq_none_iff.1 e) (C3 b)
   | some p => exact ⟨p, rfl⟩
  obtain ⟨p, hp⟩ := e1
  obtain ⟨q, hq⟩ := e2
  rw [hp, hq] at hh
  rw [Bool.or_eq_true] at key
  rcases key with key | key
  ·rw [hp, hq] at key
   simp at hh key
   exact key hh
  ·simp only [Bool.or_eq_true, Bool.and_eq_true, beq_iff_eq] at key
   rcases key with ((⟨rfl, rfl⟩ | ⟨rfl, rfl⟩) | ⟨rfl, rfl⟩) | ⟨rfl, rfl⟩
   ·have e : y5 83 = [115] := by decide
    have e' : y5 88 = [115, 104] := by decide
    rw [e, e'] at h
    simp at h
    exact hx (by rw [h]; rfl)
   ·have e : y5 83 = [115] := by decide
    have e' : y5 88 = [115, 104] := by decide
    rw [e, e'] at h
    simp at h
    exact hy (by rw [← h]; rfl)
   ·have e : y5 74 = [106, 117] := by decide
    have e' : y5 89 = [106, 97] := by decide
    rw [e, e'] at h
    simp at h
   ·have e : y5 74 = [106, 117] := by decide
    have e' : y5 89 = [106, 97] := by decide
    rw [e, e'] at h
    simp at h
theorem E2 : ∀ {x y : Str}, x.all w7 = true → y.all w7 = true → zMg x = zMg y → x = y
 | [], [], _, _, _ => rfl
 | [], b :: y, _, _, h => by
  rw [Q8] at h
  have := congrArg List.length h
  have hb := (P4 b).1
  have e0 : (zMg []).length = 0 := rfl
  rw [List.length_append] at this
  omega
 | a :: x, [], _, _, h => by
  rw [Q8] at h
  have := congrArg List.length h
  have hb := (P4 a).1
  have e0 : (zMg []).length = 0 := rfl
  rw [List.length_append] at this
  omega
 | a :: x, b :: y, hx, hy, h => by
  rw [List.all_cons, Bool.and_eq_true] at hx hy
  rw [Q8, Q8] at h
  obtain ⟨rfl, h2⟩ := zHc hx.1 hy.1 (zCK hx.2) (zCK hy.2) h
  rw [E2 hx.2 hy.2 h2]
theorem F6 : ∀ (n : Nat) (k o : Str), p6 n k = some o → o.all w7 = true ∧ zMg o = k
 | _, [], o, h => by
  rw [p6] at h
  cases h; exact ⟨rfl, rfl⟩
 | 0, _ :: _, o, h => by cases h
 | n + 1, a :: r, o, h => by
  rw [p6] at h
  obtain ⟨pre, c, post, hL, h1, _⟩ := J3 h
  have hc : c ∈ otherL := by rw [hL]; simp
  split at h1
  ·rename_i hp
   cases e : p6 n ((a :: r).drop (y5 c).length) with
   | none => rw [e] at h1; cases h1
   | some o' =>
    rw [e] at h1
    cases h1
    obtain ⟨g1, g2⟩ := F6 n _ o' e
    refine ⟨by rw [List.all_cons, mem_otherL.1 hc, g1]; rfl, ?_⟩
    rw [Q8, g2]
    obtain ⟨t, ht⟩ := List.isPrefixOf_iff_prefix.1 hp
    rw [← ht]; simp
  ·cases h1
theorem zBt : ∀ (n : Nat) (s : Str), s.all w7 = true → (zMg s).length ≤ n → p6 n (zMg s) = some s
 | n, [], _, _ => by
  show p6 n [] = _
  rw [p6]
 | n, a :: r, hs, hl => by
  have hs' := hs
  rw [List.all_cons, Bool.and_eq_true] at hs'
  have hal := (P4 a).1
  rw [Q8, List.length_append] at hl
  obtain ⟨n, rfl⟩ : ∃ m, n = m + 1 := ⟨n - 1, by omega⟩
  cases hf : p6 (n + 1) (zMg (a :: r)) with
  | some o =>
   obtain ⟨g1, g2⟩ := F6 _ _ _ hf
   rw [E2 g1 hs g2]
  | none =>
   exfalso
   cases hk : zMg (a :: r) with
   | nil =>
    rw [Q8] at hk
    exact C3 a (List.append_eq_nil_iff.1 hk).1
   | cons p q =>
    rw [hk, p6] at hf
    have h1 := J2 hf a (mem_otherL.2 hs'.1)
    have hp : (y5 a).isPrefixOf (p :: q) = true := by
     rw [← hk, Q8]; exact List.isPrefixOf_iff_prefix.2 ⟨_, rfl⟩
    rw [if_pos hp] at h1
    have hd : (p :: q).drop (y5 a).length = zMg r := by rw [← hk, Q8]; simp
    rw [hd, zBt n r hs'.2 (by omega)] at h1
    cases h1
theorem zBu {s : Str} (h : s.all w7 = true) : N4 (zMg s) = some s := zBt _ s h (Nat.le_refl _)
theorem zFT {k o : Str} (h : N4 k = some o) : o.all w7 = true ∧ zMg o = k := F6 _ _ _ h
end Go.Abs

namespace Go.Abs
open Go
theorem zJ2 {a b : Str} (va : ValidN a) (vb : ValidN b) : x6 a b = 0 ↔ a = b := by
 constructor
 ·intro h
  unfold x6 orI at h
  by_cases hk : zMj (zMg a) (zMg b) = 0
  ·rw [if_pos hk, va.script, vb.script] at h
   have hk := cmpS_zero.1 hk
   have fa := va.form
   have fb := vb.form
   unfold o4 at fa fb
   rw [Bool.or_eq_true] at fa fb
   have hm : ∀ {s : Str}, ValidN s → s.getD 0 0 ∈ s := fun {s} v => by
    cases s with
    | nil => have := v.ne; simp at this
    | cons c r => simp
   have ol : ∀ c : UInt8, w7 c = true → y7 c = false := fun c hc => by
    unfold w7 at hc
    unfold y7
    rw [Bool.and_eq_true, Bool.and_eq_true, decide_eq_true_eq, decide_eq_true_eq] at hc
    simp; omega
   rcases fa with fa | fa
   ·rcases fb with fb | fb
    ·rwa [R4 fa, R4 fb] at hk
    ·have h1 := List.all_eq_true.1 fa _ (hm va)
     have h2 := ol _ (List.all_eq_true.1 fb _ (hm vb))
     rw [h1, h2] at h
     simp [zMl] at h
   ·rcases fb with fb | fb
    ·have h1 := ol _ (List.all_eq_true.1 fa _ (hm va))
     have h2 := List.all_eq_true.1 fb _ (hm vb)
     rw [h1, h2] at h
     simp [zMl] at h
    ·exact E2 fa fb hk
  ·rw [if_neg hk] at h; exact absurd h hk
 ·rintro rfl
  have := F4 a a
  omega
theorem zBO (p : Nat → Bool) : ∀ n : Nat, ∃ set, set < 2 ^ n ∧ ∀ i, i < n → set.testBit i = p i
 | 0 => ⟨0, by simp, fun i h => by omega⟩
 | n + 1 => by
  obtain ⟨s, h1, h2⟩ := zBO p n
  cases hp : p n with
  | false =>
   refine ⟨s, by rw [Nat.pow_succ]; omega, fun i hi => ?_⟩
   by_cases e : i = n
   ·subst e; rw [hp]; exact Nat.testBit_lt_two_pow h1
   ·exact h2 i (by omega)
  | true =>
   refine ⟨2 ^ n + s, by rw [Nat.pow_succ]; omega, fun i hi => ?_⟩
   by_cases e : i = n
   ·subst e; rw [hp, Nat.testBit_two_pow_add_eq, Nat.testBit_lt_two_pow h1]; rfl
   ·rw [Nat.testBit_two_pow_add_gt (by omega)]; exact h2 i (by omega)
def Asc (n : Nat) (c : List Nat) : Prop := c.Pairwise (· < ·) ∧ ∀ i, i ∈ c → i < n
def P5 (l : List Str) (c : List Nat) : List Str := ((List.range l.length).filter fun i => !decide (i ∈ c)).map fun i => l.getD i []
theorem zBK {n : Nat} {c d : List Nat} (hc : Asc n c) (hd : Asc n d) (h : ∀ i, i ∈ c ↔ i ∈ d) : c = d :=
 List.Perm.eq_of_pairwise (le := (· < ·)) (fun a b _ _ h1 h2 => by omega) hc.1 hd.1 ((List.perm_ext_iff_of_nodup (hc.1.imp (fun h => Nat.ne_of_lt h)) (hd.1.imp (fun h => Nat.ne_of_lt h))).2 h)
theorem zCm (n set : Nat) : Asc n (i5 n set) := ⟨(List.pairwise_lt_range).filter _, fun i hi => by simpa using (List.mem_filter.1 hi).1⟩
theorem mem_rightSets {l : List Str} {c : List Nat} : c ∈ j5 l ↔ Asc l.length c ∧ l3 (P5 l c) = true := by
 unfold j5
 rw [List.mem_filterMap]
 have hrest : ∀ set, L3 l set = P5 l (i5 l.length set) := fun set => by
  unfold L3 P5 i5
  congr 1
  refine List.filter_congr (fun i hi => ?_)
  have hi' : i < l.length := by simpa using hi
  simp [hi']
 constructor
 ·rintro ⟨set, _, h⟩
  split at h
  ·rename_i ho
   cases h
   exact ⟨zCm _ _, by rw [← hrest]; exact ho⟩
  ·cases h
 ·rintro ⟨h1, h2⟩
  obtain ⟨set, hs, hb⟩ := zBO (fun i => decide (i ∈ c)) l.length
  have e : i5 l.length set = c := zBK (zCm _ _) h1 (fun i => by
   unfold i5
   rw [List.mem_filter]
   constructor
   ·rintro ⟨h3, h4⟩
    rw [hb i (by simpa using h3)] at h4
    simpa using h4
   ·intro h3
    exact ⟨by simpa using h1.2 i h3, by rw [hb i (h1.2 i h3)]; simpa using h3⟩)
  refine ⟨set, by simpa using hs, ?_⟩
  rw [hrest, e, if_pos h2]
theorem K9 : ∀ x y : List Nat, x9 y x = -x9 x y
 | [], [] => rfl
 | [], _ :: _ => rfl
 | _ :: _, [] => rfl
 | a :: x, b :: y => by
  rw [x9, x9, zBX a b]
  by_cases h : zMl a b = 0
  ·rw [if_pos h, if_pos (by omega), K9 x y]
  ·rw [if_neg h, if_neg (by omega)]
theorem cmpN_zero {a b : Int} : zMl a b = 0 ↔ a = b := by
 unfold zMl
 repeat' split
 all_goals omega
theorem zBY : ∀ {x y : List Nat}, x9 x y = 0 → x = y
 | [], [], _ => rfl
 | [], _ :: _, h => by cases h
 | _ :: _, [], h => by cases h
 | a :: x, b :: y, h => by
  rw [x9] at h
  split at h
  ·rename_i e
   have := cmpN_zero.1 e
   rw [show a = b by omega, zBY h]
  ·rename_i e; exact absurd h e
theorem zBw : ∀ {x y z : List Nat}, ¬ x9 x y < 0 → ¬ x9 y z < 0 → ¬ x9 x z < 0
 | [], [], _, _, h => h
 | [], _ :: _, _, h, _ => absurd (by rw [x9]; decide) h
 | _ :: _, [], [], _, _ => by rw [x9]; decide
 | _ :: _, [], _ :: _, _, h => absurd (by rw [x9]; decide) h
 | _ :: _, _ :: _, [], _, _ => by rw [x9]; decide
 | a :: x, b :: y, c :: z, h1, h2 => by
  rw [x9] at *
  have rc := fun p q => zBw (x := x) (y := y) (z := z) p q
  by_cases e1 : zMl a b = 0
  ·rw [if_pos e1] at h1
   rw [cmpN_zero.1 e1]
   by_cases e2 : zMl b c = 0
   ·rw [if_pos e2] at h2 ⊢
    exact rc h1 h2
   ·rw [if_neg e2] at h2 ⊢
    exact h2
  ·rw [if_neg e1] at h1
   by_cases e2 : zMl b c = 0
   ·rw [if_pos e2] at h2
    rw [← cmpN_zero.1 e2, if_neg e1]; exact h1
   ·rw [if_neg e2] at h2
    have : ¬ zMl a c = 0 ∧ ¬ zMl a c < 0 := by
     unfold zMl at *
     repeat' split at h1
     all_goals repeat' split at h2
     all_goals repeat' split
     all_goals omega
    rw [if_neg this.1]; exact this.2
theorem shorter_neg {a b : List Nat} : w3 a b < 0 ↔ a.length < b.length ∨ (a.length = b.length ∧ x9 a b < 0) := by
 unfold w3 orI
 by_cases h : zMl a.length b.length = 0
 ·rw [if_pos h]
  have := cmpN_zero.1 h
  constructor
  ·intro k; exact .inr ⟨by omega, k⟩
  ·rintro (k | k)
   ·omega
   ·exact k.2
 ·rw [if_neg h]
  have hne : ¬ (a.length : Int) = b.length := fun e => h (cmpN_zero.2 e)
  constructor
  ·intro k
   unfold zMl at k
   repeat' split at k
   all_goals omega
  ·rintro (k | k)
   ·unfold zMl; rw [if_pos (by omega)]; decide
   ·omega
theorem zBy {x y z : List Nat} (h1 : ¬ w3 x y < 0) (h2 : ¬ w3 y z < 0) : ¬ w3 x z < 0 := by
 rw [shorter_neg, not_or, not_and] at *
 exact ⟨by omega, fun e => zBw (h1.2 (by omega)) (h2.2 (by omega))⟩
theorem zBL (x y : List Nat) (h : w3 x y < 0) : ¬ w3 y x < 0 := by
 rw [shorter_neg] at *
 rw [not_or, not_and]
 rcases h with h | h
 ·exact ⟨by omega, fun e => by omega⟩
 ·have := K9 x y
  exact ⟨by omega, fun _ => by omega⟩
theorem zGF {S : List Nat → Prop} {a b : List Nat} (ha : l8 w3 S a) (hb : l8 w3 S b) : a = b := by
 have h1 := ha.2 b hb.1
 have h2 := hb.2 a ha.1
 rw [shorter_neg, not_or, not_and] at h1 h2
 have h3 := h1.2 (by omega)
 have h4 := h2.2 (by omega)
 have := K9 a b
 exact zBY (by omega)
def S1 (l : List Str) (c : List Nat) : Prop := Asc l.length c ∧ l3 (P5 l c) = true
theorem zDk (l : List Str) : l8 w3 (S1 l) (Q2 l) := by
 have hne : j5 l ≠ [] := by
  have hall : S1 l (List.range l.length) := ⟨⟨List.pairwise_lt_range, fun i hi => by simpa using hi⟩, by
   have : P5 l (List.range l.length) = [] := by
    unfold P5
    rw [List.filter_eq_nil_iff.2 (fun i hi => by simpa using hi)]; rfl
   rw [this]; rfl⟩
  intro e
  have := mem_rightSets.2 hall
  rw [e] at this; cases this
 obtain ⟨b, h1, h2, h3⟩ := N3 (cmp := w3) (fun _ _ _ => zBy) zBL hne
 unfold Q2
 rw [h1]
 exact ⟨mem_rightSets.1 h2, fun x hx => h3 x (mem_rightSets.2 hx)⟩
def Y4 (n : Nat) : Nat → Nat → List (List Nat)
 | 0, _ => [[]]
 | m + 1, lo => (List.range' lo (n - lo)).flatMap fun i => (Y4 n m (i + 1)).map (i :: ·)
theorem mem_picksN {n : Nat} : ∀ {m lo : Nat} {c : List Nat}, c ∈ Y4 n m lo ↔ c.length = m ∧ c.Pairwise (· < ·) ∧ ∀ i, i ∈ c → lo ≤ i ∧ i < n
 | 0, lo, c => by
  rw [Y4, List.mem_singleton, List.length_eq_zero_iff]
  constructor
  ·rintro rfl; exact ⟨rfl, .nil, fun i h => nomatch h⟩
  ·rintro ⟨h, _⟩; exact h
 | m + 1, lo, c => by
  rw [Y4, List.mem_flatMap]
  constructor
  ·rintro ⟨i, hi, h⟩
   obtain ⟨d, hd, rfl⟩ := List.mem_map.1 h
   rw [List.mem_range'_1] at hi
   obtain ⟨h1, h2, h3⟩ := mem_picksN.1 hd
   refine ⟨by simp [h1], List.pairwise_cons.2 ⟨fun j hj => by have := h3 j hj; omega, h2⟩, fun j hj => ?_⟩
   rcases List.mem_cons.1 hj with rfl | hj
   ·omega
   ·have := h3 j hj; omega
  ·rintro ⟨h1, h2, h3⟩
   cases c with
   | nil => cases h1
   | cons i d =>
    obtain ⟨g1, g2⟩ := List.pairwise_cons.1 h2
    have hi := h3 i (by simp)
    refine ⟨i, by rw [List.mem_range'_1]; omega, List.mem_map.2 ⟨d, mem_picksN.2 ⟨by simpa using h1, g2, fun j hj => ?_⟩, rfl⟩⟩
    have := g1 j hj
    have := h3 j (by simp [hj])
    omega
theorem zGm {α β : Type} {R : β → β → Prop} {f : α → List β} {L : List α} {S : α → α → Prop} (h1 : ∀ a, a ∈ L → (f a).Pairwise R) (h2 : L.Pairwise S) (h3 : ∀ a b, S a b → ∀ x, x ∈ f a → ∀ y, y ∈ f b → R x y) : (L.flatMap f).Pairwise R := by
 induction L with
 | nil => exact .nil
 | cons a L ih =>
  obtain ⟨g1, g2⟩ := List.pairwise_cons.1 h2
  rw [List.flatMap_cons]
  refine List.pairwise_append.2 ⟨h1 a (by simp), ih (fun b hb => h1 b (by simp [hb])) g2, fun x hx y hy => ?_⟩
  obtain ⟨b, hb, hy⟩ := List.mem_flatMap.1 hy
  exact h3 a b (g1 b hb) x hx y hy
theorem zCq {n : Nat} : ∀ (m lo : Nat), (Y4 n m lo).Pairwise (fun a b => x9 a b < 0)
 | 0, _ => by rw [Y4]; exact List.pairwise_singleton _ _
 | m + 1, lo => by
  rw [Y4]
  refine zGm (S := (· < ·)) (fun i _ => ?_) (List.pairwise_lt_range') (fun i j hij x hx y hy => ?_)
  ·rw [List.pairwise_map]
   refine (zCq m (i + 1)).imp (fun {a b} h => ?_)
   rw [x9, if_pos (cmpN_zero.2 rfl)]; exact h
  ·obtain ⟨a, _, rfl⟩ := List.mem_map.1 hx
   obtain ⟨b, _, rfl⟩ := List.mem_map.1 hy
   have : zMl i j = -1 := by unfold zMl; rw [if_pos (by omega)]
   rw [x9, if_neg (by omega)]; omega
def B0 (l : List Str) (m : Nat) : Option (List Nat) := p5 (fun c => if l3 (P5 l c) = true then some c else none) (Y4 l.length m 0)
theorem zMe (l : List Str) : p5 (B0 l) (List.range (l.length + 1)) = some (Q2 l) := by
 obtain ⟨hw, hleast⟩ := zDk l
 have hlen : ∀ c, S1 l c → c.length ≤ l.length := fun c hc => by
  have hsub : c.Sublist (List.range l.length) := by
   have : c = (List.range l.length).filter (fun i => decide (i ∈ c)) := zBK hc.1 ⟨(List.pairwise_lt_range).filter _, fun i hi => by simpa using (List.mem_filter.1 hi).1⟩ (fun i => by
    rw [List.mem_filter]
    exact ⟨fun h => ⟨by simpa using hc.1.2 i h, by simpa using h⟩, fun h => by simpa using h.2⟩)
   rw [this]; exact List.filter_sublist
  have := hsub.length_le
  simpa using this
 have hM : ∀ m c, B0 l m = some c → S1 l c ∧ c.length = m ∧ ∀ d, S1 l d → d.length = m → ¬ x9 d c < 0 := fun m c h => by
  obtain ⟨pre, x, post, hL, h1, h2⟩ := J3 h
  split at h1
  ·rename_i ho
   have hxc : x = c := Option.some.inj h1
   subst hxc
   have hx := mem_picksN.1 (by rw [hL]; simp : x ∈ Y4 l.length m 0)
   refine ⟨⟨⟨hx.2.1, fun i hi => (hx.2.2 i hi).2⟩, ho⟩, hx.1, fun d hd hdl => ?_⟩
   have hdm : d ∈ Y4 l.length m 0 := mem_picksN.2 ⟨hdl, hd.1.1, fun i hi => ⟨Nat.zero_le _, hd.1.2 i hi⟩⟩
   have hord := zCq (n := l.length) m 0
   rw [hL] at hdm hord
   rcases List.mem_append.1 hdm with hdm | hdm
   ·have := h2 d hdm
    rw [if_pos hd.2] at this; cases this
   ·rcases List.mem_cons.1 hdm with rfl | hdm
    ·have := K9 d d; omega
    ·have := (List.pairwise_cons.1 (List.pairwise_append.1 hord).2.1).1 d hdm
     have := K9 x d
     omega
  ·cases h1
 have hN : ∀ m, B0 l m = none → ∀ d, S1 l d → d.length ≠ m := fun m h d hd e => by
  have := J2 h d (mem_picksN.2 ⟨e, hd.1.1, fun i hi => ⟨Nat.zero_le _, hd.1.2 i hi⟩⟩)
  rw [if_pos hd.2] at this; cases this
 cases h : p5 (B0 l) (List.range (l.length + 1)) with
 | none =>
  have := J2 h (Q2 l).length (by have := hlen _ hw; simp; omega)
  exact absurd rfl (hN _ this _ hw)
 | some c =>
  obtain ⟨pre, m, post, hL, h1, h2⟩ := J3 h
  obtain ⟨g1, g2, g3⟩ := hM m c h1
  refine congrArg some (zGF (S := S1 l) ⟨g1, fun d hd => ?_⟩ ⟨hw, hleast⟩)
  rw [shorter_neg, not_or, not_and]
  have hdm : d.length ∈ pre ++ m :: post := by rw [← hL]; have := hlen d hd; simp; omega
  have hord : (pre ++ m :: post).Pairwise (· < ·) := by rw [← hL]; exact List.pairwise_lt_range
  rcases List.mem_append.1 hdm with hdm | hdm
  ·exact absurd rfl (hN _ (h2 _ hdm) d hd)
  ·rcases List.mem_cons.1 hdm with e | hdm
   ·exact ⟨by omega, fun _ => g3 d hd e⟩
   ·have := (List.pairwise_cons.1 (List.pairwise_append.1 hord).2.1).1 _ hdm
    exact ⟨by omega, fun e => by omega⟩
end Go.Abs

namespace Go.Abs
open Go
def Z9 (r : Int) : Int := if 97 ≤ r ∧ r ≤ 122 then 1 else if 65 ≤ r ∧ r ≤ 90 ∧ ¬ (r = 72 ∨ r = 81 ∨ r = 87) then 2 else 0
theorem zF8 : ((List.range 256).all fun n => decide (Z9 n = x7 (UInt8.ofNat n))) = true := by kernel_rfl
theorem E3 (c : UInt8) : Z9 (c.toNat : Int) = x7 c := by
 have := List.all_eq_true.1 zF8 c.toNat (List.mem_range.2 c.toNat_lt)
 rw [decide_eq_true_eq, UInt8.ofNat_toNat] at this
 exact this
theorem zCN {r : Int} (h : 128 ≤ r) : Z9 r = 0 := by
 unfold Z9
 rw [if_neg (by omega), if_neg (by omega)]
theorem zCM {c : UInt8} (h : 128 ≤ c.toNat) : x7 c = 0 := by rw [← E3, zCN (by omega)]
theorem zF6 {c : UInt8} (h : x7 c ≠ 0) : c.toNat < 128 := by
 apply Decidable.of_not_not
 intro hn
 exact h (zCM (by omega))
theorem zGA : ((List.range 256).all fun n => (y7 (UInt8.ofNat n) == decide (x7 (UInt8.ofNat n) = 1)) && (w7 (UInt8.ofNat n) == decide (x7 (UInt8.ofNat n) = 2))) = true := by kernel_rfl
theorem zCO (c : UInt8) : y7 c = decide (x7 c = 1) ∧ w7 c = decide (x7 c = 2) := by
 have := List.all_eq_true.1 zGA c.toNat (List.mem_range.2 c.toNat_lt)
 rw [UInt8.ofNat_toNat, Bool.and_eq_true, beq_iff_eq, beq_iff_eq] at this
 exact this
theorem latin_kind {c : UInt8} : y7 c = true ↔ x7 c = 1 := by rw [(zCO c).1, decide_eq_true_eq]
theorem other_kind {c : UInt8} : w7 c = true ↔ x7 c = 2 := by rw [(zCO c).2, decide_eq_true_eq]
def FormTo (s : Str) (i : Nat) (k : Int) : Prop := (i = 0 ∧ k = 0) ∨ (0 < i ∧ k ≠ 0 ∧ ∀ j, j < i → x7 (s.getD j 0) = k)
theorem zF7 (c : UInt8) : x7 c = 0 ∨ x7 c = 1 ∨ x7 c = 2 := by
 unfold x7
 repeat' split
 all_goals simp
theorem FormTo.end {s : Str} {i : Nat} {k : Int} (h : FormTo s i k) (hi : i = s.length) (h0 : 0 < s.length) : o4 s = true := by
 rcases h with h | ⟨_, hk, h⟩
 ·omega
 ·unfold o4
  rw [Bool.or_eq_true, List.all_eq_true, List.all_eq_true]
  have hm : ∀ c, c ∈ s → x7 c = k := fun c hc => by
   obtain ⟨j, hj, rfl⟩ := List.getElem_of_mem hc
   have := h j (by omega)
   simpa [List.getD, hj] using this
  have hr : k = 1 ∨ k = 2 := by
   cases s with
   | nil => simp at h0
   | cons c r =>
    have h1 := hm c (by simp)
    rcases zF7 c with h2 | h2 | h2 <;> omega
  rcases hr with rfl | rfl
  ·exact .inl (fun c hc => latin_kind.2 (hm c hc))
  ·exact .inr (fun c hc => other_kind.2 (hm c hc))
theorem FormTo.next {s : Str} {i : Nat} {k : Int} (h : FormTo s i k) (hk : x7 (s.getD i 0) ≠ 0) (he : k = 0 ∨ x7 (s.getD i 0) = k) : FormTo s (i + 1) (x7 (s.getD i 0)) := by
 refine .inr ⟨by omega, hk, fun j hj => ?_⟩
 by_cases e : j = i
 ·rw [e]
 ·rcases h with ⟨rfl, rfl⟩ | ⟨h0, h1, h⟩
  ·omega
  ·rw [h j (by omega)]
   rcases he with he | he
   ·exact absurd he h1
   ·exact he.symm
theorem FormTo.bad {s : Str} {i : Nat} {k : Int} (h : FormTo s i k) (hi : i < s.length) (hb : x7 (s.getD i 0) = 0 ∨ (k ≠ 0 ∧ x7 (s.getD i 0) ≠ k)) : o4 s = false := by
 have hm : s.getD i 0 ∈ s := by simp [List.getD, hi]
 cases hf : o4 s with
 | false => rfl
 | true =>
  exfalso
  unfold o4 at hf
  rw [Bool.or_eq_true, List.all_eq_true, List.all_eq_true] at hf
  have hall : ∃ q, q ≠ 0 ∧ ∀ c, c ∈ s → x7 c = q := by
   rcases hf with hf | hf
   ·exact ⟨1, by decide, fun c hc => latin_kind.1 (hf c hc)⟩
   ·exact ⟨2, by decide, fun c hc => other_kind.1 (hf c hc)⟩
  obtain ⟨q, hq, hall⟩ := hall
  have h1 := hall _ hm
  rcases hb with hb | ⟨hb1, hb2⟩
  ·exact hq (h1.symm.trans hb)
  ·rcases h with ⟨_, h⟩ | ⟨h0, _, h⟩
   ·exact hb1 h
   ·have h2 := h 0 h0
    have h3 : s.getD 0 0 ∈ s := by
     have : 0 < s.length := by omega
     simp [List.getD, this]
    have := hall _ h3
    exact hb2 (by omega)
end Go.Abs

namespace Go.Abs
open Go Go.Proofs Tryz
attribute [local irreducible] q9 Hold y8
theorem zID (n : Int) : zMf prog 153 [iV n] [] (bV false) [] := by
 refine q7 func153 rfl (fun E hE => ?_); simp only [go_sem, ntmps153]
 repeat' (first | (refine Qr rfl ?_; try intro _ hK; try simp only [go_sem, *]) | refine Qh rfl ?_ | (refine Qc rfl rfl ?_ ?_ <;> (intro hb; have hc := hb; try simp only [go_sem] at hc)) | refine q6 rfl ?_ | ((with_reducible apply And.intro); focus omega) | (refine z8 hK ?_; clear hK; simp only [go_sem, *]) | simp only [z7, z6, go_sem, *])
 all_goals (refine ⟨[_], [], [], ⟨rfl, trivial⟩, ?_⟩; simp only [go_sem, *])
 all_goals simp_all
theorem zAt (a b : Int) : zMf prog 130 [iV a, iV b] [] (iV (zMl a b)) [] := by
 refine q7 func130 rfl (fun E hE => ?_); simp only [go_sem, ntmps130]
 repeat' (first | (refine Qr rfl ?_; try intro _ hK; try simp only [go_sem, *]) | refine Qh rfl ?_ | (refine Qc rfl rfl ?_ ?_ <;> (intro hb; have hc := hb; try simp only [go_sem] at hc)) | refine q6 rfl ?_ | (refine q8 (zID _) ?_; simp only [go_sem, *]) | ((with_reducible apply And.intro); focus omega) | (refine z8 hK ?_; clear hK; simp only [go_sem, *]) | simp only [z7, z6, go_sem, *])
 all_goals (refine ⟨[_], [], [], ⟨rfl, trivial⟩, ?_⟩; simp only [go_sem, *])
 all_goals (refine J8 ?_; unfold zMl; repeat' split)
 all_goals omega
def orL : List Int → Int
 | [] => 0
 | x :: r => if x = 0 then orL r else x
theorem zAv (l : List Int) (hl : l.length ≤ 4294967296) : zMf prog 119 [.list (l.map iV)] [] (iV (orL l)) [] := by
 refine q7 func119 rfl (fun E hE => ?_); simp only [go_sem, ntmps119]
 repeat' (first | (refine Qr rfl ?_; try intro _ hK; try simp only [go_sem, *]) | refine Qh rfl ?_ | (refine Qc rfl rfl ?_ ?_ <;> (intro hb; have hc := hb; try simp only [go_sem] at hc)) | refine q6 rfl ?_ | ((with_reducible apply And.intro); focus omega) | (refine z8 hK ?_; clear hK; simp only [go_sem, *]) | simp only [z7, z6, go_sem, *])
 refine o6 rfl (l.length) (fun i => orL (l.drop i) = orL l) 18 (fun i => [(8, iV i), (7, iV l.length), (6, .list (l.map iV)), (3, iV 0)]) (fun i => []) [] [] (by simp) ?_; intro i hi hP
 repeat' (first | (refine Qr rfl ?_; try intro _ hK; try simp only [go_sem, *]) | refine Qh rfl ?_ | (refine Qc rfl rfl ?_ ?_ <;> (intro hb; have hc := hb; try simp only [go_sem] at hc)) | refine q6 rfl ?_ | ((with_reducible apply And.intro); focus omega) | (refine z8 hK ?_; clear hK; simp only [go_sem, *]) | simp only [z7, z6, go_sem, *])
 ·(refine ⟨[_], [], [], ⟨rfl, trivial⟩, ?_⟩; simp only [go_sem, *])
  rw [← hP, o3 ‹_›, orL, if_neg ‹_›]
 ·exact i4 (i' := i + 1) [] [] (by rw [← hP, o3 (i := i) ‹_›, orL, if_pos ‹_›])
 ·(refine ⟨[_], [], [], ⟨rfl, trivial⟩, ?_⟩; simp only [go_sem, *])
  rw [← hP, f5 (by omega), orL]
theorem zAd (a b : Int) : orL [a, b] = orI a b := by
 simp only [orL, orI]; repeat' split
 all_goals omega
theorem zIE (s : Str) : zMf prog 142 [sV s] [] (bV false) [] := by
 refine q7 func142 rfl (fun E hE => ?_); simp only [go_sem, ntmps142]
 repeat' (first | (refine Qr rfl ?_; try intro _ hK; try simp only [go_sem, *]) | refine Qh rfl ?_ | (refine Qc rfl rfl ?_ ?_ <;> (intro hb; have hc := hb; try simp only [go_sem] at hc)) | refine q6 rfl ?_ | ((with_reducible apply And.intro); focus omega) | (refine z8 hK ?_; clear hK; simp only [go_sem, *]) | simp only [z7, z6, go_sem, *])
 all_goals (refine ⟨[_], [], [], ⟨rfl, trivial⟩, ?_⟩; simp only [go_sem, *])
 all_goals simp_all
theorem zIF (s : Str) : zMf prog 172 [sV s] [] (bV false) [] := by
 refine q7 func172 rfl (fun E hE => ?_); simp only [go_sem, ntmps172]
 repeat' (first | (refine Qr rfl ?_; try intro _ hK; try simp only [go_sem, *]) | refine Qh rfl ?_ | (refine Qc rfl rfl ?_ ?_ <;> (intro hb; have hc := hb; try simp only [go_sem] at hc)) | refine q6 rfl ?_ | ((with_reducible apply And.intro); focus omega) | (refine z8 hK ?_; clear hK; simp only [go_sem, *]) | simp only [z7, z6, go_sem, *])
 all_goals (refine ⟨[_], [], [], ⟨rfl, trivial⟩, ?_⟩; simp only [go_sem, *])
 all_goals simp_all
theorem zDA (a b : Str) : zMf prog 120 [sV a, sV b] [] (iV (zMj a b)) [] := by
 refine q7 func120 rfl (fun E hE => ?_); simp only [go_sem, ntmps120]
 repeat' (first | (refine Qr rfl ?_; try intro _ hK; try simp only [go_sem, *]) | refine Qh rfl ?_ | (refine Qc rfl rfl ?_ ?_ <;> (intro hb; have hc := hb; try simp only [go_sem] at hc)) | refine q6 rfl ?_ | (refine q8 (zIE _) ?_; simp only [go_sem, *]) | ((with_reducible apply And.intro); focus omega) | (refine z8 hK ?_; clear hK; simp only [go_sem, *]) | simp only [z7, z6, go_sem, *])
 all_goals (refine ⟨[_], [], [], ⟨rfl, trivial⟩, ?_⟩; simp only [go_sem, *])
 all_goals (refine J8 ?_; unfold zMj w9; simp_all)
 all_goals (apply Decidable.of_not_not; intro h; exact absurd (L7 (by assumption) (by simpa using h)) (by assumption))
theorem zHf (a b : Str) : zMf prog 150 [sV a, sV b] [] (iV (zMj a b)) [] := by
 refine q7 func150 rfl (fun E hE => ?_); simp only [go_sem, ntmps150]
 repeat' (first | (refine Qr rfl ?_; try intro _ hK; try simp only [go_sem, *]) | refine Qh rfl ?_ | (refine Qc rfl rfl ?_ ?_ <;> (intro hb; have hc := hb; try simp only [go_sem] at hc)) | refine q6 rfl ?_ | (refine q8 (zIF _) ?_; simp only [go_sem, *]) | ((with_reducible apply And.intro); focus omega) | (refine z8 hK ?_; clear hK; simp only [go_sem, *]) | simp only [z7, z6, go_sem, *])
 all_goals (refine ⟨[_], [], [], ⟨rfl, trivial⟩, ?_⟩; simp only [go_sem, *])
 all_goals (refine J8 ?_; unfold zMj w9; simp_all)
 all_goals (apply Decidable.of_not_not; intro h; exact absurd (L7 (by assumption) (by simpa using h)) (by assumption))
end Go.Abs

namespace Go.Abs
open Go Go.Proofs Tryz
attribute [local irreducible] q9 Hold y8
theorem zGa : ¬ T8 := fun h => h
def hqw (r : Int) : Bool := decide (0 ≤ Lib.indexByte [72, 81, 87] r.toNat.toUInt8)
theorem zFr : ((List.range 128).all fun n => hqw n == (n == 72 || n == 81 || n == 87)) = true := by kernel_rfl
theorem zFs {r : Int} (h0 : 0 ≤ r) (h1 : r < 128) : hqw r = decide (r = 72 ∨ r = 81 ∨ r = 87) := by
 obtain ⟨n, rfl⟩ := Int.eq_ofNat_of_zero_le h0
 have := List.all_eq_true.1 zFr n (List.mem_range.2 (by omega))
 rw [beq_iff_eq] at this
 rw [this, Bool.eq_iff_iff]
 simp
 omega
theorem zIA (r : Int) (h0 : 0 ≤ r) (h1 : r < 128) : zMf prog 128 [sV [72, 81, 87], .raw (.int .i32 r)] [] (bV (hqw r)) [] :=
 zId [.string ⟨[72, 81, 87].toArray⟩, .int .i32 r] (.bool (hqw r)) rfl (fun w => Tryz.strings_ContainsRune_ascii _ r w h0 h1)
theorem C7 (r : Int) : zMf prog 92 [.raw (.int .i32 r)] [] (iV (Z9 r)) [] := by
 by_cases q : 65 ≤ r ∧ r ≤ 90
 ·have sh := zIA r (by omega) (by omega)
  have e := zFs (r := r) (by omega) (by omega)
  generalize hqw r = b at *
  have e0 : b = decide (r = 72 ∨ r = 81 ∨ r = 87) := e
  clear e
  refine q7 func92 rfl (fun E hE => ?_); simp only [go_sem, ntmps92]
  repeat' (first | (refine Qr rfl ?_; try intro _ hK; try simp only [go_sem, *]) | (refine Qi rfl rfl rfl rfl ?_ ?_ <;> (intro hb; (try intro _ hK); have hc := hb; try simp only [go_sem] at hc; simp only [go_sem, *])) | refine Qh rfl ?_ | (refine Qc rfl rfl ?_ ?_ <;> (intro hb; have hc := hb; try simp only [go_sem] at hc)) | refine q6 rfl ?_ | (refine q8 (sh) ?_; simp only [go_sem, *]) | ((with_reducible apply And.intro); focus omega) | (refine z8 hK ?_; clear hK; simp only [go_sem, *]) | simp only [z7, z6, go_sem, *])
  all_goals (refine ⟨[_], [], [], ⟨rfl, trivial⟩, ?_⟩; simp only [go_sem, *])
  all_goals (refine J8 ?_; unfold Z9; simp_all)
  all_goals omega
 ·refine q7 func92 rfl (fun E hE => ?_); simp only [go_sem, ntmps92]
  repeat' (first | (refine Qr rfl ?_; try intro _ hK; try simp only [go_sem, *]) | (refine Qi rfl rfl rfl rfl ?_ ?_ <;> (intro hb; (try intro _ hK); have hc := hb; try simp only [go_sem] at hc; simp only [go_sem, *])) | refine Qh rfl ?_ | (refine Qc rfl rfl ?_ ?_ <;> (intro hb; have hc := hb; try simp only [go_sem] at hc)) | refine q6 rfl ?_ | ((with_reducible apply And.intro); focus omega) | (refine z8 hK ?_; clear hK; simp only [go_sem, *]) | simp only [z7, z6, go_sem, *])
  all_goals try omega
  all_goals (refine ⟨[_], [], [], ⟨rfl, trivial⟩, ?_⟩; simp only [go_sem, *])
  all_goals (refine J8 ?_; unfold Z9; simp_all)
  all_goals omega
end Go.Abs

namespace Go.Abs
open Go Go.Proofs Tryz
attribute [local irreducible] q9 Hold y8
theorem zGM : ((List.range 128).all fun n => n == 67 || n == 74 || n == 88 || n == 89 || decide (Lib.toLowerA [UInt8.ofNat n] = y5 (UInt8.ofNat n))) = true := by kernel_rfl
theorem zGN {c : UInt8} (h : c.toNat < 128) (h1 : ¬ c.toNat = 67) (h2 : ¬ c.toNat = 74) (h3 : ¬ c.toNat = 88) (h4 : ¬ c.toNat = 89) : Lib.toLowerA [c] = y5 c := by
 have := List.all_eq_true.1 zGM c.toNat (List.mem_range.2 h)
 simpa [h1, h2, h3, h4] using this
theorem zIH (c : UInt8) (h : c.toNat < 128) : zMf prog 143 [sV [c]] [] (sV (Lib.toLowerA [c])) [] :=
 zIa zGa [.string ⟨[c].toArray⟩] (.string ⟨(Lib.toLowerA [c]).toArray⟩) rfl (fun w => Tryz.strings_ToLower_ascii ⟨[c].toArray⟩ w (by simp) (fun j b hb => by
  cases j with
  | zero => simp at hb; subst hb; exact h
  | succ j => simp at hb))
theorem zHW : y5 67 = [99, 104] := by decide
theorem zHX : y5 74 = [106, 117] := by decide
theorem zHY : y5 88 = [115, 104] := by decide
theorem zHZ : y5 89 = [106, 97] := by decide
theorem zDN (c : UInt8) (h : c.toNat < 128) : zMf prog 122 [.raw (.int .i32 (c.toNat : Int))] [] (sV (y5 c)) [] := by
 have sl := zIH c h
 have ee := A6 (n := (c.toNat : Int)) (by omega) (by omega)
 rw [Int.toNat_natCast, UInt8.ofNat_toNat] at ee
 have hl := zGN h
 have k1 : c.toNat = 67 → y5 c = [99, 104] := fun e => by rw [UInt8.toNat_inj.1 (show c.toNat = (67 : UInt8).toNat from e), zHW]
 have k2 : c.toNat = 74 → y5 c = [106, 117] := fun e => by rw [UInt8.toNat_inj.1 (show c.toNat = (74 : UInt8).toNat from e), zHX]
 have k3 : c.toNat = 88 → y5 c = [115, 104] := fun e => by rw [UInt8.toNat_inj.1 (show c.toNat = (88 : UInt8).toNat from e), zHY]
 have k4 : c.toNat = 89 → y5 c = [106, 97] := fun e => by rw [UInt8.toNat_inj.1 (show c.toNat = (89 : UInt8).toNat from e), zHZ]
 generalize c.toNat = n at *
 generalize y5 c = sb at *
 have fin : n < 128 → ¬ n = 67 → ¬ n = 74 → ¬ n = 88 → ¬ n = 89 → Lib.toLowerA [c] = sb := fun _ => hl
 clear hl
 generalize Lib.toLowerA [c] = lb at *
 generalize he : Utf8.encode (n : Int) = eb at *
 obtain ⟨ev, hev⟩ : ∃ v, v = Value.string eb := ⟨_, rfl⟩
 have sl2 : zMf prog 143 [.raw (.string eb)] [] (sV lb) [] := by rw [ee]; exact sl
 clear ee sl hev ev
 refine q7 func122 rfl (fun E hE => ?_); simp only [go_sem, ntmps122]
 repeat' (first | (refine Qr rfl ?_; try intro _ hK; try simp only [go_sem, *]) | refine Qh rfl ?_ | (refine Qc rfl rfl ?_ ?_ <;> (intro hb; have hc := hb; try simp only [go_sem] at hc)) | refine q6 rfl ?_ | (refine q8 (sl2) ?_; simp only [go_sem, *]) | ((with_reducible apply And.intro); focus omega) | (refine z8 hK ?_; clear hK; simp only [go_sem, *]) | simp only [z7, z6, go_sem, *])
 all_goals (refine ⟨[_], [], [], ⟨rfl, trivial⟩, ?_⟩; simp only [go_sem, *])
 ·rw [k1 (by omega)]
 ·rw [k2 (by omega)]
 ·rw [k4 (by omega)]
 ·rw [k3 (by omega)]
 ·rw [fin (by omega) (by omega) (by omega) (by omega) (by omega)]
end Go.Abs

namespace Go.Abs
open Go Go.Proofs Tryz
attribute [local irreducible] q9 Hold y8
theorem zC6 (s : Str) {i : Nat} (h : i < s.length) : Z9 ((Utf8.decode ⟨s.toArray⟩ i).1 : Int) = x7 (s.getD i 0) ∧ (x7 (s.getD i 0) ≠ 0 → (Utf8.decode ⟨s.toArray⟩ i).2 = 1) := by
 by_cases q : (s.getD i 0).toNat < 128
 ·rw [A3 h q]
  exact ⟨E3 _, fun _ => rfl⟩
 ·have := zEg h (by omega)
  rw [zCM (by omega), zCN (by omega)]
  exact ⟨rfl, fun h => absurd rfl h⟩
def NoQ (_ : Nat) : Prop := True
theorem C4 (s : Str) : zMf prog 44 [sV s] [] (iV (y9 s)) [] := by
 have e0 : s.length = 0 → y9 s = 7 := fun h => by unfold y9; rw [if_pos h]
 have e1 : 6 < s.length → y9 s = 10 := fun h => by unfold y9; rw [if_neg (by omega), if_pos h]
 have e2 : 0 < s.length → s.length ≤ 6 → y9 s = if o4 s = true then 0 else 2 := fun h h' => by unfold y9; rw [if_neg (by omega), if_neg (by omega)]
 refine q7 func44 rfl (fun E hE => ?_); simp only [go_sem, ntmps44]
 repeat' (first | (refine Qr rfl ?_; try intro _ hK; try simp only [go_sem, *]) | (refine Qi rfl rfl rfl rfl ?_ ?_ <;> (intro hb; (try intro _ hK); have hc := hb; try simp only [go_sem] at hc; simp only [go_sem, *])) | refine Qh rfl ?_ | (refine Qc rfl rfl ?_ ?_ <;> (intro hb; have hc := hb; try simp only [go_sem] at hc)) | refine q6 rfl ?_ | ((with_reducible apply And.intro); focus omega) | (refine z8 hK ?_; clear hK; simp only [go_sem, *]) | simp only [z7, z6, go_sem, *])
 ·(refine ⟨[_], [], [], ⟨rfl, trivial⟩, ?_⟩; simp only [go_sem, *])
  rw [e0 (by omega)]
 ·(refine ⟨[_], [], [], ⟨rfl, trivial⟩, ?_⟩; simp only [go_sem, *])
  rw [e1 (by omega)]
 ·have e3 := e2 (by omega) (by omega)
  have h0 : 0 < s.length := by omega
  have h6 : s.length ≤ 6 := by omega
  clear e0 e1 e2
  refine a7 rfl (s.length) (fun i (k : Int) => FormTo s i k) 30 (fun i k => [(14, .ptr 0 0), (3, iV k)]) (fun i k => [.siter ⟨s.toArray⟩ i]) [some 0] [] (0) (by exact .inl ⟨rfl, rfl⟩) ?_; intro i k hi hP
  by_cases hi2 : i < s.length
  ·obtain ⟨r1, r2⟩ := zC6 s hi2
   have hbad := hP.bad hi2
   have hnext := hP.next
   have sk := C7 ((Utf8.decode ⟨s.toArray⟩ i).1 : Int)
   rw [r1] at sk
   generalize hde : Utf8.decode ⟨s.toArray⟩ i = d at *
   obtain ⟨d1, d2⟩ := d
   simp only at r2 sk
   clear r1 hP
   generalize x7 (s.getD i 0) = kb at *
   repeat' (first | (refine Qr rfl ?_; try intro _ hK; try simp only [go_sem, *]) | (refine Qi rfl rfl rfl rfl ?_ ?_ <;> (intro hb; (try intro _ hK); have hc := hb; try simp only [go_sem] at hc; simp only [go_sem, *])) | refine Qh rfl ?_ | (refine Qc rfl rfl ?_ ?_ <;> (intro hb; have hc := hb; try simp only [go_sem] at hc)) | refine q6 rfl ?_ | (refine q8 (sk) ?_; simp only [go_sem, *]) | ((with_reducible apply And.intro); focus omega) | (refine z8 hK ?_; clear hK; simp only [go_sem, *]) | simp only [z7, z6, go_sem, *])
   all_goals first | (exact o7 (i' := i + 1) [some 0] [] (kb) (by exact hnext (by assumption) (by first | (left; assumption) | (right; omega)))) | (focus ((refine ⟨[_], [], [], ⟨rfl, trivial⟩, ?_⟩; simp only [go_sem, *]); done))
  ·have hf := hP.end (by omega) h0
   rw [if_pos hf] at e3
   clear hP
   repeat' (first | (refine Qr rfl ?_; try intro _ hK; try simp only [go_sem, *]) | (refine Qi rfl rfl rfl rfl ?_ ?_ <;> (intro hb; (try intro _ hK); have hc := hb; try simp only [go_sem] at hc; simp only [go_sem, *])) | refine Qh rfl ?_ | (refine Qc rfl rfl ?_ ?_ <;> (intro hb; have hc := hb; try simp only [go_sem] at hc)) | refine q6 rfl ?_ | ((with_reducible apply And.intro); focus omega) | (refine z8 hK ?_; clear hK; simp only [go_sem, *]) | simp only [z7, z6, go_sem, *])
   (refine ⟨[_], [], [], ⟨rfl, trivial⟩, ?_⟩; simp only [go_sem, *])
theorem zF3 {s : Str} {i : Nat} (h : i < s.length) : zMg (s.take (i + 1)) = zMg (s.take i) ++ y5 (s.getD i 0) := by
 rw [List.take_succ_eq_append_getElem h, zMg, List.flatMap_append]
 simp [zMg, List.getD, h]
@[go_sem] theorem zKs : zMg [] = [] := rfl
theorem zF2 (s : Str) (i : Nat) : (zMg (s.take i)).length ≤ 2 * s.length := by
 have h1 := (R5 (s.take i)).2
 simp at h1
 omega
theorem zGT {s : Str} (v : o4 s = true) {i : Nat} (h : i < s.length) : (s.getD i 0).toNat < 128 := by
 apply zF6
 have hm : s.getD i 0 ∈ s := by simp [List.getD, h]
 unfold o4 at v
 rw [Bool.or_eq_true, List.all_eq_true, List.all_eq_true] at v
 rcases v with v | v
 ·rw [latin_kind.1 (v _ hm)]; decide
 ·rw [other_kind.1 (v _ hm)]; decide
theorem T5 (s : Str) (v : o4 s = true) (hl : s.length ≤ 1000) : zMf prog 85 [sV s] [] (sV (zMg s)) [] := by
 refine q7 func85 rfl (fun E hE => ?_); simp only [go_sem, ntmps85]
 repeat' (first | (refine Qr rfl ?_; try intro _ hK; try simp only [go_sem, *]) | refine Qh rfl ?_ | (refine Qc rfl rfl ?_ ?_ <;> (intro hb; have hc := hb; try simp only [go_sem] at hc)) | refine q6 rfl ?_ | ((with_reducible apply And.intro); focus omega) | (refine z8 hK ?_; clear hK; simp only [go_sem, *]) | simp only [z7, z6, go_sem, *])
 refine o6 rfl (s.length) (fun i => NoQ i) 16 (fun i => [(7, .ptr 0 0), (3, sV (zMg (s.take i)))]) (fun i => [.siter ⟨s.toArray⟩ i]) [some 0] [] (by trivial) ?_; intro i hi hP
 have hk2 := zF2 s i
 by_cases hi2 : i < s.length
 ·have ha := zGT v hi2
  have hd := A3 hi2 ha
  have ss := zDN _ ha
  have hs2 := (P4 (s.getD i 0)).2
  have hkt := zF3 hi2
  generalize y5 (s.getD i 0) = sb at *
  generalize zMg (s.take i) = kt at *
  repeat' (first | (refine Qr rfl ?_; try intro _ hK; try simp only [go_sem, *]) | refine Qh rfl ?_ | (refine Qc rfl rfl ?_ ?_ <;> (intro hb; have hc := hb; try simp only [go_sem] at hc)) | refine q6 rfl ?_ | (refine q8 (ss) ?_; simp only [go_sem, *]) | ((with_reducible apply And.intro); focus omega) | (refine z8 hK ?_; clear hK; simp only [go_sem, *]) | simp only [z7, z6, go_sem, *])
  exact i4 (i' := i + 1) [some 0] [] (by trivial)
 ·have e : s.take i = s := List.take_of_length_le (by omega)
  rw [e]
  clear hk2
  repeat' (first | (refine Qr rfl ?_; try intro _ hK; try simp only [go_sem, *]) | refine Qh rfl ?_ | (refine Qc rfl rfl ?_ ?_ <;> (intro hb; have hc := hb; try simp only [go_sem] at hc)) | refine q6 rfl ?_ | ((with_reducible apply And.intro); focus omega) | (refine z8 hK ?_; clear hK; simp only [go_sem, *]) | simp only [z7, z6, go_sem, *])
  (refine ⟨[_], [], [], ⟨rfl, trivial⟩, ?_⟩; simp only [go_sem, *])
theorem zDE (s : Str) : zMf prog 37 [sV s] [] (.tup [sV (if y9 s = 0 then zMg s else []), iV (y9 s)]) [] := by
 have sc := C4 s
 by_cases q : y9 s = 0
 ·have v := checkN_zero.1 q
  have so := T5 s v.form (by have := v.len; omega)
  rw [if_pos q]
  rw [q] at sc ⊢
  refine q7 func37 rfl (fun E hE => ?_); simp only [go_sem, ntmps37]
  repeat' (first | (refine Qr rfl ?_; try intro _ hK; try simp only [go_sem, *]) | refine Qh rfl ?_ | (refine Qc rfl rfl ?_ ?_ <;> (intro hb; have hc := hb; try simp only [go_sem] at hc)) | refine q6 rfl ?_ | ((first | refine q8 (sc) ?_ | refine q8 (so) ?_); simp only [go_sem, *]) | ((with_reducible apply And.intro); focus omega) | (refine z8 hK ?_; clear hK; simp only [go_sem, *]) | simp only [z7, z6, go_sem, *])
  all_goals try contradiction
  (refine ⟨[_, _], [], [], ⟨rfl, rfl, trivial⟩, ?_⟩; simp only [go_sem, *])
 ·rw [if_neg q]
  generalize y9 s = e at *
  refine q7 func37 rfl (fun E hE => ?_); simp only [go_sem, ntmps37]
  repeat' (first | (refine Qr rfl ?_; try intro _ hK; try simp only [go_sem, *]) | refine Qh rfl ?_ | (refine Qc rfl rfl ?_ ?_ <;> (intro hb; have hc := hb; try simp only [go_sem] at hc)) | refine q6 rfl ?_ | (refine q8 (sc) ?_; simp only [go_sem, *]) | ((with_reducible apply And.intro); focus omega) | (refine z8 hK ?_; clear hK; simp only [go_sem, *]) | simp only [z7, z6, go_sem, *])
  all_goals try contradiction
  (refine ⟨[_, _], [], [], ⟨rfl, rfl, trivial⟩, ?_⟩; simp only [go_sem, *])
end Go.Abs

namespace Go.Abs
open Go Go.Proofs Tryz
attribute [local irreducible] q9 Hold y8
abbrev fnV (f : FuncId) : AV := .raw (.func (.func f) #[] #[])
abbrev y4 (l : List Str) : AV := .list (l.map sV)
theorem zGU {l : List Str} {i : Nat} (h : i < l.length) : r4 (l.drop i) = if y9 (l.getD i default) = 0 then r4 (l.drop (i + 1)) else y9 (l.getD i default) := by
 rw [o3 h, r4]
theorem zAw (l : List Str) (hl : l.length ≤ 4294967296) : zMf prog 87 [y4 l] [] (iV (r4 l)) [] := by
 refine q7 func87 rfl (fun E hE => ?_); simp only [go_sem, ntmps87]
 repeat' (first | (refine Qr rfl ?_; try intro _ hK; try simp only [go_sem, *]) | refine Qh rfl ?_ | (refine Qc rfl rfl ?_ ?_ <;> (intro hb; have hc := hb; try simp only [go_sem] at hc)) | refine q6 rfl ?_ | ((with_reducible apply And.intro); focus omega) | (refine z8 hK ?_; clear hK; simp only [go_sem, *]) | simp only [z7, z6, go_sem, *])
 refine o6 rfl (l.length) (fun i => r4 (l.drop i) = r4 l) 18 (fun i => [(8, iV i), (7, iV l.length), (6, y4 l)]) (fun i => []) [] [] (by simp) ?_; intro i hi hP
 by_cases hi2 : i < l.length
 ·have hs := zGU hi2
  have sc := C4 (l.getD i default)
  by_cases q : y9 (l.getD i default) = 0
  ·rw [if_pos q] at hs
   rw [q] at sc
   repeat' (first | (refine Qr rfl ?_; try intro _ hK; try simp only [go_sem, *]) | refine Qh rfl ?_ | (refine Qc rfl rfl ?_ ?_ <;> (intro hb; have hc := hb; try simp only [go_sem] at hc)) | refine q6 rfl ?_ | (refine q8 (sc) ?_; simp only [go_sem, *]) | ((with_reducible apply And.intro); focus omega) | (refine z8 hK ?_; clear hK; simp only [go_sem, *]) | simp only [z7, z6, go_sem, *])
   all_goals try contradiction
   exact i4 (i' := i + 1) [] [] (by rw [← hP, hs])
  ·rw [if_neg q] at hs
   rw [hs] at hP
   generalize y9 (l.getD i default) = e at *
   subst hP
   repeat' (first | (refine Qr rfl ?_; try intro _ hK; try simp only [go_sem, *]) | refine Qh rfl ?_ | (refine Qc rfl rfl ?_ ?_ <;> (intro hb; have hc := hb; try simp only [go_sem] at hc)) | refine q6 rfl ?_ | (refine q8 (sc) ?_; simp only [go_sem, *]) | ((with_reducible apply And.intro); focus omega) | (refine z8 hK ?_; clear hK; simp only [go_sem, *]) | simp only [z7, z6, go_sem, *])
   all_goals try contradiction
   (refine ⟨[_], [], [], ⟨rfl, trivial⟩, ?_⟩; simp only [go_sem, *])
 ·have e : r4 l = 0 := by rw [← hP, f5 (by omega)]; rfl
  rw [e]
  repeat' (first | (refine Qr rfl ?_; try intro _ hK; try simp only [go_sem, *]) | refine Qh rfl ?_ | (refine Qc rfl rfl ?_ ?_ <;> (intro hb; have hc := hb; try simp only [go_sem] at hc)) | refine q6 rfl ?_ | ((with_reducible apply And.intro); focus omega) | (refine z8 hK ?_; clear hK; simp only [go_sem, *]) | simp only [z7, z6, go_sem, *])
  (refine ⟨[_], [], [], ⟨rfl, trivial⟩, ?_⟩; simp only [go_sem, *])
theorem C8 (l : List Str) (hl : l.length ≤ 4294967296) : zMf prog 95 [y4 l] [] (iV (t8 l)) [] := by
 have sc := zAw l hl
 have e0 : 6 < l.length → t8 l = 6 := fun h => by unfold t8; rw [if_pos h]
 have e1 : l.length ≤ 6 → t8 l = r4 l := fun h => by unfold t8; rw [if_neg (by omega)]
 generalize r4 l = e at *
 generalize t8 l = r at *
 refine q7 func95 rfl (fun E hE => ?_); simp only [go_sem, ntmps95]
 repeat' (first | (refine Qr rfl ?_; try intro _ hK; try simp only [go_sem, *]) | refine Qh rfl ?_ | (refine Qc rfl rfl ?_ ?_ <;> (intro hb; have hc := hb; try simp only [go_sem] at hc)) | refine q6 rfl ?_ | (refine q8 (sc) ?_; simp only [go_sem, *]) | ((with_reducible apply And.intro); focus omega) | (refine z8 hK ?_; clear hK; simp only [go_sem, *]) | simp only [z7, z6, go_sem, *])
 ·(refine ⟨[_], [], [], ⟨rfl, trivial⟩, ?_⟩; simp only [go_sem, *])
  rw [e0 (by omega)]
 ·(refine ⟨[_], [], [], ⟨rfl, trivial⟩, ?_⟩; simp only [go_sem, *])
  rw [e1 (by omega)]
theorem zDM (s : Str) (h : 0 < s.length) : zMf prog 129 [sV s] [] (iV (o8 s)) [] := by
 have sk := C7 ((s.getD 0 0).toNat : Int)
 rw [E3] at sk
 have hw : IntKind.i32.wrap ((s.getD 0 0).toNat : Int) = ((s.getD 0 0).toNat : Int) := by
  have := (s.getD 0 0).toNat_lt
  rw [IntKind.wrap_i32]; omega
 have e : o8 s = x7 (s.getD 0 0) := rfl
 rw [e]
 generalize x7 (s.getD 0 0) = k at *
 refine q7 func129 rfl (fun E hE => ?_); simp only [go_sem, ntmps129]
 repeat' (first | (refine Qr rfl ?_; try intro _ hK; try simp only [go_sem, *]) | refine Qh rfl ?_ | (refine Qc rfl rfl ?_ ?_ <;> (intro hb; have hc := hb; try simp only [go_sem] at hc)) | refine q6 rfl ?_ | (refine q8 (sk) ?_; simp only [go_sem, *]) | ((with_reducible apply And.intro); focus omega) | (refine z8 hK ?_; clear hK; simp only [go_sem, *]) | simp only [z7, z6, go_sem, *])
 (refine ⟨[_], [], [], ⟨rfl, trivial⟩, ?_⟩; simp only [go_sem, *])
theorem C6 (a b : Str) (va : ValidN a) (vb : ValidN b) : zMf prog 96 [sV a, sV b] [] (iV (x6 a b)) [] := by
 have sa := T5 a va.form (by have := va.len; omega)
 have sb := T5 b vb.form (by have := vb.len; omega)
 have ta := zDM a va.ne
 have tb := zDM b vb.ne
 have e : x6 a b = orI (zMj (zMg a) (zMg b)) (zMl (o8 a) (o8 b)) := rfl
 have s1 := zDA (zMg a) (zMg b)
 have s2 := zAt (o8 a) (o8 b)
 have so := zAv [zMj (zMg a) (zMg b), zMl (o8 a) (o8 b)] (by simp)
 rw [zAd] at so
 rw [e]
 generalize orI (zMj (zMg a) (zMg b)) (zMl (o8 a) (o8 b)) = r at *
 generalize zMj (zMg a) (zMg b) = r1 at *
 generalize zMl (o8 a) (o8 b) = r2 at *
 generalize zMg a = ka at *
 generalize zMg b = kb at *
 generalize o8 a = ja at *
 generalize o8 b = jb at *
 clear e va vb
 refine q7 func96 rfl (fun E hE => ?_); simp only [go_sem, ntmps96]
 repeat' (first | (refine Qr rfl ?_; try intro _ hK; try simp only [go_sem, *]) | refine Qh rfl ?_ | (refine Qc rfl rfl ?_ ?_ <;> (intro hb; have hc := hb; try simp only [go_sem] at hc)) | refine q6 rfl ?_ | ((first | refine q8 (s1) ?_ | refine q8 (s2) ?_); simp only [go_sem, *]) | (refine w5 (sa) ?_ ?_; (focus (simp only [go_sem, *]; done)); simp only [go_sem, *]) | (refine w5 (sb) ?_ ?_; (focus (simp only [go_sem, *]; done)); simp only [go_sem, *]) | (refine w5 (ta) ?_ ?_; (focus (simp only [go_sem, *]; done)); simp only [go_sem, *]) | (refine w5 (tb) ?_ ?_; (focus (simp only [go_sem, *]; done)); simp only [go_sem, *]) | ((with_reducible apply And.intro); focus omega) | (refine z8 hK ?_; clear hK; simp only [go_sem, *]) | simp only [z7, z6, go_sem, *])
 (refine X3 [0] (so) (by simp only [go_sem, *]) (.raw _) ?_; simp only [go_sem, *])
 repeat' (first | (refine Qr rfl ?_; try intro _ hK; try simp only [go_sem, *]) | refine Qh rfl ?_ | (refine Qc rfl rfl ?_ ?_ <;> (intro hb; have hc := hb; try simp only [go_sem] at hc)) | refine q6 rfl ?_ | ((with_reducible apply And.intro); focus omega) | (refine z8 hK ?_; clear hK; simp only [go_sem, *]) | simp only [z7, z6, go_sem, *])
 (refine ⟨[_], [], [], ⟨rfl, trivial⟩, ?_⟩; simp only [go_sem, *])
theorem zAf (a b : Str) : r4 [a, b] = if y9 a = 0 then y9 b else y9 a := by
 unfold r4
 split
 ·unfold r4
  split
  ·rename_i h; rw [h]; rfl
  ·rfl
 ·rfl
def O4 (a b : Str) : Int := r4 [a, b]
theorem zMP (a b : Str) : zMf prog 48 [sV a, sV b] [] (.tup [iV (if O4 a b = 0 then x6 a b else 0), iV (O4 a b)]) [] := by
  have sc : zMf prog 87 [.list [sV a, sV b]] [] (iV (O4 a b)) [] := zAw [a, b] (by simp)
  by_cases q : O4 a b = 0
  · have hv : ValidN a ∧ ValidN b := by
      unfold O4 at q
      rw [zAf] at q
      by_cases h : y9 a = 0
      · rw [if_pos h] at q; exact ⟨checkN_zero.1 h, checkN_zero.1 q⟩
      · rw [if_neg h] at q; exact absurd q h
    have s1 := C6 a b hv.1 hv.2
    rw [if_pos q]
    rw [q] at sc ⊢
    clear hv q
    generalize x6 a b = r at *
    refine q7 func48 rfl (fun E hE => ?_); simp only [go_sem, ntmps48]
    repeat' (first | (refine Qr rfl ?_; try intro _ hK; try simp only [go_sem, *]) | refine Qh rfl ?_ | (refine Qc rfl rfl ?_ ?_ <;> (intro hb; have hc := hb; try simp only [go_sem] at hc)) | refine q6 rfl ?_ | ((with_reducible apply And.intro); focus omega) | (refine z8 hK ?_; clear hK; simp only [go_sem, *]) | simp only [z7, z6, go_sem, *])
    (refine X3 [0] (sc) (by simp only [go_sem, *]) (.raw _) ?_; simp only [go_sem, *])
    repeat' (first | (refine Qr rfl ?_; try intro _ hK; try simp only [go_sem, *]) | refine Qh rfl ?_ | (refine Qc rfl rfl ?_ ?_ <;> (intro hb; have hc := hb; try simp only [go_sem] at hc)) | refine q6 rfl ?_ | (refine q8 (s1) ?_; simp only [go_sem, *]) | ((with_reducible apply And.intro); focus omega) | (refine z8 hK ?_; clear hK; simp only [go_sem, *]) | simp only [z7, z6, go_sem, *])
    all_goals try contradiction
    (refine ⟨[_, _], [], [], ⟨rfl, rfl, trivial⟩, ?_⟩; simp only [go_sem, *])
  · rw [if_neg q]
    generalize O4 a b = e at *
    refine q7 func48 rfl (fun E hE => ?_); simp only [go_sem, ntmps48]
    repeat' (first | (refine Qr rfl ?_; try intro _ hK; try simp only [go_sem, *]) | refine Qh rfl ?_ | (refine Qc rfl rfl ?_ ?_ <;> (intro hb; have hc := hb; try simp only [go_sem] at hc)) | refine q6 rfl ?_ | ((with_reducible apply And.intro); focus omega) | (refine z8 hK ?_; clear hK; simp only [go_sem, *]) | simp only [z7, z6, go_sem, *])
    (refine X3 [0] (sc) (by simp only [go_sem, *]) (.raw _) ?_; simp only [go_sem, *])
    repeat' (first | (refine Qr rfl ?_; try intro _ hK; try simp only [go_sem, *]) | refine Qh rfl ?_ | (refine Qc rfl rfl ?_ ?_ <;> (intro hb; have hc := hb; try simp only [go_sem] at hc)) | refine q6 rfl ?_ | ((with_reducible apply And.intro); focus omega) | (refine z8 hK ?_; clear hK; simp only [go_sem, *]) | simp only [z7, z6, go_sem, *])
    all_goals try contradiction
    (refine ⟨[_, _], [], [], ⟨rfl, rfl, trivial⟩, ?_⟩; simp only [go_sem, *])
def T9 (l : List Str) (i : Nat) : Prop := ∀ j, i ≤ j → j + 1 < l.length → ¬ x6 (l.getD (j + 1) []) (l.getD j []) < 0
theorem orderedB_iff : ∀ {l : List Str}, l3 l = true ↔ T9 l 0
 | [] => by simp [l3, T9]
 | [a] => by simp [l3, T9]
 | a :: b :: r => by
  rw [l3, Bool.and_eq_true, Bool.not_eq_true', decide_eq_false_iff_not, orderedB_iff (l := b :: r)]
  unfold T9
  constructor
  ·rintro ⟨h1, h2⟩ j _ hj
   cases j with
   | zero => simpa using h1
   | succ j =>
    have := h2 j (Nat.zero_le _) (by simpa using hj)
    simpa using this
  ·intro h
   refine ⟨by simpa using h 0 (Nat.le_refl _) (by simp), fun j _ hj => ?_⟩
   have := h (j + 1) (by omega) (by simpa using hj)
   simpa using this
theorem zDD (l : List Str) (hv : ∀ s, s ∈ l → ValidN s) (hl : l.length ≤ 1000) : zMf prog 101 [y4 l, fnV 96] [] (bV (l3 l)) [] := by
  have hca : u9 prog 96 = true := by kernel_rfl
  have hs : ∀ a b : Str, ValidN a → ValidN b → zMf prog 96 [sV a, sV b] [] (iV (x6 a b)) [] := C6
  by_cases h0 : l.length = 0
  · have e : l = [] := List.eq_nil_of_length_eq_zero h0
    subst e
    have hw0 : IntKind.i64.wrap (-1) = (-1 : Int) := by decide
    have er : l3 [] = true := rfl
    rw [er]
    clear hs
    refine q7 func101 rfl (fun E hE => ?_); simp only [go_sem, ntmps101]
    repeat' (first | (refine Qr rfl ?_; try intro _ hK; try simp only [go_sem, *]) | refine Qh rfl ?_ | refine Qd rfl (by kernel_rfl) ?_ | (refine Qc rfl rfl ?_ ?_ <;> (intro hb; have hc := hb; try simp only [go_sem] at hc)) | refine q6 rfl ?_ | (refine Qb ?_ ?_; focus kernel_rfl) | ((with_reducible apply And.intro); focus omega) | (refine z8 hK ?_; clear hK; simp only [go_sem, *]) | simp only [z7, z6, go_sem, *])
    refine o6 rfl (1) (fun i => NoQ i) 25 (fun i => [(5, iV (-1)), (0, y4 []), (1, fnV 96)]) (fun i => []) [] [] (by trivial) ?_; intro i hi hP
    repeat' (first | (refine Qr rfl ?_; try intro _ hK; try simp only [go_sem, *]) | refine Qh rfl ?_ | refine Qd rfl (by kernel_rfl) ?_ | (refine Qc rfl rfl ?_ ?_ <;> (intro hb; have hc := hb; try simp only [go_sem] at hc)) | refine q6 rfl ?_ | (refine Qb ?_ ?_; focus kernel_rfl) | ((with_reducible apply And.intro); focus omega) | (refine z8 hK ?_; clear hK; simp only [go_sem, *]) | simp only [z7, z6, go_sem, *])
    all_goals try contradiction
    (refine ⟨[_], [], [], ⟨rfl, trivial⟩, ?_⟩; simp only [go_sem, *])
  have hw0 : IntKind.i64.wrap ((l.length : Int) - 1) = ((l.length - 1 : Nat) : Int) := by rw [wrap_i64 (by omega) (by omega)]; omega
  refine q7 func101 rfl (fun E hE => ?_); simp only [go_sem, ntmps101]
  repeat' (first | (refine Qr rfl ?_; try intro _ hK; try simp only [go_sem, *]) | refine Qh rfl ?_ | refine Qd rfl (by kernel_rfl) ?_ | (refine Qc rfl rfl ?_ ?_ <;> (intro hb; have hc := hb; try simp only [go_sem] at hc)) | refine q6 rfl ?_ | (refine Qb ?_ ?_; focus kernel_rfl) | ((with_reducible apply And.intro); focus omega) | (refine z8 hK ?_; clear hK; simp only [go_sem, *]) | simp only [z7, z6, go_sem, *])
  refine o6 rfl (l.length) (fun i => i + 1 ≤ l.length ∧ T9 l (l.length - 1 - i)) 25 (fun i => [(5, iV ((l.length - 1 - i : Nat) : Int)), (0, y4 l), (1, fnV 96)]) (fun i => []) [] [] (by exact ⟨by omega, fun j h1 h2 => by omega⟩) ?_; intro i hi hP
  obtain ⟨hi3, hP⟩ := hP
  generalize hk : l.length - 1 - i = k at *
  by_cases hi2 : 0 < k
  · have hw1 : IntKind.i64.wrap ((k : Int) - 1) = ((k - 1 : Nat) : Int) := by rw [wrap_i64 (by omega) (by omega)]; omega
    have hk1 : k < l.length := by omega
    have hk2 : k - 1 < l.length := by omega
    have m1 : l.getD k default ∈ l := j3 hk1
    have m2 : l.getD (k - 1) default ∈ l := j3 hk2
    have sc := hs _ _ (hv _ m1) (hv _ m2)
    have hstep : ¬ x6 (l.getD k default) (l.getD (k - 1) default) < 0 → T9 l (k - 1) := fun h j h1 h2 => by
      by_cases e : j = k - 1
      · subst e
        rw [show k - 1 + 1 = k by omega]; exact h
      · exact hP j (by omega) h2
    have hbad : x6 (l.getD k default) (l.getD (k - 1) default) < 0 → l3 l = false := fun h => by
      cases e : l3 l with
      | false => rfl
      | true =>
        have := orderedB_iff.1 e (k - 1) (by omega) (by omega)
        rw [show k - 1 + 1 = k by omega] at this
        exact absurd h this
    clear hs hP
    have hnx : l.length - 1 - (i + 1) = k - 1 := by omega
    generalize x6 (l.getD k default) (l.getD (k - 1) default) = c at *
    repeat' (first | (refine Qr rfl ?_; try intro _ hK; try simp only [go_sem, *]) | refine Qh rfl ?_ | refine Qd rfl (by kernel_rfl) ?_ | (refine Qc rfl rfl ?_ ?_ <;> (intro hb; have hc := hb; try simp only [go_sem] at hc)) | refine q6 rfl ?_ | (refine Qb ?_ ?_; focus kernel_rfl) | (refine q8 (sc) ?_; simp only [go_sem, *]) | ((with_reducible apply And.intro); focus omega) | (refine z8 hK ?_; clear hK; simp only [go_sem, *]) | simp only [z7, z6, go_sem, *])
    · (refine ⟨[_], [], [], ⟨rfl, trivial⟩, ?_⟩; simp only [go_sem, *])
    · exact i4 (i' := i + 1) [] [] (by rw [hnx]; exact ⟨by omega, hstep (by omega)⟩)
  · have hf : T9 l 0 := by
      have : k = 0 := by omega
      rw [this] at hP; exact hP
    rw [orderedB_iff.2 hf]
    clear hs hP hf
    repeat' (first | (refine Qr rfl ?_; try intro _ hK; try simp only [go_sem, *]) | refine Qh rfl ?_ | refine Qd rfl (by kernel_rfl) ?_ | (refine Qc rfl rfl ?_ ?_ <;> (intro hb; have hc := hb; try simp only [go_sem] at hc)) | refine q6 rfl ?_ | (refine Qb ?_ ?_; focus kernel_rfl) | ((with_reducible apply And.intro); focus omega) | (refine z8 hK ?_; clear hK; simp only [go_sem, *]) | simp only [z7, z6, go_sem, *])
    all_goals first | contradiction | omega | skip
    (refine ⟨[_], [], [], ⟨rfl, trivial⟩, ?_⟩; simp only [go_sem, *])
end Go.Abs

namespace Go.Abs
open Go Go.Proofs Tryz
attribute [local irreducible] q9 Hold y8
theorem zCh : ∀ {l : List Str}, r4 l = 0 → ∀ s, s ∈ l → ValidN s
 | [], _, s, h => by cases h
 | a :: r, e, s, h => by
  rw [r4] at e
  split at e
  ·rename_i ha
   rcases List.mem_cons.1 h with rfl | h
   ·exact checkN_zero.1 ha
   ·exact zCh e s h
  ·rename_i ha; exact absurd e ha
theorem E4 {l : List Str} (h : t8 l = 0) : l.length ≤ 6 := by
 unfold t8 at h
 split at h
 ·cases h
 ·omega
theorem I4 {l : List Str} (h : t8 l = 0) : ∀ s, s ∈ l → ValidN s := by
 unfold t8 at h
 split at h
 ·cases h
 ·exact zCh h
theorem zMR (l : List Str) (s : Str) (hl : l.length ≤ 4294967296) : zMf prog 63 [y4 l, sV s] [] (.tup [iV (W3 l s), iV (Y5 l s)]) [] := by
 have s1 := C8 l hl
 have s2 := C4 s
 by_cases q1 : t8 l = 0
 ·by_cases q2 : y9 s = 0
  ·have hv := I4 q1
   have hl6 := E4 q1
   have s3 := zDD l hv (by omega)
   by_cases q3 : l3 l = true
   ·have e1 : Y5 l s = 0 := by unfold Y5; rw [if_pos q1, if_pos q2, if_pos q3]
    have e2 : W3 l s = ((l.countP fun x => decide (x6 x s < 0) : Nat) : Int) := by unfold W3; rw [if_pos e1]
    rw [e1, e2]
    rw [q1] at s1
    rw [q2] at s2
    rw [q3] at s3
    have vs := checkN_zero.1 q2
    have s4 : ∀ i, i < l.length → zMf prog 96 [sV (l.getD i default), sV s] [] (iV (x6 (l.getD i default) s)) [] := fun i hi => C6 _ _ (hv _ (j3 hi)) vs
    clear q1 q2 q3 e1 e2 hv vs
    refine q7 func63 rfl (fun E hE => ?_); simp only [go_sem, ntmps63]
    repeat' (first | (refine Qr rfl ?_; try intro _ hK; try simp only [go_sem, *]) | refine Qh rfl ?_ | (refine Qc rfl rfl ?_ ?_ <;> (intro hb; have hc := hb; try simp only [go_sem] at hc)) | refine q6 rfl ?_ | ((first | refine q8 (s1) ?_ | refine q8 (s2) ?_ | refine q8 (s3) ?_); simp only [go_sem, *]) | ((with_reducible apply And.intro); focus omega) | (refine z8 hK ?_; clear hK; simp only [go_sem, *]) | simp only [z7, z6, go_sem, *])
    all_goals try contradiction
    refine a7 rfl (l.length) (fun i (n : Nat) => n = (l.take i).countP fun x => decide (x6 x s < 0)) 38 (fun i n => [(26, iV i), (25, iV l.length), (24, y4 l), (8, iV n), (1, sV s)]) (fun i n => []) [] [] (0) (by simp) ?_; intro i n hi hP
    by_cases hi2 : i < l.length
    ·have sc := s4 i hi2
     have hn : (l.take (i + 1)).countP (fun x => decide (x6 x s < 0)) = n + if x6 (l.getD i default) s < 0 then 1 else 0 := by
      rw [zDX hi2, List.countP_append, ← hP]; simp [List.countP_cons]
     have hw : IntKind.i64.wrap ((n : Int) + 1) = ((n + 1 : Nat) : Int) := r9 (by have := List.countP_le_length (p := fun x => decide (x6 x s < 0)) (l := l.take i); simp at this; omega)
     clear hP
     generalize x6 (l.getD i default) s = c at *
     repeat' (first | (refine Qr rfl ?_; try intro _ hK; try simp only [go_sem, *]) | refine Qh rfl ?_ | (refine Qc rfl rfl ?_ ?_ <;> (intro hb; have hc := hb; try simp only [go_sem] at hc)) | refine q6 rfl ?_ | (refine q8 (sc) ?_; simp only [go_sem, *]) | ((with_reducible apply And.intro); focus omega) | (refine z8 hK ?_; clear hK; simp only [go_sem, *]) | simp only [z7, z6, go_sem, *])
     ·rw [if_pos (by assumption)] at hn
      exact o7 (i' := i + 1) [] [] (n + 1) (by exact hn.symm)
     ·rw [if_neg (by omega)] at hn
      exact o7 (i' := i + 1) [] [] (n) (by exact hn.symm)
    ·rw [List.take_of_length_le (by omega)] at hP
     rw [← hP]
     clear hP
     repeat' (first | (refine Qr rfl ?_; try intro _ hK; try simp only [go_sem, *]) | refine Qh rfl ?_ | (refine Qc rfl rfl ?_ ?_ <;> (intro hb; have hc := hb; try simp only [go_sem] at hc)) | refine q6 rfl ?_ | ((with_reducible apply And.intro); focus omega) | (refine z8 hK ?_; clear hK; simp only [go_sem, *]) | simp only [z7, z6, go_sem, *])
     (refine ⟨[_, _], [], [], ⟨rfl, rfl, trivial⟩, ?_⟩; simp only [go_sem, *])
   ·have q4 : l3 l = false := by simpa using q3
    have e1 : Y5 l s = 5 := by unfold Y5; rw [if_pos q1, if_pos q2, if_neg q3]
    have e2 : W3 l s = 0 := by unfold W3; rw [e1]; rfl
    rw [e1, e2]
    rw [q1] at s1
    rw [q2] at s2
    rw [q4] at s3
    clear q1 q2 q3 q4 e1 e2 hv
    refine q7 func63 rfl (fun E hE => ?_); simp only [go_sem, ntmps63]
    repeat' (first | (refine Qr rfl ?_; try intro _ hK; try simp only [go_sem, *]) | refine Qh rfl ?_ | (refine Qc rfl rfl ?_ ?_ <;> (intro hb; have hc := hb; try simp only [go_sem] at hc)) | refine q6 rfl ?_ | ((first | refine q8 (s1) ?_ | refine q8 (s2) ?_ | refine q8 (s3) ?_); simp only [go_sem, *]) | ((with_reducible apply And.intro); focus omega) | (refine z8 hK ?_; clear hK; simp only [go_sem, *]) | simp only [z7, z6, go_sem, *])
    all_goals try contradiction
    (refine ⟨[_, _], [], [], ⟨rfl, rfl, trivial⟩, ?_⟩; simp only [go_sem, *])
  ·have e1 : Y5 l s = y9 s := by unfold Y5; rw [if_pos q1, if_neg q2]
   have e2 : W3 l s = 0 := by unfold W3; rw [e1, if_neg q2]
   rw [e1, e2]
   rw [q1] at s1
   clear q1 e1 e2
   generalize y9 s = e at *
   refine q7 func63 rfl (fun E hE => ?_); simp only [go_sem, ntmps63]
   repeat' (first | (refine Qr rfl ?_; try intro _ hK; try simp only [go_sem, *]) | refine Qh rfl ?_ | (refine Qc rfl rfl ?_ ?_ <;> (intro hb; have hc := hb; try simp only [go_sem] at hc)) | refine q6 rfl ?_ | ((first | refine q8 (s1) ?_ | refine q8 (s2) ?_); simp only [go_sem, *]) | ((with_reducible apply And.intro); focus omega) | (refine z8 hK ?_; clear hK; simp only [go_sem, *]) | simp only [z7, z6, go_sem, *])
   all_goals try contradiction
   (refine ⟨[_, _], [], [], ⟨rfl, rfl, trivial⟩, ?_⟩; simp only [go_sem, *])
 ·have e1 : Y5 l s = t8 l := by unfold Y5; rw [if_neg q1]
  have e2 : W3 l s = 0 := by unfold W3; rw [e1, if_neg q1]
  rw [e1, e2]
  clear s2 e1 e2
  generalize t8 l = e at *
  refine q7 func63 rfl (fun E hE => ?_); simp only [go_sem, ntmps63]
  repeat' (first | (refine Qr rfl ?_; try intro _ hK; try simp only [go_sem, *]) | refine Qh rfl ?_ | (refine Qc rfl rfl ?_ ?_ <;> (intro hb; have hc := hb; try simp only [go_sem] at hc)) | refine q6 rfl ?_ | (refine q8 (s1) ?_; simp only [go_sem, *]) | ((with_reducible apply And.intro); focus omega) | (refine z8 hK ?_; clear hK; simp only [go_sem, *]) | simp only [z7, z6, go_sem, *])
  all_goals try contradiction
  (refine ⟨[_, _], [], [], ⟨rfl, rfl, trivial⟩, ?_⟩; simp only [go_sem, *])
end Go.Abs

namespace Go.Abs
open Go Go.Proofs Tryz
attribute [local irreducible] q9 Hold y8
abbrev nV (n : Nat) : AV := iV (n : Int)
theorem zGi (cf : Nat → Nat → Int) (xs : List Nat) : xs = o5 cf (xs.take 1) ++ xs.drop 1 := by
 cases xs with
 | nil => rfl
 | cons x r => simp [o5, zMt, zNF]
def zNh (cf : Nat → Nat → Int) (xs cur : List Nat) (i : Nat) : Prop := cur = o5 cf (xs.take (i + 1)) ++ xs.drop (i + 1)
theorem zIU (l : List Str) (hv : ∀ s, s ∈ l → ValidN s) (a b : Nat) (ha : a < l.length) (hb' : b < l.length) : zMf prog 107 [nV a, nV b, .ptr 0 0] [.box [y4 l]] (iV (x6 (l.getD a []) (l.getD b []))) [.box [y4 l]] := by
 have sc := C6 _ _ (hv _ (j3 ha)) (hv _ (j3 hb'))
 have e : x6 (l.getD a []) (l.getD b []) = x6 (l.getD a default) (l.getD b default) := rfl
 rw [e]
 clear e
 generalize x6 (l.getD a default) (l.getD b default) = r at *
 refine q7 func107 rfl (fun E hE => ?_); simp only [go_sem, ntmps107]
 repeat' (first | (refine Qr rfl ?_; try intro _ hK; try simp only [go_sem, *]) | refine Qh rfl ?_ | refine Qd rfl (by kernel_rfl) ?_ | (refine Qc rfl rfl ?_ ?_ <;> (intro hb; have hc := hb; try simp only [go_sem] at hc)) | refine q6 rfl ?_ | (refine Qb ?_ ?_; focus kernel_rfl) | (refine q8 (sc) ?_; simp only [go_sem, *]) | ((with_reducible apply And.intro); focus omega) | (refine z8 hK ?_; clear hK; simp only [go_sem, *]) | simp only [z7, z6, go_sem, *])
 refine ⟨[_], [some 0], [], ⟨rfl, trivial⟩, ?_⟩
 simp only [go_sem, *]
theorem zIC (l : List Str) (hv : ∀ s, s ∈ l → ValidN s) (xs : List Nat) (h1 : xs.length ≤ 20) (hx : ∀ x, x ∈ xs → x < l.length) :
  zMf prog 154 [.own 0 1 0 xs.length, iV 0, iV xs.length, .fn 107 [.ptr 1 0]] [.row 1 (xs.map nV), .box [y4 l]] (.tup []) [.row 1 ((o5 (cfI l) xs).map nV), .box [y4 l]] := by
 have hca : u9 prog 107 = true := by kernel_rfl
 have hf : ∀ a b : Nat, a < l.length → b < l.length → zMf prog 107 [nV a, nV b, .ptr 0 0] [.box [y4 l]] (iV (cfI l a b)) [.box [y4 l]] := fun a b h1 h2 => zIU l hv a b h1 h2
 clear hv
 refine q7 func154 rfl (fun E hE => ?_); simp only [go_sem, ntmps154]
 have hw0 : IntKind.i64.wrap 1 = (1 : Int) := wrap_i64 (by omega) (by omega)
 repeat' (first | (refine Qr rfl ?_; try intro _ hK; try simp only [go_sem, *]) | (refine Qi rfl rfl rfl rfl ?_ ?_ <;> (intro hb; (try intro _ hK); have hc := hb; try simp only [go_sem] at hc; simp only [go_sem, *])) | refine Qh rfl ?_ | refine Qd rfl (by kernel_rfl) ?_ | (refine Qc rfl rfl ?_ ?_ <;> (intro hb; have hc := hb; try simp only [go_sem] at hc)) | refine q6 rfl ?_ | (refine Qb ?_ ?_; focus kernel_rfl) | ((with_reducible apply And.intro); focus omega) | (refine z8 hK ?_; clear hK; simp only [go_sem, *]) | simp only [z7, z6, go_sem, *])
 refine a7 rfl (xs.length) (fun i (cur : List Nat) => zNh (cfI l) xs cur i) 53 (fun i cur => [(8, iV ((i : Int) + 1)), (0, .own 0 1 0 xs.length), (1, iV 0), (2, iV xs.length), (3, .fn 107 [.ptr 1 0])]) (fun i cur => [.row 1 (cur.map nV), .box [y4 l]]) [some 0, some 1] [] (xs) (by exact zGi (cfI l) xs) ?_; intro i cur hi hP
 have hw : i < xs.length → IntKind.i64.wrap ((i : Int) + 1 + 1) = (((i + 1 : Nat) : Int) + 1) := fun h => by rw [wrap_i64 (by omega) (by omega)]; omega
 have hcm : ((i : Int) + 1 < (xs.length : Int)) = (i + 1 < xs.length) := by simp only [eq_iff_iff]; omega
 repeat' (first | (refine Qr rfl ?_; try intro _ hK; try simp only [go_sem, *]) | (refine Qi rfl rfl rfl rfl ?_ ?_ <;> (intro hb; (try intro _ hK); have hc := hb; try simp only [go_sem] at hc; simp only [go_sem, *])) | refine Qh rfl ?_ | refine Qd rfl (by kernel_rfl) ?_ | (refine Qc rfl rfl ?_ ?_ <;> (intro hb; have hc := hb; try simp only [go_sem] at hc)) | refine q6 rfl ?_ | (refine Qb ?_ ?_; focus kernel_rfl) | ((with_reducible apply And.intro); focus omega) | (refine z8 hK ?_; clear hK; simp only [go_sem, *]) | simp only [z7, z6, go_sem, *])
 ·have hlt : i + 1 < xs.length := by assumption
  have hlt' : i < xs.length := by omega
  obtain ⟨S, hS⟩ : ∃ S, S = o5 (cfI l) (xs.take (i + 1)) := ⟨_, rfl⟩
  have hSl : S.length = i + 1 := by rw [hS, zCG]; simp; try omega
  obtain ⟨x, hxx⟩ : ∃ x, x = xs.getD (i + 1) default := ⟨_, rfl⟩
  obtain ⟨R, hR⟩ : ∃ R, R = xs.drop (i + 1 + 1) := ⟨_, rfl⟩
  have hxl : x < l.length := by rw [hxx]; exact hx _ (j3 hlt)
  have hSm : ∀ k, k < S.length → S.getD k default < l.length := fun k hk => by
   have h2 : S.getD k default ∈ S := j3 hk
   rw [hS] at h2
   have h3 := (E0 (cfI l) (xs.take (i + 1))).mem_iff.1 h2
   rw [← hS] at h3
   exact hx _ (List.mem_of_mem_take h3)
  have hcur : cur = S ++ x :: R := by
   unfold zNh at hP
   rw [hP, hS, hxx, hR, o3 hlt]
  have hfin : zMt (cfI l) S x ++ R = o5 (cfI l) (xs.take (i + 1 + 1)) ++ xs.drop (i + 1 + 1) := by
   rw [hS, hxx, hR, zDX hlt, zCI]
  have hst : InsP (cfI l) S x R cur 0 := by rw [hcur]; exact InsP.start (cfI l) S x R
  have hRl : R.length = xs.length - (i + 2) := by rw [hR]; simp; try omega
  clear hS hxx hR hcur hP
  refine a7 rfl (i + 1) (fun d (cur : List Nat) => InsP (cfI l) S x R cur d) 53 (fun d cur => [(9, iV (((i + 1) - d : Nat) : Int)), (8, iV ((i : Int) + 1)), (0, .own 0 1 0 xs.length), (1, iV 0), (2, iV xs.length), (3, .fn 107 [.ptr 1 0])]) (fun d cur => [.row 1 (cur.map nV), .box [y4 l]]) [some 0, some 1] [] (cur) (by exact hst) ?_; intro d cur hd hQ
  have hcl : cur.length = xs.length := by rw [hQ.1, zEZ]; omega
  have gx : cur.getD (i + 1 - d) default = x := by rw [hQ.1, ← hSl]; exact zEb S x R (by omega)
  have gy : d < i + 1 → cur.getD (i + 1 - d - 1) default = S.getD (i + 1 - d - 1) default := fun h => by rw [hQ.1, ← hSl]; exact zEc S x R (by omega)
  have hwk : 0 < i + 1 - d → IntKind.i64.wrap (((i + 1 - d : Nat) : Int) - 1) = ((i + 1 - d - 1 : Nat) : Int) := fun h => by rw [wrap_i64 (by omega) (by omega)]; omega
  have hnx : i + 1 - (d + 1) = i + 1 - d - 1 := by omega
  have hkl : i + 1 - d < xs.length := by omega
  have hkl1 : i + 1 - d - 1 < xs.length := by omega
  have hd1 : 0 < i + 1 - d → d < i + 1 := fun h => by omega
  by_cases hd2 : d < i + 1
  ·have sf := hf x (S.getD (i + 1 - d - 1) default) hxl (hSm _ (by omega))
   have gy2 := gy hd2
   clear hf gy
   repeat' (first | (refine Qr rfl ?_; try intro _ hK; try simp only [go_sem, *]) | (refine Qi rfl rfl rfl rfl ?_ ?_ <;> (intro hb; (try intro _ hK); have hc := hb; try simp only [go_sem] at hc; simp only [go_sem, *])) | refine Qh rfl ?_ | refine Qd rfl (by kernel_rfl) ?_ | (refine Qc rfl rfl ?_ ?_ <;> (intro hb; have hc := hb; try simp only [go_sem] at hc)) | refine q6 rfl ?_ | (refine Qb ?_ ?_; focus kernel_rfl) | (refine v6 [1] (sf) ?_; simp only [go_sem, *]) | ((with_reducible apply And.intro); focus omega) | (refine z8 hK ?_; clear hK; simp only [go_sem, *]) | simp only [z7, z6, go_sem, *])
   all_goals try (exfalso; omega)
   ·exact o7 (i' := d + 1) [some 0, some 1] [] ((cur.set (i + 1 - d) (S.getD (i + 1 - d - 1) default)).set (i + 1 - d - 1) x) (by have := InsP.next (cfI l) hQ (by omega) (by rw [hSl]; assumption); rwa [hSl] at this)
   ·have hs := InsP.stop (cfI l) hQ (by omega) (fun _ => by rw [hSl]; omega)
    exact o7 (i' := i + 1) [some 0, some 1] [] (cur) (by rw [hs]; exact hfin)
  ·have hs := InsP.stop (cfI l) hQ (by omega) (fun h => by omega)
   clear hf gy
   repeat' (first | (refine Qr rfl ?_; try intro _ hK; try simp only [go_sem, *]) | (refine Qi rfl rfl rfl rfl ?_ ?_ <;> (intro hb; (try intro _ hK); have hc := hb; try simp only [go_sem] at hc; simp only [go_sem, *])) | refine Qh rfl ?_ | refine Qd rfl (by kernel_rfl) ?_ | (refine Qc rfl rfl ?_ ?_ <;> (intro hb; have hc := hb; try simp only [go_sem] at hc)) | refine q6 rfl ?_ | (refine Qb ?_ ?_; focus kernel_rfl) | ((with_reducible apply And.intro); focus omega) | (refine z8 hK ?_; clear hK; simp only [go_sem, *]) | simp only [z7, z6, go_sem, *])
   all_goals try (exfalso; omega)
   exact o7 (i' := i + 1) [some 0, some 1] [] (cur) (by rw [hs]; exact hfin)
 ·refine ⟨[], [some 0, some 1], [], trivial, ?_⟩
  have e1 : xs.take (i + 1) = xs := List.take_of_length_le (by omega)
  have e2 : xs.drop (i + 1) = [] := f5 (by omega)
  unfold zNh at hP
  rw [e1, e2, List.append_nil] at hP
  rw [hP]
  simp only [go_sem, i6, *]
end Go.Abs

namespace Go.Abs
open Go Go.Proofs Tryz
attribute [local irreducible] q9 Hold y8
attribute [go_sem] List.length_range
theorem zIV (l : List Str) (hv : ∀ s, s ∈ l → ValidN s) (xs : List Nat) (h1 : xs.length ≤ 6) (hx : ∀ x, x ∈ xs → x < l.length) :
  zMf prog 133 [.own 0 1 0 xs.length, iV xs.length, .fn 107 [.ptr 1 0]] [.row 1 (xs.map nV), .box [y4 l]] (.tup []) [.row 1 ((o5 (cfI l) xs).map nV), .box [y4 l]] := by
 have si := zIC l hv xs (by omega) hx
 have hli : ((o5 (cfI l) xs).map nV).length = xs.length := by simp [zCG]
 generalize o5 (cfI l) xs = ys at *
 clear hv hx
 have g1 : ¬ ((20 : Int) ≤ (xs.length : Int)) := by omega
 have g2 : ¬ ((20 : Int) < (xs.length : Int)) := by omega
 have g3 : IntKind.i64.wrap ((20 : Int) + 20) = 40 := by decide
 refine q7 func133 rfl (fun E hE => ?_); simp only [go_sem, ntmps133]
 repeat' (first | (refine Qr rfl ?_; try intro _ hK; try simp only [go_sem, *]) | refine Qh rfl ?_ | (refine Qc rfl rfl ?_ ?_ <;> (intro hb; have hc := hb; try simp only [go_sem] at hc)) | refine q6 rfl ?_ | ((with_reducible apply And.intro); focus omega) | (refine z8 hK ?_; clear hK; simp only [go_sem, *]) | simp only [z7, z6, go_sem, *])
 refine o6 rfl (1) (fun i => NoQ i) 63 (fun i => [(8, iV 20), (7, iV 0), (6, iV 20), (0, .own 0 1 0 xs.length), (1, iV xs.length), (2, .fn 107 [.ptr 1 0])]) (fun i => [.row 1 (xs.map nV), .box [y4 l]]) [some 0, some 1] [] (by trivial) ?_; intro i hi hP
 repeat' (first | (refine Qr rfl ?_; try intro _ hK; try simp only [go_sem, *]) | refine Qh rfl ?_ | (refine Qc rfl rfl ?_ ?_ <;> (intro hb; have hc := hb; try simp only [go_sem] at hc)) | refine q6 rfl ?_ | (refine v6 [0, 1] (si) ?_; simp only [go_sem, *]) | ((with_reducible apply And.intro); focus omega) | (refine z8 hK ?_; clear hK; simp only [go_sem, *]) | simp only [z7, z6, go_sem, *])
 all_goals try (exfalso; omega)
 refine o6 rfl (1) (fun i => NoQ i) 63 (fun i => [(6, iV 20), (0, .own 0 1 0 xs.length), (1, iV xs.length), (2, .fn 107 [.ptr 1 0])]) (fun i => [.row 1 (ys.map nV), .box [y4 l]]) [some 0, some 1] [] (by trivial) ?_; intro i hi hP
 repeat' (first | (refine Qr rfl ?_; try intro _ hK; try simp only [go_sem, *]) | refine Qh rfl ?_ | (refine Qc rfl rfl ?_ ?_ <;> (intro hb; have hc := hb; try simp only [go_sem] at hc)) | refine q6 rfl ?_ | ((with_reducible apply And.intro); focus omega) | (refine z8 hK ?_; clear hK; simp only [go_sem, *]) | simp only [z7, z6, go_sem, *])
 all_goals try (exfalso; omega)
 refine ⟨[], [some 0, some 1], [], trivial, ?_⟩
 simp only [go_sem, i6, *]
theorem zHs (l : List Str) (hv : ∀ s, s ∈ l → ValidN s) (xs : List Nat) (h1 : xs.length ≤ 6) (hx : ∀ x, x ∈ xs → x < l.length) :
  zMf prog 106 [.own 0 1 0 xs.length, .fn 107 [.ptr 1 0]] [.row 1 (xs.map nV), .box [y4 l]] (.tup []) [.row 1 ((o5 (cfI l) xs).map nV), .box [y4 l]] := by
 have si := zIV l hv xs h1 hx
 generalize o5 (cfI l) xs = ys at *
 clear hv hx
 refine q7 func106 rfl (fun E hE => ?_); simp only [go_sem, ntmps106]
 repeat' (first | (refine Qr rfl ?_; try intro _ hK; try simp only [go_sem, *]) | refine Qh rfl ?_ | (refine Qc rfl rfl ?_ ?_ <;> (intro hb; have hc := hb; try simp only [go_sem] at hc)) | refine q6 rfl ?_ | (refine v6 [0, 1] (si) ?_; simp only [go_sem, *]) | ((with_reducible apply And.intro); focus omega) | (refine z8 hK ?_; clear hK; simp only [go_sem, *]) | simp only [z7, z6, go_sem, *])
 refine ⟨[], [some 0, some 1], [], trivial, ?_⟩
 simp only [go_sem, i6, *]
theorem zHt (l : List Str) (q : t8 l = 0) : zMf prog 62 [y4 l] [] (.tup [.own 0 1 0 l.length, iV 0]) [.row 1 ((P3 l).map nV)] := by
 have hv := I4 q
 have h6 := E4 q
 have s1 := C8 l (by omega)
 rw [q] at s1
 have ss := zHs l hv (List.range l.length) (by simpa using h6) (fun x hx => List.mem_range.1 hx)
 rw [List.length_range] at ss
 have e : o5 (cfI l) (List.range l.length) = P3 l := rfl
 rw [e] at ss
 have hsl := zHS l
 generalize P3 l = ys at *
 clear hv q e
 refine q7 func62 rfl (fun E hE => ?_); simp only [go_sem, ntmps62]
 repeat' (first | (refine Qr rfl ?_; try intro _ hK; try simp only [go_sem, *]) | refine Qh rfl ?_ | (refine Qc rfl rfl ?_ ?_ <;> (intro hb; have hc := hb; try simp only [go_sem] at hc)) | refine q6 rfl ?_ | (refine q8 (s1) ?_; simp only [go_sem, *]) | ((with_reducible apply And.intro); focus omega) | (refine z8 hK ?_; clear hK; simp only [go_sem, *]) | simp only [z7, z6, go_sem, *])
 all_goals try contradiction
 refine o6 rfl (l.length) (fun i => NoQ i) 26 (fun i => [(14, iV i), (13, iV l.length), (5, .own 1 1 0 i), (1, .ptr 0 0)]) (fun i => [.box [y4 l], .row 1 ((List.range i).map nV)]) [some 0, none] [] (by trivial) ?_; intro i hi hP
 by_cases hi2 : i < l.length
 ·clear ss
  repeat' (first | (refine Qr rfl ?_; try intro _ hK; try simp only [go_sem, *]) | refine Qh rfl ?_ | (refine Qc rfl rfl ?_ ?_ <;> (intro hb; have hc := hb; try simp only [go_sem] at hc)) | refine q6 rfl ?_ | ((with_reducible apply And.intro); focus omega) | (refine z8 hK ?_; clear hK; simp only [go_sem, *]) | simp only [z7, z6, go_sem, *])
  exact i4 (i' := i + 1) [some 0, some 3] [] (by trivial)
 ·have e : i = l.length := by omega
  subst e
  repeat' (first | (refine Qr rfl ?_; try intro _ hK; try simp only [go_sem, *]) | refine Qh rfl ?_ | (refine Qc rfl rfl ?_ ?_ <;> (intro hb; have hc := hb; try simp only [go_sem] at hc)) | refine q6 rfl ?_ | (refine v6 [1, 0] (ss) ?_; simp only [go_sem, *]) | ((with_reducible apply And.intro); focus omega) | (refine z8 hK ?_; clear hK; simp only [go_sem, *]) | simp only [z7, z6, go_sem, *])
  refine ⟨[_, _], [some 1], [], ⟨rfl, rfl, trivial⟩, ?_⟩
  simp only [go_sem, *]
end Go.Abs

namespace Go.Abs
open Go Go.Proofs Tryz
attribute [local irreducible] q9 Hold y8
theorem zIG (r : Int) : zMf prog 145 [.raw (.int .i32 r)] [] (bV (Z9 r != 1)) [] := by
 have sk := C7 r
 generalize Z9 r = k at *
 refine q7 func145 rfl (fun E hE => ?_); simp only [go_sem, ntmps145]
 repeat' (first | (refine Qr rfl ?_; try intro _ hK; try simp only [go_sem, *]) | refine Qh rfl ?_ | (refine Qc rfl rfl ?_ ?_ <;> (intro hb; have hc := hb; try simp only [go_sem] at hc)) | refine q6 rfl ?_ | (refine q8 (sk) ?_; simp only [go_sem, *]) | ((with_reducible apply And.intro); focus omega) | (refine z8 hK ?_; clear hK; simp only [go_sem, *]) | simp only [z7, z6, go_sem, *])
 (refine ⟨[_], [], [], ⟨rfl, trivial⟩, ?_⟩; simp only [go_sem, *])
theorem zIB (s : Str) (hl : s.length ≤ 4294967296) : ∃ n : Int, (0 ≤ n ↔ s.all y7 = false) ∧ zMf prog 189 [sV s, fnV 145, bV true] [] (iV n) [] := by
  have hca : u9 prog 145 = true := by kernel_rfl
  obtain ⟨k, hk⟩ : ∃ k : Nat, k = (s.takeWhile y7).length := ⟨_, rfl⟩
  have hkl : k ≤ s.length := by rw [hk]; exact (List.takeWhile_sublist _).length_le
  have hin : ∀ i, i < k → y7 (s.getD i 0) = true := fun i hi => by
    have h1 : i < (s.takeWhile y7).length := by omega
    have h2 := List.all_eq_true.1 (List.all_takeWhile (p := y7) (l := s)) _ (List.getElem_mem h1)
    have h3 : (s.takeWhile y7)[i] = s[i]'(by omega) := List.IsPrefix.getElem (List.takeWhile_prefix _) h1
    rw [h3] at h2
    simpa [List.getD, show i < s.length by omega] using h2
  have hout : k < s.length → y7 (s.getD k 0) = false := fun h => by
    have h1 : s.dropWhile y7 ≠ [] := fun e => by
      have := congrArg List.length (List.takeWhile_append_dropWhile (p := y7) (l := s))
      rw [List.length_append, e] at this
      simp at this; omega
    have h2 := List.head_dropWhile_not (p := y7) h1
    have h3 : (s.dropWhile y7).head h1 = s.getD k 0 := by
      have h4 : s = s.takeWhile y7 ++ s.dropWhile y7 := (List.takeWhile_append_dropWhile).symm
      have h5 : s.getD k 0 = (s.takeWhile y7 ++ s.dropWhile y7).getD k 0 := by rw [← h4]
      rw [h5, hk]
      generalize s.takeWhile y7 = tw
      generalize s.dropWhile y7 = dw at h1
      cases dw with
      | nil => exact absurd rfl h1
      | cons a r => simp
    rw [h3] at h2
    exact h2
  refine ⟨if k < s.length then (k : Int) else -1, ?_, ?_⟩
  · by_cases h : k < s.length
    · rw [if_pos h]
      refine ⟨fun _ => ?_, fun _ => by omega⟩
      rw [List.all_eq_false]
      refine ⟨s.getD k 0, ?_, by rw [hout h]; simp⟩
      simp [List.getD, h]
    · rw [if_neg h]
      refine ⟨fun h => by omega, fun hf => ?_⟩
      rw [List.all_eq_false] at hf
      obtain ⟨x, hx, hn⟩ := hf
      obtain ⟨i, hi, rfl⟩ := List.getElem_of_mem hx
      have := hin i (by omega)
      rw [show s.getD i 0 = s[i] by simp [List.getD, hi]] at this
      exact absurd this hn
  · have hwv : ∀ i, i < s.length → (i < k → x7 (s.getD i 0) = 1) ∧ (i = k → x7 (s.getD i 0) ≠ 1) := fun i hi => ⟨fun h => latin_kind.1 (hin i h), fun h => by
      subst h
      intro e
      have := latin_kind.2 e
      rw [hout hi] at this; cases this⟩
    clear hk hin hout
    refine q7 func189 rfl (fun E hE => ?_); simp only [go_sem, ntmps189]
    repeat' (first | (refine Qr rfl ?_; try intro _ hK; try simp only [go_sem, *]) | refine Qh rfl ?_ | (refine Qc rfl rfl ?_ ?_ <;> (intro hb; have hc := hb; try simp only [go_sem] at hc)) | refine q6 rfl ?_ | ((with_reducible apply And.intro); focus omega) | (refine z8 hK ?_; clear hK; simp only [go_sem, *]) | simp only [z7, z6, go_sem, *])
    refine o6 rfl (s.length) (fun i => i ≤ k) 21 (fun i => [(10, .ptr 0 0), (1, fnV 145), (2, bV true)]) (fun i => [.siter ⟨s.toArray⟩ i]) [some 0] [] (by omega) ?_; intro i hi hP
    by_cases hi2 : i < s.length
    · obtain ⟨r1, r2⟩ := zC6 s hi2
      obtain ⟨w1, w2⟩ := hwv i hi2
      have sk := zIG ((Utf8.decode ⟨s.toArray⟩ i).1 : Int)
      rw [r1] at sk
      generalize hde : Utf8.decode ⟨s.toArray⟩ i = d at *
      obtain ⟨d1, d2⟩ := d
      simp only at r2 sk
      clear r1 hwv
      by_cases hik : i < k
      · have e1 := w1 hik
        rw [e1] at sk r2
        have e2 := r2 (by decide)
        subst e2
        have e3 : ((1 : Int) != 1) = false := by decide
        rw [e3] at sk
        clear r2 w1 w2 e1 e3
        repeat' (first | (refine Qr rfl ?_; try intro _ hK; try simp only [go_sem, *]) | refine Qh rfl ?_ | (refine Qc rfl rfl ?_ ?_ <;> (intro hb; have hc := hb; try simp only [go_sem] at hc)) | refine q6 rfl ?_ | (refine q8 (sk) ?_; simp only [go_sem, *]) | ((with_reducible apply And.intro); focus omega) | (refine z8 hK ?_; clear hK; simp only [go_sem, *]) | simp only [z7, z6, go_sem, *])
        all_goals try contradiction
        exact i4 (i' := i + 1) [some 0] [] (by omega)
      · have e1 := w2 (by omega)
        have e3 : (x7 (s.getD i 0) != 1) = true := by simpa using e1
        rw [e3] at sk
        have e4 : k < s.length := by omega
        have e5 : i = k := by omega
        rw [if_pos e4]
        subst e5
        clear r2 w1 w2 e1 e3
        repeat' (first | (refine Qr rfl ?_; try intro _ hK; try simp only [go_sem, *]) | refine Qh rfl ?_ | (refine Qc rfl rfl ?_ ?_ <;> (intro hb; have hc := hb; try simp only [go_sem] at hc)) | refine q6 rfl ?_ | (refine q8 (sk) ?_; simp only [go_sem, *]) | ((with_reducible apply And.intro); focus omega) | (refine z8 hK ?_; clear hK; simp only [go_sem, *]) | simp only [z7, z6, go_sem, *])
        all_goals try contradiction
        (refine ⟨[_], [], [], ⟨rfl, trivial⟩, ?_⟩; simp only [go_sem, *])
    · have e4 : ¬ k < s.length := by omega
      rw [if_neg e4]
      clear hwv
      repeat' (first | (refine Qr rfl ?_; try intro _ hK; try simp only [go_sem, *]) | refine Qh rfl ?_ | (refine Qc rfl rfl ?_ ?_ <;> (intro hb; have hc := hb; try simp only [go_sem] at hc)) | refine q6 rfl ?_ | ((with_reducible apply And.intro); focus omega) | (refine z8 hK ?_; clear hK; simp only [go_sem, *]) | simp only [z7, z6, go_sem, *])
      (refine ⟨[_], [], [], ⟨rfl, trivial⟩, ?_⟩; simp only [go_sem, *])
theorem zHm (s : Str) (hl : s.length ≤ 4294967296) : ∃ n : Int, (0 ≤ n ↔ s.all y7 = false) ∧ zMf prog 169 [sV s, fnV 145] [] (iV n) [] := by
 obtain ⟨n, hn, si⟩ := zIB s hl
 refine ⟨n, hn, ?_⟩
 clear hn
 refine q7 func169 rfl (fun E hE => ?_); simp only [go_sem, ntmps169]
 repeat' (first | (refine Qr rfl ?_; try intro _ hK; try simp only [go_sem, *]) | refine Qh rfl ?_ | (refine Qc rfl rfl ?_ ?_ <;> (intro hb; have hc := hb; try simp only [go_sem] at hc)) | refine q6 rfl ?_ | (refine q8 (si) ?_; simp only [go_sem, *]) | ((with_reducible apply And.intro); focus omega) | (refine z8 hK ?_; clear hK; simp only [go_sem, *]) | simp only [z7, z6, go_sem, *])
 (refine ⟨[_], [], [], ⟨rfl, trivial⟩, ?_⟩; simp only [go_sem, *])
theorem zHg (s : Str) (hl : s.length ≤ 4294967296) : zMf prog 144 [sV s, fnV 145] [] (bV (!s.all y7)) [] := by
 obtain ⟨n, hn, si⟩ := zHm s hl
 have e : (!s.all y7) = decide (n ≥ 0) := by
  rw [Bool.eq_iff_iff, Bool.not_eq_true', decide_eq_true_eq]; exact hn.symm
 rw [e]
 clear hn e
 refine q7 func144 rfl (fun E hE => ?_); simp only [go_sem, ntmps144]
 repeat' (first | (refine Qr rfl ?_; try intro _ hK; try simp only [go_sem, *]) | refine Qh rfl ?_ | (refine Qc rfl rfl ?_ ?_ <;> (intro hb; have hc := hb; try simp only [go_sem] at hc)) | refine q6 rfl ?_ | (refine q8 (si) ?_; simp only [go_sem, *]) | ((with_reducible apply And.intro); focus omega) | (refine z8 hK ?_; clear hK; simp only [go_sem, *]) | simp only [z7, z6, go_sem, *])
 (refine ⟨[_], [], [], ⟨rfl, trivial⟩, ?_⟩; simp only [go_sem, *])
theorem zAx (s : Str) (lo hi : Nat) (hl : s.length ≤ 4294967296) : zMf prog 123 [sV s, iV lo, iV hi] [] (bV (x5 s lo hi)) [] := by
 have sc := zHg s hl
 have e : x5 s lo hi = (decide ((lo : Int) ≤ s.length) && (decide ((s.length : Int) ≤ hi) && s.all y7)) := by unfold x5; simp
 rw [e]
 generalize s.all y7 = b at *
 clear e
 refine q7 func123 rfl (fun E hE => ?_); simp only [go_sem, ntmps123]
 repeat' (first | (refine Qr rfl ?_; try intro _ hK; try simp only [go_sem, *]) | (refine Qi rfl rfl rfl rfl ?_ ?_ <;> (intro hb; (try intro _ hK); have hc := hb; try simp only [go_sem] at hc; simp only [go_sem, *])) | refine Qh rfl ?_ | (refine Qc rfl rfl ?_ ?_ <;> (intro hb; have hc := hb; try simp only [go_sem] at hc)) | refine q6 rfl ?_ | (refine q8 (sc) ?_; simp only [go_sem, *]) | ((with_reducible apply And.intro); focus omega) | (refine z8 hK ?_; clear hK; simp only [go_sem, *]) | simp only [z7, z6, go_sem, *])
 all_goals try contradiction
 all_goals (refine ⟨[_], [], [], ⟨rfl, trivial⟩, ?_⟩; simp only [go_sem, *])
 all_goals simp_all
end Go.Abs

namespace Go.Abs
open Go Go.Proofs Tryz
attribute [local irreducible] q9 Hold y8
abbrev w4 (l : List Rule) : AV := .list (l.map Rule.enc)
attribute [go_sem] Rule.enc
theorem zG8 {l : List Rule} {i : Nat} (h : i < l.length) : (l.drop i).all Rule.ok = ((l.getD i default).ok && (l.drop (i + 1)).all Rule.ok) := by
 rw [o3 h, List.all_cons]
theorem zG5 (r : Rule) : r.ok = (x5 r.src 1 2 && (x5 r.dst 0 2 && !(r.src == r.dst))) := by
 unfold Rule.ok
 rw [Bool.eq_iff_iff]
 simp
theorem zIQ (l : List Rule) (hl : l.length ≤ 4294967296) (hr : ∀ r, r ∈ l → r.src.length ≤ 4294967296 ∧ r.dst.length ≤ 4294967296) : zMf prog 86 [w4 l] [] (iV (r8 l)) [] := by
 have e0 : 4 < l.length → r8 l = 6 := fun h => by unfold r8; rw [if_pos h]
 have e1 : l.length ≤ 4 → r8 l = if l.all Rule.ok = true then 0 else 2 := fun h => by unfold r8; rw [if_neg (by omega)]
 generalize r8 l = re at *
 refine q7 func86 rfl (fun E hE => ?_); simp only [go_sem, ntmps86]
 repeat' (first | (refine Qr rfl ?_; try intro _ hK; try simp only [go_sem, *]) | (refine Qi rfl rfl rfl rfl ?_ ?_ <;> (intro hb; (try intro _ hK); have hc := hb; try simp only [go_sem] at hc; simp only [go_sem, *])) | refine Qh rfl ?_ | (refine Qc rfl rfl ?_ ?_ <;> (intro hb; have hc := hb; try simp only [go_sem] at hc)) | refine q6 rfl ?_ | ((with_reducible apply And.intro); focus omega) | (refine z8 hK ?_; clear hK; simp only [go_sem, *]) | simp only [z7, z6, go_sem, *])
 ·(refine ⟨[_], [], [], ⟨rfl, trivial⟩, ?_⟩; simp only [go_sem, *])
  rw [e0 (by omega)]
 ·have e2 := e1 (by omega)
  rw [e2]
  clear e0 e1 e2
  refine o6 rfl (l.length) (fun i => (l.drop i).all Rule.ok = l.all Rule.ok) 32 (fun i => [(10, iV i), (9, iV l.length), (8, w4 l)]) (fun i => []) [] [] (by simp) ?_; intro i hi hP
  by_cases hi2 : i < l.length
  ·have hs := zG8 hi2
   rw [zG5] at hs
   have hrl := hr _ (j3 hi2)
   have s1 := zAx (l.getD i default).src 1 2 hrl.1
   have s2 := zAx (l.getD i default).dst 0 2 hrl.2
   generalize x5 (l.getD i default).src 1 2 = b1 at *
   generalize x5 (l.getD i default).dst 0 2 = b2 at *
   clear hrl hr
   rw [hs] at hP
   cases b1 with
   | false =>
    rw [← hP]
    clear hP hs s2
    repeat' (first | (refine Qr rfl ?_; try intro _ hK; try simp only [go_sem, *]) | (refine Qi rfl rfl rfl rfl ?_ ?_ <;> (intro hb; (try intro _ hK); have hc := hb; try simp only [go_sem] at hc; simp only [go_sem, *])) | refine Qh rfl ?_ | (refine Qc rfl rfl ?_ ?_ <;> (intro hb; have hc := hb; try simp only [go_sem] at hc)) | refine q6 rfl ?_ | (refine w5 (s1) ?_ ?_; (focus (simp only [go_sem, *]; done)); simp only [go_sem, *]) | ((with_reducible apply And.intro); focus omega) | (refine z8 hK ?_; clear hK; simp only [go_sem, *]) | simp only [z7, z6, go_sem, *])
    all_goals try contradiction
    (refine ⟨[_], [], [], ⟨rfl, trivial⟩, ?_⟩; simp only [go_sem, *])
   | true =>
    cases b2 with
    | false =>
     rw [← hP]
     clear hP hs
     repeat' (first | (refine Qr rfl ?_; try intro _ hK; try simp only [go_sem, *]) | (refine Qi rfl rfl rfl rfl ?_ ?_ <;> (intro hb; (try intro _ hK); have hc := hb; try simp only [go_sem] at hc; simp only [go_sem, *])) | refine Qh rfl ?_ | (refine Qc rfl rfl ?_ ?_ <;> (intro hb; have hc := hb; try simp only [go_sem] at hc)) | refine q6 rfl ?_ | (refine w5 (s1) ?_ ?_; (focus (simp only [go_sem, *]; done)); simp only [go_sem, *]) | (refine w5 (s2) ?_ ?_; (focus (simp only [go_sem, *]; done)); simp only [go_sem, *]) | ((with_reducible apply And.intro); focus omega) | (refine z8 hK ?_; clear hK; simp only [go_sem, *]) | simp only [z7, z6, go_sem, *])
     all_goals try contradiction
     (refine ⟨[_], [], [], ⟨rfl, trivial⟩, ?_⟩; simp only [go_sem, *])
    | true =>
     generalize hb3 : ((l.getD i default).src == (l.getD i default).dst) = b3 at *
     cases b3 with
     | true =>
      rw [← hP]
      clear hP hs
      repeat' (first | (refine Qr rfl ?_; try intro _ hK; try simp only [go_sem, *]) | (refine Qi rfl rfl rfl rfl ?_ ?_ <;> (intro hb; (try intro _ hK); have hc := hb; try simp only [go_sem] at hc; simp only [go_sem, *])) | refine Qh rfl ?_ | (refine Qc rfl rfl ?_ ?_ <;> (intro hb; have hc := hb; try simp only [go_sem] at hc)) | refine q6 rfl ?_ | (refine w5 (s1) ?_ ?_; (focus (simp only [go_sem, *]; done)); simp only [go_sem, *]) | (refine w5 (s2) ?_ ?_; (focus (simp only [go_sem, *]; done)); simp only [go_sem, *]) | ((with_reducible apply And.intro); focus omega) | (refine z8 hK ?_; clear hK; simp only [go_sem, *]) | simp only [z7, z6, go_sem, *])
      all_goals try contradiction
      (refine ⟨[_], [], [], ⟨rfl, trivial⟩, ?_⟩; simp only [go_sem, *])
     | false =>
      simp only [Bool.true_and, Bool.not_false] at hP
      clear hs
      repeat' (first | (refine Qr rfl ?_; try intro _ hK; try simp only [go_sem, *]) | (refine Qi rfl rfl rfl rfl ?_ ?_ <;> (intro hb; (try intro _ hK); have hc := hb; try simp only [go_sem] at hc; simp only [go_sem, *])) | refine Qh rfl ?_ | (refine Qc rfl rfl ?_ ?_ <;> (intro hb; have hc := hb; try simp only [go_sem] at hc)) | refine q6 rfl ?_ | (refine w5 (s1) ?_ ?_; (focus (simp only [go_sem, *]; done)); simp only [go_sem, *]) | (refine w5 (s2) ?_ ?_; (focus (simp only [go_sem, *]; done)); simp only [go_sem, *]) | ((with_reducible apply And.intro); focus omega) | (refine z8 hK ?_; clear hK; simp only [go_sem, *]) | simp only [z7, z6, go_sem, *])
      all_goals try contradiction
      exact i4 (i' := i + 1) [] [] (by exact hP)
  ·have e : l.all Rule.ok = true := by rw [← hP, f5 (by omega)]; rfl
   rw [if_pos e]
   clear hP e
   repeat' (first | (refine Qr rfl ?_; try intro _ hK; try simp only [go_sem, *]) | (refine Qi rfl rfl rfl rfl ?_ ?_ <;> (intro hb; (try intro _ hK); have hc := hb; try simp only [go_sem] at hc; simp only [go_sem, *])) | refine Qh rfl ?_ | (refine Qc rfl rfl ?_ ?_ <;> (intro hb; have hc := hb; try simp only [go_sem] at hc)) | refine q6 rfl ?_ | ((with_reducible apply And.intro); focus omega) | (refine z8 hK ?_; clear hK; simp only [go_sem, *]) | simp only [z7, z6, go_sem, *])
   (refine ⟨[_], [], [], ⟨rfl, trivial⟩, ?_⟩; simp only [go_sem, *])
theorem zDC (s p : Str) (h1 : s.length ≤ 4294967296) (h2 : p.length ≤ 4294967296) : zMf prog 151 [sV s, sV p] [] (bV (p.isPrefixOf s)) [] := by
 have e : p.isPrefixOf s = (decide (p.length ≤ s.length) && (s.take p.length == p)) := by
  rw [Bool.eq_iff_iff, List.isPrefixOf_iff_prefix, Bool.and_eq_true, decide_eq_true_eq, beq_iff_eq, List.prefix_iff_eq_take]
  constructor
  ·intro h
   refine ⟨?_, h.symm⟩
   have := congrArg List.length h
   simp at this; omega
  ·rintro ⟨_, h⟩; exact h.symm
 rw [e]
 clear e
 refine q7 func151 rfl (fun E hE => ?_); simp only [go_sem, ntmps151]
 repeat' (first | (refine Qr rfl ?_; try intro _ hK; try simp only [go_sem, *]) | (refine Qi rfl rfl rfl rfl ?_ ?_ <;> (intro hb; (try intro _ hK); have hc := hb; try simp only [go_sem] at hc; simp only [go_sem, *])) | refine Qh rfl ?_ | (refine Qc rfl rfl ?_ ?_ <;> (intro hb; have hc := hb; try simp only [go_sem] at hc)) | refine q6 rfl ?_ | ((with_reducible apply And.intro); focus omega) | (refine z8 hK ?_; clear hK; simp only [go_sem, *]) | simp only [z7, z6, go_sem, *])
 all_goals (refine ⟨[_], [], [], ⟨rfl, trivial⟩, ?_⟩; simp only [go_sem, *])
 all_goals simp_all
theorem zDB (s p : Str) (h1 : s.length ≤ 4294967296) (h2 : p.length ≤ 4294967296) : zMf prog 127 [sV s, sV p] [] (bV (p.isPrefixOf s)) [] := by
 have s1 := zDC s p h1 h2
 generalize p.isPrefixOf s = b at *
 refine q7 func127 rfl (fun E hE => ?_); simp only [go_sem, ntmps127]
 repeat' (first | (refine Qr rfl ?_; try intro _ hK; try simp only [go_sem, *]) | refine Qh rfl ?_ | (refine Qc rfl rfl ?_ ?_ <;> (intro hb; have hc := hb; try simp only [go_sem] at hc)) | refine q6 rfl ?_ | (refine q8 (s1) ?_; simp only [go_sem, *]) | ((with_reducible apply And.intro); focus omega) | (refine z8 hK ?_; clear hK; simp only [go_sem, *]) | simp only [z7, z6, go_sem, *])
 (refine ⟨[_], [], [], ⟨rfl, trivial⟩, ?_⟩; simp only [go_sem, *])
theorem zEU {x y : List Str} {i : Nat} (h1 : i < x.length) (h2 : i < y.length) : zMi (x.drop i) (y.drop i) = if zMj (x.getD i default) (y.getD i default) = 0 then zMi (x.drop (i + 1)) (y.drop (i + 1)) else zMj (x.getD i default) (y.getD i default) := by
 rw [o3 h1, o3 h2, zMi]
theorem zET {x y : List Str} {i : Nat} (h1 : i < x.length) (h2 : y.length ≤ i) : zMi (x.drop i) (y.drop i) = 1 := by
 rw [o3 h1, f5 h2, zMi]
theorem zES {x y : List Str} {i : Nat} (h1 : x.length ≤ i) : zMi (x.drop i) (y.drop i) = if i < y.length then -1 else 0 := by
 rw [f5 h1]
 by_cases h2 : i < y.length
 ·rw [o3 h2, zMi, if_pos h2]
 ·rw [f5 (by omega), zMi, if_neg h2]
theorem zHd (x y : List Str) (h1 : x.length ≤ 4294967296) (h2 : y.length ≤ 4294967296) : zMf prog 126 [y4 x, y4 y] [] (iV (zMi x y)) [] := by
 refine q7 func126 rfl (fun E hE => ?_); simp only [go_sem, ntmps126]
 repeat' (first | (refine Qr rfl ?_; try intro _ hK; try simp only [go_sem, *]) | refine Qh rfl ?_ | (refine Qc rfl rfl ?_ ?_ <;> (intro hb; have hc := hb; try simp only [go_sem] at hc)) | refine q6 rfl ?_ | ((with_reducible apply And.intro); focus omega) | (refine z8 hK ?_; clear hK; simp only [go_sem, *]) | simp only [z7, z6, go_sem, *])
 refine o6 rfl (x.length) (fun i => zMi (x.drop i) (y.drop i) = zMi x y ∧ i ≤ y.length) 36 (fun i => [(11, iV i), (10, iV x.length), (9, y4 x), (0, y4 x), (1, y4 y)]) (fun i => []) [] [] (by simp) ?_; intro i hi hP
 obtain ⟨hP, hiy⟩ := hP
 by_cases hi2 : i < x.length
 ·by_cases hi3 : i < y.length
  ·have hs := zEU hi2 hi3
   have sc := zHf (x.getD i default) (y.getD i default)
   rw [hs] at hP
   clear hs
   have gi : ¬ ((i : Int) ≥ (y.length : Int)) := by omega
   by_cases q : zMj (x.getD i default) (y.getD i default) = 0
   ·rw [if_pos q] at hP
    rw [q] at sc
    repeat' (first | (refine Qr rfl ?_; try intro _ hK; try simp only [go_sem, *]) | refine Qh rfl ?_ | (refine Qc rfl rfl ?_ ?_ <;> (intro hb; have hc := hb; try simp only [go_sem] at hc)) | refine q6 rfl ?_ | (refine q8 (sc) ?_; simp only [go_sem, *]) | ((with_reducible apply And.intro); focus omega) | (refine z8 hK ?_; clear hK; simp only [go_sem, *]) | simp only [z7, z6, go_sem, *])
    all_goals first | contradiction | omega | skip
    exact i4 (i' := i + 1) [] [] (by exact ⟨hP, by omega⟩)
   ·rw [if_neg q] at hP
    generalize zMj (x.getD i default) (y.getD i default) = c at *
    rw [← hP]
    clear hP
    repeat' (first | (refine Qr rfl ?_; try intro _ hK; try simp only [go_sem, *]) | refine Qh rfl ?_ | (refine Qc rfl rfl ?_ ?_ <;> (intro hb; have hc := hb; try simp only [go_sem] at hc)) | refine q6 rfl ?_ | (refine q8 (sc) ?_; simp only [go_sem, *]) | ((with_reducible apply And.intro); focus omega) | (refine z8 hK ?_; clear hK; simp only [go_sem, *]) | simp only [z7, z6, go_sem, *])
    all_goals first | contradiction | omega | skip
    (refine ⟨[_], [], [], ⟨rfl, trivial⟩, ?_⟩; simp only [go_sem, *])
  ·rw [zET hi2 (by omega)] at hP
   rw [← hP]
   clear hP
   repeat' (first | (refine Qr rfl ?_; try intro _ hK; try simp only [go_sem, *]) | refine Qh rfl ?_ | (refine Qc rfl rfl ?_ ?_ <;> (intro hb; have hc := hb; try simp only [go_sem] at hc)) | refine q6 rfl ?_ | ((with_reducible apply And.intro); focus omega) | (refine z8 hK ?_; clear hK; simp only [go_sem, *]) | simp only [z7, z6, go_sem, *])
   all_goals first | contradiction | omega | skip
   (refine ⟨[_], [], [], ⟨rfl, trivial⟩, ?_⟩; simp only [go_sem, *])
 ·have hix : i = x.length := by omega
  subst hix
  rw [zES (Nat.le_refl _)] at hP
  by_cases hxy : x.length < y.length
  ·rw [if_pos hxy] at hP
   rw [← hP]
   clear hP
   repeat' (first | (refine Qr rfl ?_; try intro _ hK; try simp only [go_sem, *]) | refine Qh rfl ?_ | (refine Qc rfl rfl ?_ ?_ <;> (intro hb; have hc := hb; try simp only [go_sem] at hc)) | refine q6 rfl ?_ | ((with_reducible apply And.intro); focus omega) | (refine z8 hK ?_; clear hK; simp only [go_sem, *]) | simp only [z7, z6, go_sem, *])
   all_goals first | contradiction | omega | skip
   (refine ⟨[_], [], [], ⟨rfl, trivial⟩, ?_⟩; simp only [go_sem, *])
  ·rw [if_neg hxy] at hP
   rw [← hP]
   clear hP
   repeat' (first | (refine Qr rfl ?_; try intro _ hK; try simp only [go_sem, *]) | refine Qh rfl ?_ | (refine Qc rfl rfl ?_ ?_ <;> (intro hb; have hc := hb; try simp only [go_sem] at hc)) | refine q6 rfl ?_ | ((with_reducible apply And.intro); focus omega) | (refine z8 hK ?_; clear hK; simp only [go_sem, *]) | simp only [z7, z6, go_sem, *])
   all_goals first | contradiction | omega | skip
   (refine ⟨[_], [], [], ⟨rfl, trivial⟩, ?_⟩; simp only [go_sem, *])
end Go.Abs

namespace Go.Abs
open Go Go.Proofs Tryz
attribute [local irreducible] q9 Hold y8
section
variable {α : Type} {a b : List α} {i : Nat}
theorem zDY (ha : a.length ≤ i) (hl : a.length = b.length) (h : a.take i = b.take i) : a = b := by
 rwa [List.take_of_length_le ha, List.take_of_length_le (by omega)] at h
variable [Inhabited α]
theorem zA2 {l : List α} (h : i < l.length) : l.take (i + 1) = l.take i ++ [l.getD i default] := by
 rw [List.take_add_one]; simp [List.getD, h]
theorem zDZ (ha : i < a.length) (hb : i < b.length) (h : a.take i = b.take i) (e : a.getD i default = b.getD i default) : a.take (i + 1) = b.take (i + 1) := by
 rw [zA2 ha, zA2 hb, h, e]
theorem zDa (e : ¬ a.getD i default = b.getD i default) : ¬ a = b := fun h => e (by rw [h])
end
theorem zCR {α : Type} {a b : List α} (h : ¬ a.length = b.length) : ¬ a = b := fun e => h (by rw [e])
theorem zHi (a b : List Int) (h1 : a.length ≤ 4294967296) : zMf prog 54 [R0 a, R0 b] [] (bV (decide (a = b))) [] := by
 refine q7 func54 rfl (fun E hE => ?_); simp only [go_sem, ntmps54]
 repeat' (first | (refine Qr rfl ?_; try intro _ hK; try simp only [go_sem, *]) | refine Qh rfl ?_ | refine Qd rfl (by kernel_rfl) ?_ | (refine Qc rfl rfl ?_ ?_ <;> (intro hb; have hc := hb; try simp only [go_sem] at hc)) | refine q6 rfl ?_ | (refine Qb ?_ ?_; focus kernel_rfl) | ((with_reducible apply And.intro); focus omega) | (refine z8 hK ?_; clear hK; simp only [go_sem, *]) | simp only [z7, z6, go_sem, *])
 ·(refine ⟨[_], [], [], ⟨rfl, trivial⟩, ?_⟩; simp only [go_sem, *])
  simp [zCR (a := a) (b := b) (by omega)]
 ·have hlb : a.length = b.length := by omega
  refine o6 rfl (b.length) (fun i => a.take i = b.take i) 26 (fun i => [(5, iV i), (0, R0 a), (1, R0 b)]) (fun i => []) [] [] (by simp) ?_; intro i hi hP
  repeat' (first | (refine Qr rfl ?_; try intro _ hK; try simp only [go_sem, *]) | refine Qh rfl ?_ | refine Qd rfl (by kernel_rfl) ?_ | (refine Qc rfl rfl ?_ ?_ <;> (intro hb; have hc := hb; try simp only [go_sem] at hc)) | refine q6 rfl ?_ | (refine Qb ?_ ?_; focus kernel_rfl) | ((with_reducible apply And.intro); focus omega) | (refine z8 hK ?_; clear hK; simp only [go_sem, *]) | simp only [z7, z6, go_sem, *])
  ·(refine ⟨[_], [], [], ⟨rfl, trivial⟩, ?_⟩; simp only [go_sem, *])
   simp [zDa (a := a) (b := b) (i := i) (by assumption)]
  ·exact i4 (i' := i + 1) [] [] (by exact zDZ (by omega) (by omega) hP (by assumption))
  ·(refine ⟨[_], [], [], ⟨rfl, trivial⟩, ?_⟩; simp only [go_sem, *])
   simp [zDY (by omega) hlb hP]
theorem zHj (a b : List Str) (h1 : a.length ≤ 4294967296) : zMf prog 33 [y4 a, y4 b] [] (bV (decide (a = b))) [] := by
 refine q7 func33 rfl (fun E hE => ?_); simp only [go_sem, ntmps33]
 repeat' (first | (refine Qr rfl ?_; try intro _ hK; try simp only [go_sem, *]) | refine Qh rfl ?_ | refine Qd rfl (by kernel_rfl) ?_ | (refine Qc rfl rfl ?_ ?_ <;> (intro hb; have hc := hb; try simp only [go_sem] at hc)) | refine q6 rfl ?_ | (refine Qb ?_ ?_; focus kernel_rfl) | ((with_reducible apply And.intro); focus omega) | (refine z8 hK ?_; clear hK; simp only [go_sem, *]) | simp only [z7, z6, go_sem, *])
 ·(refine ⟨[_], [], [], ⟨rfl, trivial⟩, ?_⟩; simp only [go_sem, *])
  simp [zCR (a := a) (b := b) (by omega)]
 ·have hlb : a.length = b.length := by omega
  refine o6 rfl (b.length) (fun i => a.take i = b.take i) 26 (fun i => [(5, iV i), (0, y4 a), (1, y4 b)]) (fun i => []) [] [] (by simp) ?_; intro i hi hP
  repeat' (first | (refine Qr rfl ?_; try intro _ hK; try simp only [go_sem, *]) | refine Qh rfl ?_ | refine Qd rfl (by kernel_rfl) ?_ | (refine Qc rfl rfl ?_ ?_ <;> (intro hb; have hc := hb; try simp only [go_sem] at hc)) | refine q6 rfl ?_ | (refine Qb ?_ ?_; focus kernel_rfl) | ((with_reducible apply And.intro); focus omega) | (refine z8 hK ?_; clear hK; simp only [go_sem, *]) | simp only [z7, z6, go_sem, *])
  ·(refine ⟨[_], [], [], ⟨rfl, trivial⟩, ?_⟩; simp only [go_sem, *])
   simp [zDa (a := a) (b := b) (i := i) (by assumption)]
  ·exact i4 (i' := i + 1) [] [] (by exact zDZ (by omega) (by omega) hP (by assumption))
  ·(refine ⟨[_], [], [], ⟨rfl, trivial⟩, ?_⟩; simp only [go_sem, *])
   simp [zDY (by omega) hlb hP]
theorem zIR : zMf prog 74 [] [] (.own 0 2 0 3) [.row 2 (rulesX.map Rule.enc)] := by
 refine q7 func74 rfl (fun E hE => ?_); simp only [go_sem, ntmps74]
 repeat' (first | (refine Qr rfl ?_; try intro _ hK; try simp only [go_sem, *]) | refine Qh rfl ?_ | (refine Qc rfl rfl ?_ ?_ <;> (intro hb; have hc := hb; try simp only [go_sem] at hc)) | refine q6 rfl ?_ | ((with_reducible apply And.intro); focus omega) | (refine z8 hK ?_; clear hK; simp only [go_sem, *]) | simp only [z7, z6, go_sem, *])
 refine ⟨[_], [some 0], [], ⟨rfl, trivial⟩, ?_⟩
 simp only [go_sem, rulesX, Rule.enc, *]
theorem zIT : zMf prog 75 [] [] (.own 0 1 0 3) [.row 1 (smithsX.map sV)] := by
 refine q7 func75 rfl (fun E hE => ?_); simp only [go_sem, ntmps75]
 repeat' (first | (refine Qr rfl ?_; try intro _ hK; try simp only [go_sem, *]) | refine Qh rfl ?_ | (refine Qc rfl rfl ?_ ?_ <;> (intro hb; have hc := hb; try simp only [go_sem] at hc)) | refine q6 rfl ?_ | ((with_reducible apply And.intro); focus omega) | (refine z8 hK ?_; clear hK; simp only [go_sem, *]) | simp only [z7, z6, go_sem, *])
 refine ⟨[_], [some 0], [], ⟨rfl, trivial⟩, ?_⟩
 simp only [go_sem, smithsX, a8, zAa, zNr, *]
theorem C5 (d : Dice) (ws : List Str) (h : d.list.length ≤ 4294967296) (h0 : 0 < ws.length) (h1 : ws.length ≤ 1000) : zMf prog 76 [.ptr 0 0, y4 ws] [u5 d] (sV (l6 ws d)) [u5 (x8 ws d)] := by
 have st := W8 d ((ws.length : Int) - 1) h (by omega)
 have hle := d6 (n := (ws.length : Int) - 1) (by omega) d
 have hw : IntKind.i64.wrap ((ws.length : Int) - 1) = (ws.length : Int) - 1 := wrap_i64 (by omega) (by omega)
 have e1 : l6 ws d = ws.getD (toN ((ws.length : Int) - 1) d).toNat default := rfl
 have e2 : x8 ws d = toD ((ws.length : Int) - 1) d := rfl
 rw [e1, e2]
 clear e1 e2
 obtain ⟨n, hn⟩ : ∃ n : Nat, toN ((ws.length : Int) - 1) d = n := ⟨_, (Int.toNat_of_nonneg hle.1).symm⟩
 rw [hn] at st hle ⊢
 rw [Int.toNat_natCast]
 have hlt : n < ws.length := by omega
 generalize toD ((ws.length : Int) - 1) d = d2 at *
 clear hn hle
 refine q7 func76 rfl (fun E hE => ?_); simp only [go_sem, ntmps76]
 repeat' (first | (refine Qr rfl ?_; try intro _ hK; try simp only [go_sem, *]) | refine Qh rfl ?_ | (refine Qc rfl rfl ?_ ?_ <;> (intro hb; have hc := hb; try simp only [go_sem] at hc)) | refine q6 rfl ?_ | (refine v6 [0] (st) ?_; simp only [go_sem, *]) | ((with_reducible apply And.intro); focus omega) | (refine z8 hK ?_; clear hK; simp only [go_sem, *]) | simp only [z7, z6, go_sem, *])
 refine ⟨[_], [some 0], [], ⟨rfl, trivial⟩, ?_⟩
 simp only [go_sem, *]
end Go.Abs

namespace Go.Abs
open Go Go.Proofs Tryz
attribute [local irreducible] q9 Hold y8
theorem zHN (d : Dice) : (zM8 d).1.length ≤ 7 := by
 have k1 : (wordsU.all fun x => decide (x.length ≤ 7)) = true := by decide
 have k2 : (wordsL.all fun x => decide (x.length ≤ 7)) = true := by decide
 unfold zM8 zNg
 split
 ·exact of_decide_eq_true (List.all_eq_true.1 k1 _ (M9 (by decide) _))
 ·exact of_decide_eq_true (List.all_eq_true.1 k2 _ (M9 (by decide) _))
theorem A4 {s : Str} {k : Nat} (h : k < s.length) : List.drop k (List.take (k + 1) s) = [s.getD k 0] := by
 rw [zA2 h, List.drop_append_of_le_length (by simp; omega), List.drop_of_length_le (by simp; omega)]; rfl
theorem zCU (set : Str) (n : Nat) (d : Dice) (s : Str) : e8 set (n + 1) d s = e8 set n (toD ((set.length : Int) - 1) d) (s ++ [set.getD (toN ((set.length : Int) - 1) d).toNat 0]) := rfl
theorem zDF (d : Dice) (most : Int) (h : d.list.length ≤ 4294967296) (hm : 1 ≤ most ∧ most ≤ 1000) : zMf prog 25 [.ptr 0 0, iV most] [u5 d] (sV (i3 d most).1) [u5 (i3 d most).2] := by
 have hd1 : (x8 wordsL d).list = d.list := p7 _ _
 have s1 := C5 d wordsL h (by decide) (by decide)
 have s2 := zAu (x8 wordsL d) 3 (by rw [hd1]; exact h) (by omega)
 have hd2 : (v8 3 (x8 wordsL d)).list = d.list := (p7 _ _).trans hd1
 have s3 := C5 (v8 3 (x8 wordsL d)) wordsU (by rw [hd2]; exact h) (by decide) (by decide)
 have hset := zC7 d
 have hset7 := zHN d
 obtain ⟨p, hp⟩ : ∃ p, zM8 d = p := ⟨_, rfl⟩
 have hT : i3 d most = E6 most p := by unfold i3; rw [hp]
 rw [hT]
 rw [hp] at hset hset7
 unfold zM8 zNg at hp
 have hmin : 1 ≤ min most 6 ∧ min most 6 ≤ 6 := by omega
 have hq := zAE (lo := 1) (hi := min most 6) hmin.1 p.2
 have s4 := zHl p.2 1 (min most 6) (by rw [hset.2.2]; exact h) (by omega) (by omega)
 have hT2 : E6 most p = e8 p.1 (a6 1 (min most 6) p.2).toNat (X7 1 (min most 6) p.2) [] := rfl
 rw [hT2]
 have hd3 : (X7 1 (min most 6) p.2).list = d.list := (p7 _ _).trans hset.2.2
 obtain ⟨n, hn⟩ : ∃ n : Nat, a6 1 (min most 6) p.2 = n := ⟨(a6 1 (min most 6) p.2).toNat, by omega⟩
 rw [hn] at s4 hq ⊢
 rw [Int.toNat_natCast]
 have hn6 : n ≤ 6 := by omega
 generalize hT3 : e8 p.1 n (X7 1 (min most 6) p.2) [] = T at *
 obtain ⟨dd, hdd⟩ : ∃ dd, X7 1 (min most 6) p.2 = dd := ⟨_, rfl⟩
 rw [hdd] at s4 hT3 hd3
 have hdl : dd.list.length ≤ 4294967296 := by rw [hd3]; exact h
 obtain ⟨set, d4⟩ := p
 have hsl : 0 < set.length := hset.1
 have hsl2 : set.length ≤ 7 := hset7
 clear hn hT hT2 hq hd1 hd2 hd3 hset hdd
 simp only at s4 hT3
 generalize Y3 3 (x8 wordsL d) = t at *
 generalize v8 3 (x8 wordsL d) = d2 at *
 generalize x8 wordsL d = d1 at *
 generalize l6 wordsL d = a at *
 generalize l6 wordsU d2 = b at *
 generalize x8 wordsU d2 = d3 at *
 generalize hmm : min most 6 = mm at *
 have hw0 : y4 wordsL = .list [sV [97, 101, 115], sV [115, 104, 101, 116, 97], sV [115, 109, 105, 116, 121, 104, 97], sV [99, 104, 106, 97], sV [97, 110, 110, 101]] := rfl
 have hw1 : y4 wordsU = .list [sV [65, 69, 83], sV [88, 69, 84, 65], sV [83, 77, 73, 84, 89, 65], sV [67, 74, 65, 88], sV [65, 78, 78, 69]] := rfl
 rw [hw0] at s1
 rw [hw1] at s3
 clear hw0 hw1 hset7
 have hmi : zNd most 6 = mm := by rw [← hmm]; unfold zNd; omega
 clear hmm
 cases t
 ·have hp : (a, d2) = (set, d4) := hp
  cases hp
  clear s3
  refine q7 func25 rfl (fun E hE => ?_); simp only [go_sem, ntmps25]
  repeat' (first | (refine Qr rfl ?_; try intro _ hK; try simp only [go_sem, *]) | refine Qh rfl ?_ | (refine Qc rfl rfl ?_ ?_ <;> (intro hb; have hc := hb; try simp only [go_sem] at hc)) | refine q6 rfl ?_ | ((with_reducible apply And.intro); focus omega) | (refine z8 hK ?_; clear hK; simp only [go_sem, *]) | simp only [z7, z6, go_sem, *])
  refine b7 [0] [1] s1 rfl (by simp only [go_sem]) (by simp) ?_ ?_ (by simp [go_sem]) (by simp [go_sem]) ?_
  ·simp only [go_sem, *]
  ·simp only [go_sem, *]
  simp only [go_sem, w8, *]
  repeat' (first | (refine Qr rfl ?_; try intro _ hK; try simp only [go_sem, *]) | refine Qh rfl ?_ | (refine Qc rfl rfl ?_ ?_ <;> (intro hb; have hc := hb; try simp only [go_sem] at hc)) | refine q6 rfl ?_ | (refine v6 [0] (s2) ?_; simp only [go_sem, *]) | ((with_reducible apply And.intro); focus omega) | (refine z8 hK ?_; clear hK; simp only [go_sem, *]) | simp only [z7, z6, go_sem, *])
  all_goals try contradiction
  repeat' (first | (refine Qr rfl ?_; try intro _ hK; try simp only [go_sem, *]) | refine Qh rfl ?_ | (refine Qc rfl rfl ?_ ?_ <;> (intro hb; have hc := hb; try simp only [go_sem] at hc)) | refine q6 rfl ?_ | (refine v6 [0] (s4) ?_; simp only [go_sem, *]) | ((with_reducible apply And.intro); focus omega) | (refine z8 hK ?_; clear hK; simp only [go_sem, *]) | simp only [z7, z6, go_sem, *])
  all_goals try contradiction
  refine N9 rfl (n) (fun i (d' : Dice) (s : Str) => e8 set (n - i) d' s = T ∧ d'.list.length ≤ 4294967296 ∧ s.length ≤ i) 38 (fun i d' s => [(7, iV ((n - i : Nat) : Int)), (6, sV s), (5, sV set), (0, .ptr 0 0)]) (fun i d' s => [u5 d']) [some 0] [] (dd) ([]) (by exact ⟨hT3, hdl, by simp⟩) ?_; intro i d' s hi hP
  clear hT3 hdl s4 s2 s1
  obtain ⟨hP, hdl, hsi⟩ := hP
  by_cases hi2 : i < n
  ·rw [show n - i = (n - (i + 1)) + 1 by omega, zCU] at hP
   have st := W8 d' ((set.length : Int) - 1) hdl (by omega)
   have hle := d6 (n := (set.length : Int) - 1) (by omega) d'
   have hdl2 : (toD ((set.length : Int) - 1) d').list.length ≤ 4294967296 := by rw [p7]; exact hdl
   obtain ⟨k, hk0⟩ : ∃ k : Nat, toN ((set.length : Int) - 1) d' = k := ⟨_, (Int.toNat_of_nonneg hle.1).symm⟩
   rw [hk0] at st hle hP
   rw [Int.toNat_natCast] at hP
   have hkl : k < set.length := by omega
   have hw : IntKind.i64.wrap ((set.length : Int) - 1) = (set.length : Int) - 1 := wrap_i64 (by omega) (by omega)
   have hw1 : IntKind.i64.wrap ((k : Int) + 1) = ((k + 1 : Nat) : Int) := r9 (by omega)
   have hw2 : IntKind.i64.wrap (((n - i : Nat) : Int) - 1) = ((n - (i + 1) : Nat) : Int) := by rw [wrap_i64 (by omega) (by omega)]; omega
   have hj : (0 : Int) < ((n - i : Nat) : Int) := by omega
   have hdt := A4 hkl
   generalize toD ((set.length : Int) - 1) d' = d3 at *
   clear hk0 hle
   repeat' (first | (refine Qr rfl ?_; try intro _ hK; try simp only [go_sem, *]) | refine Qh rfl ?_ | (refine Qc rfl rfl ?_ ?_ <;> (intro hb; have hc := hb; try simp only [go_sem] at hc)) | refine q6 rfl ?_ | (refine v6 [0] (st) ?_; simp only [go_sem, *]) | ((with_reducible apply And.intro); focus omega) | (refine z8 hK ?_; clear hK; simp only [go_sem, *]) | simp only [z7, z6, go_sem, *])
   exact Z1 (i' := i + 1) [some 0] [] (d3) (s ++ [set.getD k 0]) (by exact ⟨hP, hdl2, by simp; omega⟩)
  ·rw [show n - i = 0 by omega] at hP
   have hP : (s, d') = T := hP
   subst hP
   have hj : ¬ (0 : Int) < ((n - i : Nat) : Int) := by omega
   repeat' (first | (refine Qr rfl ?_; try intro _ hK; try simp only [go_sem, *]) | refine Qh rfl ?_ | (refine Qc rfl rfl ?_ ?_ <;> (intro hb; have hc := hb; try simp only [go_sem] at hc)) | refine q6 rfl ?_ | ((with_reducible apply And.intro); focus omega) | (refine z8 hK ?_; clear hK; simp only [go_sem, *]) | simp only [z7, z6, go_sem, *])
   all_goals first | contradiction | omega | skip
   refine ⟨[_], [some 0], [], ⟨rfl, trivial⟩, ?_⟩
   simp only [go_sem, *]
 ·have hp : (b, d3) = (set, d4) := hp
  cases hp
  refine q7 func25 rfl (fun E hE => ?_); simp only [go_sem, ntmps25]
  repeat' (first | (refine Qr rfl ?_; try intro _ hK; try simp only [go_sem, *]) | refine Qh rfl ?_ | (refine Qc rfl rfl ?_ ?_ <;> (intro hb; have hc := hb; try simp only [go_sem] at hc)) | refine q6 rfl ?_ | ((with_reducible apply And.intro); focus omega) | (refine z8 hK ?_; clear hK; simp only [go_sem, *]) | simp only [z7, z6, go_sem, *])
  refine b7 [0] [1] s1 rfl (by simp only [go_sem]) (by simp) ?_ ?_ (by simp [go_sem]) (by simp [go_sem]) ?_
  ·simp only [go_sem, *]
  ·simp only [go_sem, *]
  simp only [go_sem, w8, *]
  repeat' (first | (refine Qr rfl ?_; try intro _ hK; try simp only [go_sem, *]) | refine Qh rfl ?_ | (refine Qc rfl rfl ?_ ?_ <;> (intro hb; have hc := hb; try simp only [go_sem] at hc)) | refine q6 rfl ?_ | (refine v6 [0] (s2) ?_; simp only [go_sem, *]) | ((with_reducible apply And.intro); focus omega) | (refine z8 hK ?_; clear hK; simp only [go_sem, *]) | simp only [z7, z6, go_sem, *])
  all_goals try contradiction
  refine b7 [0] [2] s3 rfl (by simp only [go_sem]) (by simp) ?_ ?_ (by simp [go_sem]) (by simp [go_sem]) ?_
  ·simp only [go_sem, *]
  ·simp only [go_sem, *]
  simp only [go_sem, w8, *]
  repeat' (first | (refine Qr rfl ?_; try intro _ hK; try simp only [go_sem, *]) | refine Qh rfl ?_ | (refine Qc rfl rfl ?_ ?_ <;> (intro hb; have hc := hb; try simp only [go_sem] at hc)) | refine q6 rfl ?_ | (refine v6 [0] (s4) ?_; simp only [go_sem, *]) | ((with_reducible apply And.intro); focus omega) | (refine z8 hK ?_; clear hK; simp only [go_sem, *]) | simp only [z7, z6, go_sem, *])
  all_goals try contradiction
  refine N9 rfl (n) (fun i (d' : Dice) (s : Str) => e8 set (n - i) d' s = T ∧ d'.list.length ≤ 4294967296 ∧ s.length ≤ i) 38 (fun i d' s => [(7, iV ((n - i : Nat) : Int)), (6, sV s), (5, sV set), (0, .ptr 0 0)]) (fun i d' s => [u5 d']) [some 0] [] (dd) ([]) (by exact ⟨hT3, hdl, by simp⟩) ?_; intro i d' s hi hP
  clear hT3 hdl s4 s3 s2 s1
  obtain ⟨hP, hdl, hsi⟩ := hP
  by_cases hi2 : i < n
  ·rw [show n - i = (n - (i + 1)) + 1 by omega, zCU] at hP
   have st := W8 d' ((set.length : Int) - 1) hdl (by omega)
   have hle := d6 (n := (set.length : Int) - 1) (by omega) d'
   have hdl2 : (toD ((set.length : Int) - 1) d').list.length ≤ 4294967296 := by rw [p7]; exact hdl
   obtain ⟨k, hk0⟩ : ∃ k : Nat, toN ((set.length : Int) - 1) d' = k := ⟨_, (Int.toNat_of_nonneg hle.1).symm⟩
   rw [hk0] at st hle hP
   rw [Int.toNat_natCast] at hP
   have hkl : k < set.length := by omega
   have hw : IntKind.i64.wrap ((set.length : Int) - 1) = (set.length : Int) - 1 := wrap_i64 (by omega) (by omega)
   have hw1 : IntKind.i64.wrap ((k : Int) + 1) = ((k + 1 : Nat) : Int) := r9 (by omega)
   have hw2 : IntKind.i64.wrap (((n - i : Nat) : Int) - 1) = ((n - (i + 1) : Nat) : Int) := by rw [wrap_i64 (by omega) (by omega)]; omega
   have hj : (0 : Int) < ((n - i : Nat) : Int) := by omega
   have hdt := A4 hkl
   generalize toD ((set.length : Int) - 1) d' = d3' at *
   clear hk0 hle
   repeat' (first | (refine Qr rfl ?_; try intro _ hK; try simp only [go_sem, *]) | refine Qh rfl ?_ | (refine Qc rfl rfl ?_ ?_ <;> (intro hb; have hc := hb; try simp only [go_sem] at hc)) | refine q6 rfl ?_ | (refine v6 [0] (st) ?_; simp only [go_sem, *]) | ((with_reducible apply And.intro); focus omega) | (refine z8 hK ?_; clear hK; simp only [go_sem, *]) | simp only [z7, z6, go_sem, *])
   exact Z1 (i' := i + 1) [some 0] [] (d3') (s ++ [set.getD k 0]) (by exact ⟨hP, hdl2, by simp; omega⟩)
  ·rw [show n - i = 0 by omega] at hP
   have hP : (s, d') = T := hP
   subst hP
   have hj : ¬ (0 : Int) < ((n - i : Nat) : Int) := by omega
   repeat' (first | (refine Qr rfl ?_; try intro _ hK; try simp only [go_sem, *]) | refine Qh rfl ?_ | (refine Qc rfl rfl ?_ ?_ <;> (intro hb; have hc := hb; try simp only [go_sem] at hc)) | refine q6 rfl ?_ | ((with_reducible apply And.intro); focus omega) | (refine z8 hK ?_; clear hK; simp only [go_sem, *]) | simp only [z7, z6, go_sem, *])
   all_goals first | contradiction | omega | skip
   refine ⟨[_], [some 0], [], ⟨rfl, trivial⟩, ?_⟩
   simp only [go_sem, *]
end Go.Abs

namespace Go.Abs
open Go Go.Proofs Tryz
attribute [local irreducible] q9 Hold y8
theorem zGV (most : Int) (n : Nat) (d : Dice) (out : List Str) : Z0 most (n + 1) d out = Z0 most n (b5 out (i3 d most)).2 (out ++ [(b5 out (i3 d most)).1]) := rfl
theorem zHo (d : Dice) (many most : Int) (h : d.list.length ≤ 4294967296) (hm : 0 ≤ many ∧ many ≤ 1000) (h1 : 1 ≤ most ∧ most ≤ 1000) :
  zMf prog 24 [.ptr 0 0, iV many, iV most] [u5 d] (.own 1 1 0 (T0 d many most).1.length) [u5 (T0 d many most).2, .row 1 ((T0 d many most).1.map sV)] := by
 have st := W8 d many h (by omega)
 have hle := d6 hm.1 d
 have hT : T0 d many most = Z0 most (toN many d).toNat (toD many d) [] := rfl
 rw [hT]
 clear hT
 obtain ⟨n, hn⟩ : ∃ n : Nat, toN many d = n := ⟨_, (Int.toNat_of_nonneg hle.1).symm⟩
 rw [hn] at st hle ⊢
 rw [Int.toNat_natCast]
 have hn6 : n ≤ 1000 := by omega
 generalize hT3 : Z0 most n (toD many d) [] = T at *
 have hdl : (toD many d).list.length ≤ 4294967296 := by rw [p7]; exact h
 generalize toD many d = dd at *
 clear hn hle h hm
 refine q7 func24 rfl (fun E hE => ?_); simp only [go_sem, ntmps24]
 repeat' (first | (refine Qr rfl ?_; try intro _ hK; try simp only [go_sem, *]) | (refine Qi rfl rfl rfl rfl ?_ ?_ <;> (intro hb; (try intro _ hK); have hc := hb; try simp only [go_sem] at hc; simp only [go_sem, *])) | refine Qh rfl ?_ | refine Qd rfl (by kernel_rfl) ?_ | (refine Qc rfl rfl ?_ ?_ <;> (intro hb; have hc := hb; try simp only [go_sem] at hc)) | refine q6 rfl ?_ | (refine Qb ?_ ?_; focus kernel_rfl) | (refine v6 [0] (st) ?_; simp only [go_sem, *]) | ((with_reducible apply And.intro); focus omega) | (refine z8 hK ?_; clear hK; simp only [go_sem, *]) | simp only [z7, z6, go_sem, *])
 all_goals try contradiction
 refine N9 rfl (n) (fun i (d' : Dice) (outs : List Str) => Z0 most (n - i) d' outs = T ∧ d'.list.length ≤ 4294967296 ∧ outs.length = i ∧ ∀ s, s ∈ outs → V6 most s) 66 (fun i d' outs => [(8, iV ((n - i : Nat) : Int)), (7, .own 1 1 0 i), (0, .ptr 0 0), (2, iV most)]) (fun i d' outs => [u5 d', .row 1 (outs.map sV)]) [some 0, none] [] (dd) ([]) (by exact ⟨hT3, hdl, rfl, fun s hs => by cases hs⟩) ?_; intro i d' outs hi hP
 clear hT3 hdl st
 obtain ⟨hP, hdl, hlen, hok⟩ := hP
 by_cases hi2 : i < n
 ·rw [show n - i = (n - (i + 1)) + 1 by omega, zGV] at hP
  have sN := zDF d' most hdl h1
  have hN := zAb h1.1 (d := d')
  obtain ⟨x, d1, hx⟩ : ∃ x d1, i3 d' most = (x, d1) := ⟨_, _, rfl⟩
  rw [hx] at sN hN hP
  have hA := zBE hok (p := (x, d1)) ⟨hN.1, hN.2.1⟩
  simp only at sN hN hA
  have hd1 : d1.list.length ≤ 4294967296 := by rw [hN.2.2]; exact hdl
  have hxl : x.length ≤ 6 := hN.1.len
  have hw2 : IntKind.i64.wrap (((n - i : Nat) : Int) - 1) = ((n - (i + 1) : Nat) : Int) := by rw [wrap_i64 (by omega) (by omega)]; omega
  have hj : (0 : Int) < ((n - i : Nat) : Int) := by omega
  obtain ⟨y, d9, hq⟩ : ∃ y d9, b5 outs (x, d1) = (y, d9) := ⟨_, _, rfl⟩
  rw [hq] at hP hA
  have hnext : Z0 most (n - (i + 1)) d9 (outs ++ [y]) = T ∧ d9.list.length ≤ 4294967296 ∧ (outs ++ [y]).length = i + 1 ∧ ∀ s, s ∈ outs ++ [y] → V6 most s :=
   ⟨hP, by rw [hA.2]; exact hd1, by simp [hlen], fun s hs => by
    rcases List.mem_append.1 hs with hs | hs
    ·exact hok s hs
    ·rw [List.mem_singleton.1 hs]; exact hA.1⟩
  clear hP hA hN hx
  by_cases h0 : 0 < outs.length
  ·have so := zAu d1 3 hd1 (by omega)
   have hd2 : (v8 3 d1).list.length ≤ 4294967296 := by unfold v8; rw [p7]; exact hd1
   unfold b5 at hq
   rw [if_pos h0] at hq
   have hq : B3 outs (x, d1) (Y3 3 d1) (v8 3 d1) = (y, d9) := hq
   have h0i : (0 : Int) < (i : Int) := by omega
   generalize v8 3 d1 = d2 at *
   generalize Y3 3 d1 = t at *
   cases t
   ·have hq : (x, d2) = (y, d9) := hq
    obtain ⟨e1, e2⟩ := Prod.mk.inj hq
    clear hq
    subst e1 e2
    clear hok
    repeat' (first | (refine Qr rfl ?_; try intro _ hK; try simp only [go_sem, *]) | (refine Qi rfl rfl rfl rfl ?_ ?_ <;> (intro hb; (try intro _ hK); have hc := hb; try simp only [go_sem] at hc; simp only [go_sem, *])) | refine Qh rfl ?_ | refine Qd rfl (by kernel_rfl) ?_ | (refine Qc rfl rfl ?_ ?_ <;> (intro hb; have hc := hb; try simp only [go_sem] at hc)) | refine q6 rfl ?_ | (refine Qb ?_ ?_; focus kernel_rfl) | (refine u7 [0] [] (sN) (by simp) ?_ ?_ (by simp) (.inl rfl) ?_ ?_ ?_; (iterate 2 (focus (simp only [go_sem, *]; done))); (iterate 2 (focus (first | (simp; done) | (simp [go_sem]; done)))); simp only [go_sem, *]) | (refine u7 [0] [] (so) (by simp) ?_ ?_ (by simp) (.inl rfl) ?_ ?_ ?_; (iterate 2 (focus (simp only [go_sem, *]; done))); (iterate 2 (focus (first | (simp; done) | (simp [go_sem]; done)))); simp only [go_sem, *]) | ((with_reducible apply And.intro); focus omega) | (refine z8 hK ?_; clear hK; simp only [go_sem, *]) | simp only [z7, z6, go_sem, *])
    all_goals first | contradiction | omega | skip
    exact Z1 (i' := i + 1) [some 0, some 3] [] (d2) (outs ++ [x]) (by exact hnext)
   ·have hq : T7 (M8 outs d2) (toD ((outs.length : Int) - 1) d2) = (y, d9) := hq
    have hpk0 : ∀ e : Int, M8 outs d2 = outs.getD (toN ((outs.length : Int) - 1) d2).toNat default := fun _ => rfl
    rw [hlen] at hq hpk0
    have st := W8 d2 ((i : Int) - 1) hd2 (by omega)
    have hle := d6 (n := (i : Int) - 1) (by omega) d2
    have hd3 : (toD ((i : Int) - 1) d2).list.length ≤ 4294967296 := by rw [p7]; exact hd2
    obtain ⟨k, hk0⟩ : ∃ k : Nat, toN ((i : Int) - 1) d2 = k := ⟨_, (Int.toNat_of_nonneg hle.1).symm⟩
    have hpk : M8 outs d2 = outs.getD k default := by rw [hpk0 0, hk0, Int.toNat_natCast]
    rw [hk0] at st hle
    rw [hpk] at hq
    have hkl : k < outs.length := by omega
    have hkli : k < i := by omega
    have hz := (hok _ (j3 hkl)).1
    have hw : IntKind.i64.wrap ((i : Int) - 1) = (i : Int) - 1 := wrap_i64 (by omega) (by omega)
    generalize toD ((i : Int) - 1) d2 = d3 at *
    have hz1 : 0 < (outs.getD k default).length := hz.ne
    have hz6 : (outs.getD k default).length ≤ 6 := hz.len
    clear hk0 hle hpk hpk0 hok hz
    generalize hzz : outs.getD k default = z at *
    by_cases hv : 97 ≤ (z.getD 0 0).toNat ∧ 1 < z.length
    ·have s2 := zAu d3 2 hd3 (by omega)
     have hd4 : (v8 2 d3).list.length ≤ 4294967296 := by unfold v8; rw [p7]; exact hd3
     unfold T7 at hq
     rw [if_pos hv] at hq
     generalize v8 2 d3 = d4 at *
     generalize Y3 2 d3 = t2 at *
     obtain ⟨hv1, hv2⟩ := hv
     cases t2
     ·have hq : (z, d4) = (y, d9) := hq
      obtain ⟨e1, e2⟩ := Prod.mk.inj hq
      clear hq
      subst e1 e2
      repeat' (first | (refine Qr rfl ?_; try intro _ hK; try simp only [go_sem, *]) | (refine Qi rfl rfl rfl rfl ?_ ?_ <;> (intro hb; (try intro _ hK); have hc := hb; try simp only [go_sem] at hc; simp only [go_sem, *])) | refine Qh rfl ?_ | refine Qd rfl (by kernel_rfl) ?_ | (refine Qc rfl rfl ?_ ?_ <;> (intro hb; have hc := hb; try simp only [go_sem] at hc)) | refine q6 rfl ?_ | (refine Qb ?_ ?_; focus kernel_rfl) | (refine u7 [0] [] (sN) (by simp) ?_ ?_ (by simp) (.inl rfl) ?_ ?_ ?_; (iterate 2 (focus (simp only [go_sem, *]; done))); (iterate 2 (focus (first | (simp; done) | (simp [go_sem]; done)))); simp only [go_sem, *]) | (refine u7 [0] [] (so) (by simp) ?_ ?_ (by simp) (.inl rfl) ?_ ?_ ?_; (iterate 2 (focus (simp only [go_sem, *]; done))); (iterate 2 (focus (first | (simp; done) | (simp [go_sem]; done)))); simp only [go_sem, *]) | (refine u7 [0] [] (s2) (by simp) ?_ ?_ (by simp) (.inl rfl) ?_ ?_ ?_; (iterate 2 (focus (simp only [go_sem, *]; done))); (iterate 2 (focus (first | (simp; done) | (simp [go_sem]; done)))); simp only [go_sem, *]) | (refine u7 [0] [] (st) (by simp) ?_ ?_ (by simp) (.inl rfl) ?_ ?_ ?_; (iterate 2 (focus (simp only [go_sem, *]; done))); (iterate 2 (focus (first | (simp; done) | (simp [go_sem]; done)))); simp only [go_sem, *]) | ((with_reducible apply And.intro); focus omega) | (refine z8 hK ?_; clear hK; simp only [go_sem, *]) | simp only [z7, z6, go_sem, *])
      all_goals first | contradiction | omega | skip
      exact Z1 (i' := i + 1) [some 0, some 3] [] (d4) (outs ++ [z]) (by exact hnext)
     ·have hq : (Q6 z (toN ((z.length : Int) - 1) d4).toNat, toD ((z.length : Int) - 1) d4) = (y, d9) := hq
      have s5 := W8 d4 ((z.length : Int) - 1) hd4 (by omega)
      have hle := d6 (n := (z.length : Int) - 1) (by omega) d4
      obtain ⟨m, hm0⟩ : ∃ m : Nat, toN ((z.length : Int) - 1) d4 = m := ⟨_, (Int.toNat_of_nonneg hle.1).symm⟩
      rw [hm0] at s5 hle hq
      rw [Int.toNat_natCast] at hq
      have hml : m < z.length := by omega
      have hwz : IntKind.i64.wrap ((z.length : Int) - 1) = (z.length : Int) - 1 := wrap_i64 (by omega) (by omega)
      have hwm : IntKind.i64.wrap ((m : Int) + 1) = ((m + 1 : Nat) : Int) := r9 (by omega)
      generalize toD ((z.length : Int) - 1) d4 = d5 at *
      obtain ⟨e1, e2⟩ := Prod.mk.inj hq
      clear hq hm0 hle
      subst e1 e2
      have hcut : List.take m z ++ List.drop (m + 1) z = Q6 z m := rfl
      repeat' (first | (refine Qr rfl ?_; try intro _ hK; try simp only [go_sem, *]) | (refine Qi rfl rfl rfl rfl ?_ ?_ <;> (intro hb; (try intro _ hK); have hc := hb; try simp only [go_sem] at hc; simp only [go_sem, *])) | refine Qh rfl ?_ | refine Qd rfl (by kernel_rfl) ?_ | (refine Qc rfl rfl ?_ ?_ <;> (intro hb; have hc := hb; try simp only [go_sem] at hc)) | refine q6 rfl ?_ | (refine Qb ?_ ?_; focus kernel_rfl) | (refine u7 [0] [] (sN) (by simp) ?_ ?_ (by simp) (.inl rfl) ?_ ?_ ?_; (iterate 2 (focus (simp only [go_sem, *]; done))); (iterate 2 (focus (first | (simp; done) | (simp [go_sem]; done)))); simp only [go_sem, *]) | (refine u7 [0] [] (so) (by simp) ?_ ?_ (by simp) (.inl rfl) ?_ ?_ ?_; (iterate 2 (focus (simp only [go_sem, *]; done))); (iterate 2 (focus (first | (simp; done) | (simp [go_sem]; done)))); simp only [go_sem, *]) | (refine u7 [0] [] (s2) (by simp) ?_ ?_ (by simp) (.inl rfl) ?_ ?_ ?_; (iterate 2 (focus (simp only [go_sem, *]; done))); (iterate 2 (focus (first | (simp; done) | (simp [go_sem]; done)))); simp only [go_sem, *]) | (refine u7 [0] [] (st) (by simp) ?_ ?_ (by simp) (.inl rfl) ?_ ?_ ?_; (iterate 2 (focus (simp only [go_sem, *]; done))); (iterate 2 (focus (first | (simp; done) | (simp [go_sem]; done)))); simp only [go_sem, *]) | (refine u7 [0] [] (s5) (by simp) ?_ ?_ (by simp) (.inl rfl) ?_ ?_ ?_; (iterate 2 (focus (simp only [go_sem, *]; done))); (iterate 2 (focus (first | (simp; done) | (simp [go_sem]; done)))); simp only [go_sem, *]) | ((with_reducible apply And.intro); focus omega) | (refine z8 hK ?_; clear hK; simp only [go_sem, *]) | simp only [z7, z6, go_sem, *])
      all_goals first | contradiction | omega | skip
      exact Z1 (i' := i + 1) [some 0, some 3] [] (d5) (outs ++ [Q6 z m]) (by exact hnext)
    ·unfold T7 at hq
     rw [if_neg hv] at hq
     obtain ⟨e1, e2⟩ := Prod.mk.inj hq
     clear hq
     subst e1 e2
     by_cases hv1 : 97 ≤ (z.getD 0 0).toNat
     ·have hv2 : ¬ 1 < z.length := fun h => hv ⟨hv1, h⟩
      clear hv
      repeat' (first | (refine Qr rfl ?_; try intro _ hK; try simp only [go_sem, *]) | (refine Qi rfl rfl rfl rfl ?_ ?_ <;> (intro hb; (try intro _ hK); have hc := hb; try simp only [go_sem] at hc; simp only [go_sem, *])) | refine Qh rfl ?_ | refine Qd rfl (by kernel_rfl) ?_ | (refine Qc rfl rfl ?_ ?_ <;> (intro hb; have hc := hb; try simp only [go_sem] at hc)) | refine q6 rfl ?_ | (refine Qb ?_ ?_; focus kernel_rfl) | (refine u7 [0] [] (sN) (by simp) ?_ ?_ (by simp) (.inl rfl) ?_ ?_ ?_; (iterate 2 (focus (simp only [go_sem, *]; done))); (iterate 2 (focus (first | (simp; done) | (simp [go_sem]; done)))); simp only [go_sem, *]) | (refine u7 [0] [] (so) (by simp) ?_ ?_ (by simp) (.inl rfl) ?_ ?_ ?_; (iterate 2 (focus (simp only [go_sem, *]; done))); (iterate 2 (focus (first | (simp; done) | (simp [go_sem]; done)))); simp only [go_sem, *]) | (refine u7 [0] [] (st) (by simp) ?_ ?_ (by simp) (.inl rfl) ?_ ?_ ?_; (iterate 2 (focus (simp only [go_sem, *]; done))); (iterate 2 (focus (first | (simp; done) | (simp [go_sem]; done)))); simp only [go_sem, *]) | ((with_reducible apply And.intro); focus omega) | (refine z8 hK ?_; clear hK; simp only [go_sem, *]) | simp only [z7, z6, go_sem, *])
      all_goals first | contradiction | omega | skip
      exact Z1 (i' := i + 1) [some 0, some 3] [] (d3) (outs ++ [z]) (by exact hnext)
     ·clear hv
      repeat' (first | (refine Qr rfl ?_; try intro _ hK; try simp only [go_sem, *]) | (refine Qi rfl rfl rfl rfl ?_ ?_ <;> (intro hb; (try intro _ hK); have hc := hb; try simp only [go_sem] at hc; simp only [go_sem, *])) | refine Qh rfl ?_ | refine Qd rfl (by kernel_rfl) ?_ | (refine Qc rfl rfl ?_ ?_ <;> (intro hb; have hc := hb; try simp only [go_sem] at hc)) | refine q6 rfl ?_ | (refine Qb ?_ ?_; focus kernel_rfl) | (refine u7 [0] [] (sN) (by simp) ?_ ?_ (by simp) (.inl rfl) ?_ ?_ ?_; (iterate 2 (focus (simp only [go_sem, *]; done))); (iterate 2 (focus (first | (simp; done) | (simp [go_sem]; done)))); simp only [go_sem, *]) | (refine u7 [0] [] (so) (by simp) ?_ ?_ (by simp) (.inl rfl) ?_ ?_ ?_; (iterate 2 (focus (simp only [go_sem, *]; done))); (iterate 2 (focus (first | (simp; done) | (simp [go_sem]; done)))); simp only [go_sem, *]) | (refine u7 [0] [] (st) (by simp) ?_ ?_ (by simp) (.inl rfl) ?_ ?_ ?_; (iterate 2 (focus (simp only [go_sem, *]; done))); (iterate 2 (focus (first | (simp; done) | (simp [go_sem]; done)))); simp only [go_sem, *]) | ((with_reducible apply And.intro); focus omega) | (refine z8 hK ?_; clear hK; simp only [go_sem, *]) | simp only [z7, z6, go_sem, *])
      all_goals first | contradiction | omega | skip
      exact Z1 (i' := i + 1) [some 0, some 3] [] (d3) (outs ++ [z]) (by exact hnext)
  ·unfold b5 at hq
   rw [if_neg h0] at hq
   obtain ⟨e1, e2⟩ := Prod.mk.inj hq
   clear hq
   subst e1 e2
   have h0i : ¬ (0 : Int) < (i : Int) := by omega
   clear hok
   repeat' (first | (refine Qr rfl ?_; try intro _ hK; try simp only [go_sem, *]) | (refine Qi rfl rfl rfl rfl ?_ ?_ <;> (intro hb; (try intro _ hK); have hc := hb; try simp only [go_sem] at hc; simp only [go_sem, *])) | refine Qh rfl ?_ | refine Qd rfl (by kernel_rfl) ?_ | (refine Qc rfl rfl ?_ ?_ <;> (intro hb; have hc := hb; try simp only [go_sem] at hc)) | refine q6 rfl ?_ | (refine Qb ?_ ?_; focus kernel_rfl) | (refine v6 [0] (sN) ?_; simp only [go_sem, *]) | ((with_reducible apply And.intro); focus omega) | (refine z8 hK ?_; clear hK; simp only [go_sem, *]) | simp only [z7, z6, go_sem, *])
   all_goals first | contradiction | omega | skip
   exact Z1 (i' := i + 1) [some 0, some 3] [] (d1) (outs ++ [x]) (by exact hnext)
 ·rw [show n - i = 0 by omega] at hP
  have hP : (outs, d') = T := hP
  subst hP
  have hj : ¬ (0 : Int) < ((n - i : Nat) : Int) := by omega
  clear hok
  repeat' (first | (refine Qr rfl ?_; try intro _ hK; try simp only [go_sem, *]) | (refine Qi rfl rfl rfl rfl ?_ ?_ <;> (intro hb; (try intro _ hK); have hc := hb; try simp only [go_sem] at hc; simp only [go_sem, *])) | refine Qh rfl ?_ | refine Qd rfl (by kernel_rfl) ?_ | (refine Qc rfl rfl ?_ ?_ <;> (intro hb; have hc := hb; try simp only [go_sem] at hc)) | refine q6 rfl ?_ | (refine Qb ?_ ?_; focus kernel_rfl) | ((with_reducible apply And.intro); focus omega) | (refine z8 hK ?_; clear hK; simp only [go_sem, *]) | simp only [z7, z6, go_sem, *])
  all_goals first | contradiction | omega | skip
  refine ⟨[_], [some 0, some 1], [], ⟨rfl, trivial⟩, ?_⟩
  simp only [go_sem, *]
end Go.Abs

namespace Go.Abs
open Go Go.Proofs Tryz
attribute [local irreducible] q9 Hold y8
theorem zG6 (n : Nat) (d : Dice) (out : List Rule) : c9 (n + 1) d out = c9 n (x8 wordsT (x8 wordsF d)) (out ++ [⟨l6 wordsF d, l6 wordsT (x8 wordsF d)⟩]) := rfl
theorem zHq (d : Dice) (many : Int) (h : d.list.length ≤ 4294967296) (hm : 0 ≤ many ∧ many ≤ 1000) :
  zMf prog 35 [.ptr 0 0, iV many] [u5 d] (.own 1 2 0 (T3 d many).1.length) [u5 (T3 d many).2, .row 2 ((T3 d many).1.map Rule.enc)] := by
 have st := W8 d many h (by omega)
 have hle := d6 hm.1 d
 have hT : T3 d many = c9 (toN many d).toNat (toD many d) [] := rfl
 rw [hT]
 clear hT
 obtain ⟨n, hn⟩ : ∃ n : Nat, toN many d = n := ⟨_, (Int.toNat_of_nonneg hle.1).symm⟩
 rw [hn] at st hle ⊢
 rw [Int.toNat_natCast]
 have hn6 : n ≤ 1000 := by omega
 generalize hT3 : c9 n (toD many d) [] = T at *
 have hdl : (toD many d).list.length ≤ 4294967296 := by rw [p7]; exact h
 generalize toD many d = dd at *
 clear hn hle h hm
 refine q7 func35 rfl (fun E hE => ?_); simp only [go_sem, ntmps35]
 repeat' (first | (refine Qr rfl ?_; try intro _ hK; try simp only [go_sem, *]) | refine Qh rfl ?_ | (refine Qc rfl rfl ?_ ?_ <;> (intro hb; have hc := hb; try simp only [go_sem] at hc)) | refine q6 rfl ?_ | (refine v6 [0] (st) ?_; simp only [go_sem, *]) | ((with_reducible apply And.intro); focus omega) | (refine z8 hK ?_; clear hK; simp only [go_sem, *]) | simp only [z7, z6, go_sem, *])
 all_goals try contradiction
 refine N9 rfl (n) (fun i (d' : Dice) (outs : List Rule) => c9 (n - i) d' outs = T ∧ d'.list.length ≤ 4294967296 ∧ outs.length = i) 27 (fun i d' outs => [(6, iV ((n - i : Nat) : Int)), (5, .own 1 2 0 i), (0, .ptr 0 0)]) (fun i d' outs => [u5 d', .row 2 (outs.map Rule.enc)]) [some 0, none] [] (dd) ([]) (by exact ⟨hT3, hdl, rfl⟩) ?_; intro i d' outs hi hP
 clear hT3 hdl st
 obtain ⟨hP, hdl, hlen⟩ := hP
 by_cases hi2 : i < n
 ·rw [show n - i = (n - (i + 1)) + 1 by omega, zG6] at hP
  have s1 := C5 d' wordsF hdl (by decide) (by decide)
  have hd1 : (x8 wordsF d').list.length ≤ 4294967296 := by unfold x8; rw [p7]; exact hdl
  have s2 := C5 (x8 wordsF d') wordsT hd1 (by decide) (by decide)
  have hd2 : (x8 wordsT (x8 wordsF d')).list.length ≤ 4294967296 := by unfold x8; rw [p7]; exact hd1
  generalize x8 wordsF d' = d1 at *
  generalize x8 wordsT d1 = d2 at *
  generalize l6 wordsF d' = u at *
  generalize l6 wordsT d1 = v at *
  have hw2 : IntKind.i64.wrap (((n - i : Nat) : Int) - 1) = ((n - (i + 1) : Nat) : Int) := by rw [wrap_i64 (by omega) (by omega)]; omega
  have hj : (0 : Int) < ((n - i : Nat) : Int) := by omega
  have hnext : c9 (n - (i + 1)) d2 (outs ++ [⟨u, v⟩]) = T ∧ d2.list.length ≤ 4294967296 ∧ (outs ++ [(⟨u, v⟩ : Rule)]).length = i + 1 := ⟨hP, hd2, by simp [hlen]⟩
  have hw0 : y4 wordsF = .list [sV [101], sV [121], sV [115, 104], sV [97], sV [110, 110], sV [116, 104], sV [109]] := rfl
  have hw1 : y4 wordsT = .list [sV [], sV [105], sV [115], sV [116], sV [97, 101], sV [106], sV [110]] := rfl
  rw [hw0] at s1
  rw [hw1] at s2
  clear hw0 hw1 hP
  repeat' (first | (refine Qr rfl ?_; try intro _ hK; try simp only [go_sem, *]) | refine Qh rfl ?_ | (refine Qc rfl rfl ?_ ?_ <;> (intro hb; have hc := hb; try simp only [go_sem] at hc)) | refine q6 rfl ?_ | ((with_reducible apply And.intro); focus omega) | (refine z8 hK ?_; clear hK; simp only [go_sem, *]) | simp only [z7, z6, go_sem, *])
  refine b7 [0] [2] s1 rfl (by simp only [go_sem]) (by simp) ?_ ?_ (by simp [go_sem]) (by simp [go_sem]) ?_
  ·simp only [go_sem, *]
  ·simp only [go_sem, *]
  simp only [go_sem, w8, *]
  repeat' (first | (refine Qr rfl ?_; try intro _ hK; try simp only [go_sem, *]) | refine Qh rfl ?_ | (refine Qc rfl rfl ?_ ?_ <;> (intro hb; have hc := hb; try simp only [go_sem] at hc)) | refine q6 rfl ?_ | ((with_reducible apply And.intro); focus omega) | (refine z8 hK ?_; clear hK; simp only [go_sem, *]) | simp only [z7, z6, go_sem, *])
  refine b7 [0] [3] s2 rfl (by simp only [go_sem]) (by simp) ?_ ?_ (by simp [go_sem]) (by simp [go_sem]) ?_
  ·simp only [go_sem, *]
  ·simp only [go_sem, *]
  simp only [go_sem, w8, *]
  repeat' (first | (refine Qr rfl ?_; try intro _ hK; try simp only [go_sem, *]) | refine Qh rfl ?_ | (refine Qc rfl rfl ?_ ?_ <;> (intro hb; have hc := hb; try simp only [go_sem] at hc)) | refine q6 rfl ?_ | ((with_reducible apply And.intro); focus omega) | (refine z8 hK ?_; clear hK; simp only [go_sem, *]) | simp only [z7, z6, go_sem, *])
  all_goals first | contradiction | omega | skip
  exact Z1 (i' := i + 1) [some 0, some 6] [] (d2) (outs ++ [(⟨u, v⟩ : Rule)]) (by exact hnext)
 ·rw [show n - i = 0 by omega] at hP
  have hP : (outs, d') = T := hP
  subst hP
  have hj : ¬ (0 : Int) < ((n - i : Nat) : Int) := by omega
  repeat' (first | (refine Qr rfl ?_; try intro _ hK; try simp only [go_sem, *]) | refine Qh rfl ?_ | (refine Qc rfl rfl ?_ ?_ <;> (intro hb; have hc := hb; try simp only [go_sem] at hc)) | refine q6 rfl ?_ | ((with_reducible apply And.intro); focus omega) | (refine z8 hK ?_; clear hK; simp only [go_sem, *]) | simp only [z7, z6, go_sem, *])
  all_goals first | contradiction | omega | skip
  refine ⟨[_], [some 0, some 1], [], ⟨rfl, trivial⟩, ?_⟩
  simp only [go_sem, *]
end Go.Abs

namespace Go.Abs
open Go
theorem N0 {α : Type} (cmp : α → α → Int) : ∀ (xs ys : List α) (b : Option α), y6 cmp b (xs ++ ys) = y6 cmp (y6 cmp b xs) ys
 | [], ys, b => by rw [List.nil_append]; cases b <;> rfl
 | x :: r, ys, none => by
  rw [List.cons_append, y6, y6]; exact N0 cmp r ys _
 | x :: r, ys, some y => by
  rw [List.cons_append, y6, y6]
  split
  ·exact N0 cmp r ys _
  ·exact N0 cmp r ys _
theorem zAA {α : Type} (cmp : α → α → Int) (x : α) : ∀ b : Option α, y6 cmp b [x] = match b with
  | none => some x
  | some y => if cmp x y < 0 then some x else some y
 | none => rfl
 | some y => by
  rw [y6]
  by_cases h : cmp x y < 0
  ·simp only [if_pos h, y6]
  ·simp only [if_neg h, y6]
def Z3 (l : List Rule) (to : Str) (n : Nat) (pre : List Str) (S : List Str × Option (List Str)) (s : Str) : List Str × Option (List Str) :=
 if s ∈ S.1 then S else (S.1 ++ [s], y6 zMi S.2 (p9 l to n s pre))
theorem zAD (l : List Rule) (to : Str) (n : Nat) (pre : List Str) : ∀ (L m m' : List Str) (B : Option (List Str)), (∀ x, x ∈ m ↔ x ∈ m') →
  (L.foldl (Z3 l to n pre) (m, B)).2 = y6 zMi B ((X6 m' L).flatMap fun s => p9 l to n s pre)
 | [], m, m', B, _ => by
  simp only [List.foldl_nil, X6, List.flatMap_nil]
  cases B <;> rfl
 | x :: r, m, m', B, h => by
  rw [List.foldl_cons, X6]
  by_cases hx : x ∈ m'
  ·rw [if_pos hx, Z3, if_pos ((h x).2 hx)]
   exact zAD l to n pre r m m' B h
  ·rw [if_neg hx, Z3, if_neg (fun k => hx ((h x).1 k)), List.flatMap_cons, N0]
   exact zAD l to n pre r _ _ _ (fun y => by simp only [List.mem_append, List.mem_cons, List.not_mem_nil, or_false, h y]; exact or_comm)
theorem zFS (l : List Rule) (to : Str) (n : Nat) (now : Str) (pre : List Str) (B : Option (List Str)) :
  ((p8 l now).foldl (Z3 l to n (pre ++ [now])) ([], B)).2 = y6 zMi B (p9 l to (n + 1) now pre) := by
 rw [zAD l to n (pre ++ [now]) (p8 l now) [] [] B (fun _ => Iff.rfl), p9, F5]
def zM2 (m : List Str) (x : Str) : List Str := if x ∈ m then m else m ++ [x]
theorem zGS {m : List Str} {x y : Str} : y ∈ zM2 m x ↔ y ∈ m ∨ y = x := by
 unfold zM2
 split
 ·rename_i h
  constructor
  ·exact .inl
  ·rintro (h2 | rfl)
   ·exact h2
   ·exact h
 ·rw [List.mem_append, List.mem_singleton]
def zMx (k : Str) (m : List Str) (now : Str) : List Str := if now.length < k.length then zM2 m now else m
def goC (k : Str) : Nat → List Str → Str → Nat → List Str
 | 0, m, now, _ => zMx k m now
 | n + 1, m, now, at_ => (List.range' at_ (k.length - at_)).foldl (fun m i => goC k n m (now ++ [k.getD i 0]) (i + 1)) (zMx k m now)
def Z8 (k : Str) (n : Nat) (m : List Str) (now : Str) (i : Nat) : List Str := (List.range' i (k.length - i)).foldl (fun m i => goC k n m (now ++ [k.getD i 0]) (i + 1)) m
theorem zAJ (k : Str) (n : Nat) (m : List Str) (now : Str) (i : Nat) : goC k (n + 1) m now i = Z8 k n (zMx k m now) now i := rfl
theorem F8 {k : Str} {n : Nat} {m : List Str} {now : Str} {i : Nat} (h : k.length ≤ i) : Z8 k n m now i = m := by
 unfold Z8
 rw [show k.length - i = 0 by omega]; rfl
theorem zAI {k : Str} {n : Nat} {m : List Str} {now : Str} {i : Nat} (h : i < k.length) : Z8 k n m now i = Z8 k n (goC k n m (now ++ [k.getD i 0]) (i + 1)) now (i + 1) := by
 unfold Z8
 rw [show k.length - i = (k.length - (i + 1)) + 1 by omega, List.range'_succ, List.foldl_cons]
theorem mem_metC {k : Str} {m : List Str} {now x : Str} : x ∈ zMx k m now ↔ x ∈ m ∨ (x = now ∧ x.length < k.length) := by
 unfold zMx
 split
 ·rename_i h
  rw [zGS]
  constructor
  ·rintro (h1 | rfl)
   ·exact .inl h1
   ·exact .inr ⟨rfl, h⟩
  ·rintro (h1 | ⟨rfl, _⟩)
   ·exact .inl h1
   ·exact .inr rfl
 ·rename_i h
  constructor
  ·exact .inl
  ·rintro (h1 | ⟨rfl, h1⟩)
   ·exact h1
   ·exact absurd h1 h
theorem zAZ {k : Str} : ∀ {n : Nat} {m : List Str} {now : Str} {i : Nat} {x : Str}, k.length - i ≤ n → (x ∈ goC k n m now i ↔ x ∈ m ∨ ∃ t : Str, t.Sublist (k.drop i) ∧ x = now ++ t ∧ x.length < k.length)
 | 0, m, now, i, x, h => by
  rw [goC, mem_metC, List.drop_eq_nil_of_le (by omega)]
  constructor
  ·rintro (h1 | ⟨rfl, h1⟩)
   ·exact .inl h1
   ·exact .inr ⟨[], List.Sublist.refl _, by simp, h1⟩
  ·rintro (h1 | ⟨t, ht, rfl, h1⟩)
   ·exact .inl h1
   ·rw [List.sublist_nil.1 ht] at h1 ⊢
    exact .inr ⟨by simp, h1⟩
 | n + 1, m, now, i, x, h => by
  have key : ∀ (d i : Nat) (m : List Str), k.length - i = d → d ≤ n + 1 → (x ∈ Z8 k n m now i ↔ x ∈ m ∨ ∃ t : Str, t ≠ [] ∧ t.Sublist (k.drop i) ∧ x = now ++ t ∧ x.length < k.length) := by
   intro d
   induction d with
   | zero =>
    intro i m hi _
    rw [F8 (by omega), List.drop_eq_nil_of_le (by omega)]
    constructor
    ·exact .inl
    ·rintro (h1 | ⟨t, hn, ht, _⟩)
     ·exact h1
     ·exact absurd (List.sublist_nil.1 ht) hn
   | succ d ih =>
    intro i m hi hd
    have hlt : i < k.length := by omega
    rw [zAI hlt, ih (i + 1) _ (by omega) (by omega), zAZ (by omega)]
    have hdr : k.drop i = k.getD i 0 :: k.drop (i + 1) := by
     rw [List.drop_eq_getElem_cons hlt]; simp [List.getD, hlt]
    rw [hdr]
    constructor
    ·rintro ((h1 | ⟨t, ht, rfl, h1⟩) | ⟨t, hn, ht, rfl, h1⟩)
     ·exact .inl h1
     ·exact .inr ⟨k.getD i 0 :: t, by simp, ht.cons_cons _, by simp, h1⟩
     ·exact .inr ⟨t, hn, ht.cons _, rfl, h1⟩
    ·rintro (h1 | ⟨t, hn, ht, rfl, h1⟩)
     ·exact .inl (.inl h1)
     ·cases ht with
      | cons _ ht => exact .inr ⟨t, hn, ht, rfl, h1⟩
      | cons_cons _ ht => exact .inl (.inr ⟨_, ht, by simp, h1⟩)
  rw [zAJ, key _ i _ rfl (by omega), mem_metC]
  constructor
  ·rintro ((h1 | ⟨rfl, h1⟩) | ⟨t, _, h2⟩)
   ·exact .inl h1
   ·exact .inr ⟨[], List.nil_sublist _, by simp, h1⟩
   ·exact .inr ⟨t, h2⟩
  ·rintro (h1 | ⟨t, ht, rfl, h1⟩)
   ·exact .inl (.inl h1)
   ·by_cases hn : t = []
    ·subst hn
     exact .inl (.inr ⟨by simp, h1⟩)
    ·exact .inr ⟨t, hn, ht, rfl, h1⟩
def U0 (k : Str) : List Str := goC k k.length [] (k.take 1) 1
theorem zCd {k x : Str} : x ∈ U0 k ↔ X1 k x := by
 unfold U0 X1
 rw [zAZ (by omega)]
 simp
end Go.Abs

namespace Go.Abs
open Go Go.Proofs Tryz
attribute [local irreducible] q9 Hold y8
theorem zCL : Maps.Keyed prog 90 := Maps.Keyed.of_law (WideMaps.string_law (by kernel_rfl))
abbrev zMo (s : Str) : Value := .string ⟨s.toArray⟩
theorem E1 (s : Str) (hs : s.length ≤ 1000) : zM9 prog 90 (zMo s) := by
 have hu : prog.underlying 90 = some .string := by kernel_rfl
 unfold zM9 keyOf
 rw [hu]
 simp [mapKey, hu, maxLen]
 omega
theorem sKey_inj {a b : Str} : zMo a = zMo b ↔ a = b := by simp [zMo]
theorem zAM (h : Str) : ∀ hs : List Str, zMv (zMo h) (hs.map zMo) = if h ∈ hs then some (hs.idxOf h) else none
 | [] => by simp [zMv]
 | x :: r => by
  have ih := zAM h r
  rw [List.map_cons]
  unfold zMv
  by_cases e : x = h
  ·subst e; simp
  ·have e' : ¬ zMo x = zMo h := fun k => e (sKey_inj.1 k)
   rw [if_neg e', ih]
   by_cases hm : h ∈ r
   ·rw [if_pos hm, if_pos (by simp [hm])]
    have hb : (x == h) = false := by simpa using e
    simp [List.idxOf_cons, hb]
   ·rw [if_neg hm, if_neg (by simp only [List.mem_cons, not_or]; exact ⟨fun k => e k.symm, hm⟩)]; rfl
theorem zGI (m : List Str) (s : Str) : Q0 (m.map zMo) (m.map fun _ => bV true) (zMo s) (bV false) = bV (decide (s ∈ m)) := by
 unfold Q0; rw [zAM]
 by_cases hm : s ∈ m
 ·rw [if_pos hm]
  have hlt := List.idxOf_lt_length_of_mem hm
  simp [hlt, hm]
 ·rw [if_neg hm]; simp [hm]
theorem zGp (m : List Str) (s : Str) : zNS (m.map zMo) (zMo s) = (zM2 m s).map zMo ∧ zNT (m.map zMo) (m.map fun _ => bV true) (zMo s) (bV true) = (zM2 m s).map fun _ => bV true := by
 unfold zNS zNT zM2
 rw [zAM]
 by_cases hm : s ∈ m
 ·rw [if_pos hm, if_pos hm]
  refine ⟨rfl, ?_⟩
  have hlt := List.idxOf_lt_length_of_mem hm
  apply List.ext_getElem (by simp)
  intro i h1 h2
  simp [List.getElem_set]
 ·rw [if_neg hm, if_neg hm]
  simp
theorem zCf : zNH prog 155 = some (90, 4) := by kernel_rfl
theorem zCa {m : List Str} {s : Str} {o : Nat} {H : Nat → AObj} {K : Cont} (hm : ∀ x, x ∈ m → x.length ≤ 1000) (hs : s.length ≤ 1000) (ho : H o = .mapo (m.map zMo) (m.map fun _ => bV true)) (hk : K (bV (decide (s ∈ m))) [o] []) : X9 prog 155 (.mp o) (sV s) false H K := by
 have hz : zeroT prog 4 = some (.bool false) := by kernel_rfl
 unfold X9
 rw [zCf]
 simp only [zNM, hz, ho]
 refine ⟨zCL, E1 s hs, by simp [Value.cells, Value.oneCell'], fun q hq => ?_, ?_⟩
 ·obtain ⟨k, hk, rfl⟩ := List.mem_map.1 hq; exact E1 k (hm k hk)
 ·have e : zAV (.bool false) = bV false := rfl
  rw [e, zGI]; simpa using hk
theorem zA3 {m : List Str} {s : Str} {o : Nat} {H : Nat → AObj} {K : Cont} (hm : ∀ x, x ∈ m → x.length ≤ 1000) (hs : s.length ≤ 1000) (ho : H o = .mapo (m.map zMo) (m.map fun _ => bV true)) (hk : K (.tup []) [o] [(o, .mapo ((zM2 m s).map zMo) ((zM2 m s).map fun _ => bV true))]) : Y0 prog 155 (.mp o) (sV s) (bV true) H K := by
 unfold Y0
 rw [zCf]
 simp only [zNM, ho]
 obtain ⟨h1, h2⟩ := zGp m s
 refine ⟨zCL, E1 s hs, fun q hq => ?_, .raw _, rfl, ?_⟩
 ·obtain ⟨k, hk, rfl⟩ := List.mem_map.1 hq; exact E1 k (hm k hk)
 ·have e : zMh H 3 (bV true) = (bV true, []) := rfl
  rw [e, h1, h2]; simpa [w8] using hk
theorem zAr (l : List Str) (h1 : l.length ≤ 4294967296) : zMf prog 148 [y4 l] [] (.own 0 1 0 l.length) [.row 1 (l.map sV)] := by
 cases l with
 | nil =>
  refine zIb (fun a c => ?_)
  refine q7 func148 rfl (fun E hE => ?_); simp only [go_sem, ntmps148]
  repeat' (first | (refine Qr rfl ?_; try intro _ hK; try simp only [go_sem, *]) | refine Qh rfl ?_ | (refine Qc rfl rfl ?_ ?_ <;> (intro hb; have hc := hb; try simp only [go_sem] at hc)) | refine q6 rfl ?_ | ((with_reducible apply And.intro); focus omega) | (refine z8 hK ?_; clear hK; simp only [go_sem, *]) | simp only [z7, z6, go_sem, *])
  ·refine ⟨[_], [none], [], ⟨rfl, trivial⟩, ?_⟩
   simp only [go_sem, *]
   simp
  ·refine ⟨[_], [some 1], [], ⟨rfl, trivial⟩, ?_⟩
   simp only [go_sem, *]
 | cons x r =>
  have h2 : r.length + 1 ≤ 4294967296 := by simpa using h1
  refine q7 func148 rfl (fun E hE => ?_); simp only [go_sem, ntmps148]
  repeat' (first | (refine Qr rfl ?_; try intro _ hK; try simp only [go_sem, *]) | refine Qh rfl ?_ | (refine Qc rfl rfl ?_ ?_ <;> (intro hb; have hc := hb; try simp only [go_sem] at hc)) | refine q6 rfl ?_ | ((with_reducible apply And.intro); focus omega) | (refine z8 hK ?_; clear hK; simp only [go_sem, *]) | simp only [z7, z6, go_sem, *])
  all_goals try contradiction
  refine ⟨fun y hy => ?_, fun y hy => ?_, by omega, by omega, ?_⟩
  ·obtain ⟨z, _, rfl⟩ := List.mem_map.1 hy
   simp [go_sem]
  ·obtain ⟨z, _, rfl⟩ := List.mem_map.1 hy
   simp [go_sem]
  ·repeat' (first | (refine Qr rfl ?_; try intro _ hK; try simp only [go_sem, *]) | refine Qh rfl ?_ | (refine Qc rfl rfl ?_ ?_ <;> (intro hb; have hc := hb; try simp only [go_sem] at hc)) | refine q6 rfl ?_ | ((with_reducible apply And.intro); focus omega) | (refine z8 hK ?_; clear hK; simp only [go_sem, *]) | simp only [z7, z6, go_sem, *])
   refine ⟨[_], [some 1], [], ⟨rfl, trivial⟩, ?_⟩
   simp only [go_sem, *]
end Go.Abs

namespace Go.Abs
open Go Go.Proofs Tryz
attribute [local irreducible] q9 Hold y8
noncomputable def zBk : Code := sub [0, 1, 0, 1, 1, 1] (X2 Tryz.f124)
noncomputable def f7 (fn : FuncId) : LoopK := ⟨fn, #[10], R8 zBk, R9 zBk, 23⟩
def p4 : Option (List Str) → AV
 | none => .raw (.slice none 0 0)
 | some c => y4 c
@[go_sem] theorem zJp : p4 none = .raw (.slice none 0 0) := rfl
@[go_sem] theorem zD5 (c : List Str) : p4 (some c) = .list (c.map sV) := rfl
@[go_sem] theorem zJK (H : Nat → AObj) (m : List (Option Nat)) (ex : List Nat) (B : Option (List Str)) : XpF H m ex (p4 B) (p4 B) ↔ True := by cases B <;> simp [p4, XpF]
@[go_sem] theorem zL2 (f : Nat → Nat) (B : Option (List Str)) : AV.ren f (p4 B) = p4 B := by cases B <;> simp [p4, AV.ren]
@[go_sem] theorem zJz (B : Option (List Str)) : (p4 B).cells = [p4 B] := by cases B <;> rfl
@[go_sem] theorem zLe (B : Option (List Str)) : (p4 B).one = true := by cases B <;> rfl
@[go_sem] theorem zKA (B : Option (List Str)) : (p4 B).flat = true := by cases B <;> rfl
@[go_sem] theorem zML (B : Option (List Str)) : (p4 B).sized = true := by cases B <;> rfl
abbrev b8 : AV := fnV 126
abbrev zJ1 (c : List Str) : Prop := c.length ≤ 1000
theorem zI5 (fn : FuncId) (c : List Str) : l9 prog [y4 c] [.loopo (f7 fn) [(3, .ptr 1 0), (6, .ptr 2 0), (7, .ptr 3 0)] (some none), .box [b8], .box [.raw (.slice none 0 0)], .box [bV false]] (bV true)
  [.loopo (f7 fn) [(3, .ptr 1 0), (6, .ptr 2 0), (7, .ptr 3 0)] (some none), .box [b8], .box [y4 c], .box [bV true]] := by
 refine V3 (L := f7 fn) (env := [(3, .ptr 1 0), (6, .ptr 2 0), (7, .ptr 3 0)]) (j := none) rfl rfl (fun E l hE => ?_)
 refine r5 rfl ?_
 simp only [f7, i8, go_sem]
 repeat' (first | (refine Qr (ops := _ :: _) rfl ?_; try intro _ hK; try simp only [go_sem, *]) | (refine Qi rfl rfl rfl rfl ?_ ?_ <;> (intro hb; (try intro _ hK); have hc := hb; try simp only [go_sem] at hc; simp only [go_sem, *])) | (refine Qb ?_ ?_; focus kernel_rfl) | ((with_reducible apply And.intro); focus omega) | (refine z8 hK ?_; clear hK; simp only [go_sem, *]) | simp only [z7, z6, go_sem, *])
 refine u0 ?_
 refine ⟨by simp only [go_sem], ?_⟩
 refine W4 (id := 1) rfl ?_
 refine c6 rfl ?_
 refine r5 rfl ?_
 simp only [go_sem]
 repeat' (first | (refine Qr (ops := _ :: _) rfl ?_; try intro _ hK; try simp only [go_sem, *]) | (refine Qi rfl rfl rfl rfl ?_ ?_ <;> (intro hb; (try intro _ hK); have hc := hb; try simp only [go_sem] at hc; simp only [go_sem, *])) | (refine Qb ?_ ?_; focus kernel_rfl) | ((with_reducible apply And.intro); focus omega) | (refine z8 hK ?_; clear hK; simp only [go_sem, *]) | simp only [z7, z6, go_sem, *])
 refine u0 ?_
 refine Y6 (t := true) rfl (by simp only [go_sem]) (fun _ => ?_) (fun h => by cases h)
 refine r5 rfl ?_
 simp only [go_sem]
 repeat' (first | (refine Qr (ops := _ :: _) rfl ?_; try intro _ hK; try simp only [go_sem, *]) | (refine Qi rfl rfl rfl rfl ?_ ?_ <;> (intro hb; (try intro _ hK); have hc := hb; try simp only [go_sem] at hc; simp only [go_sem, *])) | (refine Qb ?_ ?_; focus kernel_rfl) | ((with_reducible apply And.intro); focus omega) | (refine z8 hK ?_; clear hK; simp only [go_sem, *]) | simp only [z7, z6, go_sem, *])
 refine u0 ?_
 simp only [z6, go_sem]
 refine ⟨rfl, [some 0, some 1, some 2, some 3], [], ?_⟩
 simp only [go_sem, *]
theorem zI6 (fn : FuncId) (b c : List Str) (hb1 : b.length ≤ 1000) (hc1 : c.length ≤ 1000) : l9 prog [y4 c] [.loopo (f7 fn) [(3, .ptr 1 0), (6, .ptr 2 0), (7, .ptr 3 0)] (some none), .box [b8], .box [y4 b], .box [bV true]] (bV true)
  [.loopo (f7 fn) [(3, .ptr 1 0), (6, .ptr 2 0), (7, .ptr 3 0)] (some none), .box [b8], .box [y4 (if zMi c b < 0 then c else b)], .box [bV true]] := by
 have hca : u9 prog 126 = true := by kernel_rfl
 have sc := zHd c b (by omega) (by omega)
 refine V3 (L := f7 fn) (env := [(3, .ptr 1 0), (6, .ptr 2 0), (7, .ptr 3 0)]) (j := none) rfl rfl (fun E l hE => ?_)
 refine r5 rfl ?_
 simp only [f7, i8, go_sem]
 repeat' (first | (refine Qr (ops := _ :: _) rfl ?_; try intro _ hK; try simp only [go_sem, *]) | (refine Qi rfl rfl rfl rfl ?_ ?_ <;> (intro hb; (try intro _ hK); have hc := hb; try simp only [go_sem] at hc; simp only [go_sem, *])) | (refine Qb ?_ ?_; focus kernel_rfl) | ((with_reducible apply And.intro); focus omega) | (refine z8 hK ?_; clear hK; simp only [go_sem, *]) | simp only [z7, z6, go_sem, *])
 refine u0 ?_
 refine ⟨by simp only [go_sem], ?_⟩
 refine W4 (id := 1) rfl ?_
 refine c6 rfl ?_
 refine r5 rfl ?_
 simp only [go_sem]
 repeat' (first | (refine Qr (ops := _ :: _) rfl ?_; try intro _ hK; try simp only [go_sem, *]) | (refine Qi rfl rfl rfl rfl ?_ ?_ <;> (intro hb; (try intro _ hK); have hc := hb; try simp only [go_sem] at hc; simp only [go_sem, *])) | (refine Qb ?_ ?_; focus kernel_rfl) | ((with_reducible apply And.intro); focus omega) | (refine z8 hK ?_; clear hK; simp only [go_sem, *]) | simp only [z7, z6, go_sem, *])
 refine q8 sc ?_
 simp only [go_sem]
 repeat' (first | (refine Qr (ops := _ :: _) rfl ?_; try intro _ hK; try simp only [go_sem, *]) | (refine Qi rfl rfl rfl rfl ?_ ?_ <;> (intro hb; (try intro _ hK); have hc := hb; try simp only [go_sem] at hc; simp only [go_sem, *])) | (refine Qb ?_ ?_; focus kernel_rfl) | ((with_reducible apply And.intro); focus omega) | (refine z8 hK ?_; clear hK; simp only [go_sem, *]) | simp only [z7, z6, go_sem, *])
 refine u0 ?_
 refine Y6 (t := decide (zMi c b < 0)) rfl (by simp only [go_sem]) (fun h => ?_) (fun h => ?_)
 ·rw [if_pos (by simpa using h)]
  refine r5 rfl ?_
  simp only [go_sem]
  repeat' (first | (refine Qr (ops := _ :: _) rfl ?_; try intro _ hK; try simp only [go_sem, *]) | (refine Qi rfl rfl rfl rfl ?_ ?_ <;> (intro hb; (try intro _ hK); have hc := hb; try simp only [go_sem] at hc; simp only [go_sem, *])) | (refine Qb ?_ ?_; focus kernel_rfl) | ((with_reducible apply And.intro); focus omega) | (refine z8 hK ?_; clear hK; simp only [go_sem, *]) | simp only [z7, z6, go_sem, *])
  refine u0 ?_
  simp only [z6, go_sem]
  refine ⟨rfl, [some 0, some 1, some 2, some 3], [], ?_⟩
  simp only [go_sem, *]
 ·rw [if_neg (by simpa using h)]
  refine L1 rfl ?_
  simp only [z6, go_sem]
  refine ⟨rfl, [some 0, some 1, some 2, some 3], [], ?_⟩
  simp only [go_sem, *]
theorem zI4 (fn : FuncId) (B : Option (List Str)) (c : List Str) (hb1 : ∀ b, B = some b → b.length ≤ 1000) (hc1 : c.length ≤ 1000) : l9 prog [y4 c] [.loopo (f7 fn) [(3, .ptr 1 0), (6, .ptr 2 0), (7, .ptr 3 0)] (some none), .box [b8], .box [p4 B], .box [bV B.isSome]] (bV true)
  [.loopo (f7 fn) [(3, .ptr 1 0), (6, .ptr 2 0), (7, .ptr 3 0)] (some none), .box [b8], .box [p4 (y6 zMi B [c])], .box [bV (y6 zMi B [c]).isSome]] := by
 cases B with
 | none => exact zI5 fn c
 | some b =>
  have := zI6 fn b c (hb1 b rfl) hc1
  rw [zAA]
  by_cases h : zMi c b < 0
  ·simp only [if_pos h] at this ⊢; exact this
  ·simp only [if_neg h] at this ⊢; exact this
end Go.Abs

namespace Go.Abs
open Go Go.Proofs Tryz
attribute [local irreducible] q9 Hold y8
noncomputable def zB1 : Code := sub [0, 1, 0, 1, 1, 1, 1] (X2 Tryz.f147)
noncomputable def N6 (fn : FuncId) : LoopK := ⟨fn, #[34], R8 zB1, R9 zB1, 45⟩
abbrev CS := List Str × Option (List Str)
structure ChainD where
 many : Int
 to : Str
 l : List Rule
 fnG : FuncId
 fnF : FuncId
noncomputable def o9 (o : Nat) (D : ChainD) (chain : List Str) (S : CS) : List AObj :=
 [.loopo (N6 D.fnG) [(11, .ptr (o + 11) 0), (10, .ptr (o + 10) 0), (6, .ptr (o + 5) 0), (9, .ptr (o + 13) 0)] (some none), .box [iV D.many], .box [sV D.to], .box [.yld (o + 6)], .box [w4 D.l],
  .box [.fn 147 [.ptr (o + 1) 0, .ptr (o + 2) 0, .ptr (o + 3) 0, .ptr (o + 4) 0, .ptr (o + 5) 0]],
  .loopo (f7 D.fnF) [(3, .ptr (o + 7) 0), (6, .ptr (o + 8) 0), (7, .ptr (o + 9) 0)] (some none), .box [b8], .box [p4 S.2], .box [bV S.2.isSome], .box [y4 chain], .box [.mp (o + 12)], .mapo (S.1.map zMo) (S.1.map fun _ => bV true), .box [bV false]]
structure UsesD where
 k : Str
 u : Str
 v : Str
 i : Nat
 j : Nat
 l : List Rule
 fnU : FuncId
abbrev zAh (u v : Str) : List AV := [.agg [sV u, sV v], .agg [sV v, sV u]]
noncomputable def zDc : Code := sub [0, 1, 1, 0, 0, 1, 1, 0, 0, 1, 1, 0, 0, 1, 1, 0, 0, 1, 1] (X2 Tryz.f170)
noncomputable def C9 (fn : FuncId) : LoopK := ⟨fn, #[37], R8 zDc, R9 zDc, 44⟩
noncomputable def V2 (D : ChainD) (chain : List Str) (U : UsesD) (S : CS) : List AObj :=
 .loopo (C9 U.fnU) [(3, .ptr 15 0), (2, .ptr 16 0), (25, .own 17 2 0 2), (27, iV U.j), (26, iV 2), (11, iV U.i), (10, iV U.l.length), (9, w4 U.l)] (some none) :: (o9 1 D chain S ++ [.box [.yld 1], .box [sV U.k], .row 2 (zAh U.u U.v)])
attribute [go_sem] o9 V2
theorem zGv {k a b : Str} {i : Nat} (h : i ≤ k.length) : W5 k a b i = (if a.isPrefixOf (k.drop i) = true ∧ x5 (k.take i ++ b ++ k.drop (i + a.length)) 1 12 = true then [k.take i ++ b ++ k.drop (i + a.length)] else []) ++ W5 k a b (i + 1) := by
 unfold W5
 rw [show k.length + 1 - i = (k.length + 1 - (i + 1)) + 1 by omega, List.range'_succ, List.flatMap_cons]
theorem zGu {k a b : Str} {i : Nat} (h : k.length < i) : W5 k a b i = [] := by
 unfold W5
 rw [show k.length + 1 - i = 0 by omega]; rfl
theorem zAj {a x : Str} (h : a.isPrefixOf x = true) : a.length ≤ x.length := (List.isPrefixOf_iff_prefix.1 h).length_le
theorem zIO (D : ChainD) (chain : List Str) (U : UsesD) (zMr : CS → Prop) (step : CS → Str → CS)
  (hy : ∀ S s, zMr S → x5 s 1 12 = true → l9 prog [sV s] (V2 D chain U S) (bV true) (V2 D chain U (step S s))) (hg : ∀ S s, zMr S → x5 s 1 12 = true → zMr (step S s))
  (k a b : Str) (hk1 : k.length ≤ 1000) (ha : a.length ≤ 1000) (hb1 : b.length ≤ 1000) (S0 : CS) (hS : zMr S0) :
  zMf prog 190 [.yld 0, .ptr 18 0, .ptr 19 0, .ptr 20 0] (V2 D chain U S0 ++ [.box [sV k], .box [sV a], .box [sV b]]) (.tup []) (V2 D chain U ((j4 k a b).foldl step S0) ++ [.box [sV k], .box [sV a], .box [sV b]]) := by
 obtain ⟨T, hT⟩ : ∃ T, (j4 k a b).foldl step S0 = T := ⟨_, rfl⟩
 rw [hT]
 have h0 : (W5 k a b 0).foldl step S0 = T := hT
 clear hT
 simp only [V2, o9, List.cons_append, List.nil_append]
 refine q7 func190 rfl (fun E hE => ?_); simp only [go_sem, ntmps190]
 repeat' (first | (refine Qr rfl ?_; try intro _ hK; try simp only [go_sem, *]) | (refine Qi rfl rfl rfl rfl ?_ ?_ <;> (intro hb; (try intro _ hK); have hc := hb; try simp only [go_sem] at hc; simp only [go_sem, *])) | refine Qh rfl ?_ | (refine Qc rfl rfl ?_ ?_ <;> (intro hb; have hc := hb; try simp only [go_sem] at hc)) | refine q6 rfl ?_ | (refine Qb ?_ ?_; focus kernel_rfl) | ((with_reducible apply And.intro); focus omega) | (refine z8 hK ?_; clear hK; simp only [go_sem, *]) | simp only [z7, z6, go_sem, *])
 refine a7 rfl (k.length + 1) (fun i (S : CS) => (W5 k a b i).foldl step S = T ∧ zMr S) 40 (fun i S => [(10, iV i), (9, iV ((k.length + 1 : Nat) : Int)), (0, .yld 0), (1, .ptr 18 0), (2, .ptr 19 0), (3, .ptr 20 0)]) (fun i S => V2 D chain U S ++ [.box [sV k], .box [sV a], .box [sV b]]) [some 0, some 1, some 2, some 3, some 4, some 5, some 6, some 7, some 8, some 9, some 10, some 11, some 12, some 13, some 14, some 15, some 16, some 17, some 18, some 19, some 20] [] (S0) (by exact ⟨h0, hS⟩) ?_; intro i S hi hP
 obtain ⟨hP, hG⟩ := hP
 by_cases hi2 : i ≤ k.length
 ·have hp := zDB (k.drop i) a (by simp; omega) (by omega)
  rw [zGv hi2] at hP
  by_cases q : a.isPrefixOf (k.drop i) = true
  ·rw [q] at hp
   have hle := zAj q
   have hil : i + a.length ≤ k.length := by simp at hle; omega
   have hwl : IntKind.i64.wrap ((i : Int) + (a.length : Int)) = ((i + a.length : Nat) : Int) := by rw [wrap_i64 (by omega) (by omega)]; omega
   obtain ⟨t, ht⟩ : ∃ t, k.take i ++ b ++ k.drop (i + a.length) = t := ⟨_, rfl⟩
   have htl : t.length ≤ 3000 := by rw [← ht]; simp; omega
   have sl := zAx t 1 12 (by omega)
   rw [ht] at hP
   by_cases ql : x5 t 1 12 = true
   ·rw [if_pos ⟨q, ql⟩] at hP
    have hstep := hP
    rw [List.foldl_append] at hstep
    have hyt := hy S t hG ql
    have hgt := hg S t hG ql
    rw [ql] at sl
    clear q hle hP hg hy
    repeat' (first | ((refine P2 5 rfl rfl rfl ?_; simp only [List.take_succ_cons, List.take_zero, List.drop_succ_cons, List.drop_zero])) | (refine Qr rfl ?_; try intro _ hK; try simp only [go_sem, *]) | (refine Qi rfl rfl rfl rfl ?_ ?_ <;> (intro hb; (try intro _ hK); have hc := hb; try simp only [go_sem] at hc; simp only [go_sem, *])) | refine Qh rfl ?_ | refine Qd rfl (by kernel_rfl) ?_ | (refine Qc rfl rfl ?_ ?_ <;> (intro hb; have hc := hb; try simp only [go_sem] at hc)) | refine q6 rfl ?_ | (refine Qb ?_ ?_; focus kernel_rfl) | ((first | refine q8 (hp) ?_ | refine q8 (sl) ?_); simp only [go_sem, *]) | ((with_reducible apply And.intro); focus omega) | (refine z8 hK ?_; clear hK; simp only [go_sem, *]) | simp only [z7, z6, go_sem, *])
    all_goals first | contradiction | omega | skip
    refine zAL rfl rfl (by simp only [go_sem]) ?_
    refine G3 [0, 1, 2, 3, 4, 5, 6, 7, 8, 9, 10, 11, 12, 13, 14, 15, 16, 17] [] hyt rfl rfl (by simp) (by simp only [go_sem]) (by simp only [go_sem]) (by simp) (.inl rfl) (by simp [go_sem]) (by simp [go_sem]) ?_
    simp only [go_sem]
    repeat' (first | (refine Qr rfl ?_; try intro _ hK; try simp only [go_sem, *]) | (refine Qi rfl rfl rfl rfl ?_ ?_ <;> (intro hb; (try intro _ hK); have hc := hb; try simp only [go_sem] at hc; simp only [go_sem, *])) | refine Qh rfl ?_ | refine Qd rfl (by kernel_rfl) ?_ | (refine Qc rfl rfl ?_ ?_ <;> (intro hb; have hc := hb; try simp only [go_sem] at hc)) | refine q6 rfl ?_ | (refine Qb ?_ ?_; focus kernel_rfl) | ((with_reducible apply And.intro); focus omega) | (refine z8 hK ?_; clear hK; simp only [go_sem, *]) | simp only [z7, z6, go_sem, *])
    all_goals first | contradiction | omega | skip
    exact o7 (i' := i + 1) [some 0, some 1, some 2, some 3, some 4, some 5, some 6, some 7, some 8, some 9, some 10, some 11, some 12, some 13, some 14, some 15, some 16, some 17, some 18, some 19, some 20] [] (step S t) (by exact ⟨hstep, hgt⟩)
   ·have ql2 : x5 t 1 12 = false := (Bool.not_eq_true _).mp ql
    rw [if_neg (fun h => ql h.2), List.nil_append] at hP
    rw [ql2] at sl
    clear q hle hg hy ql ql2
    repeat' (first | ((refine P2 5 rfl rfl rfl ?_; simp only [List.take_succ_cons, List.take_zero, List.drop_succ_cons, List.drop_zero])) | (refine Qr rfl ?_; try intro _ hK; try simp only [go_sem, *]) | (refine Qi rfl rfl rfl rfl ?_ ?_ <;> (intro hb; (try intro _ hK); have hc := hb; try simp only [go_sem] at hc; simp only [go_sem, *])) | refine Qh rfl ?_ | refine Qd rfl (by kernel_rfl) ?_ | (refine Qc rfl rfl ?_ ?_ <;> (intro hb; have hc := hb; try simp only [go_sem] at hc)) | refine q6 rfl ?_ | (refine Qb ?_ ?_; focus kernel_rfl) | ((first | refine q8 (hp) ?_ | refine q8 (sl) ?_); simp only [go_sem, *]) | ((with_reducible apply And.intro); focus omega) | (refine z8 hK ?_; clear hK; simp only [go_sem, *]) | simp only [z7, z6, go_sem, *])
    all_goals first | contradiction | omega | skip
    refine zAK rfl rfl (by simp only [go_sem]) ?_
    repeat' (first | (refine Qr rfl ?_; try intro _ hK; try simp only [go_sem, *]) | (refine Qi rfl rfl rfl rfl ?_ ?_ <;> (intro hb; (try intro _ hK); have hc := hb; try simp only [go_sem] at hc; simp only [go_sem, *])) | refine Qh rfl ?_ | refine Qd rfl (by kernel_rfl) ?_ | (refine Qc rfl rfl ?_ ?_ <;> (intro hb; have hc := hb; try simp only [go_sem] at hc)) | refine q6 rfl ?_ | (refine Qb ?_ ?_; focus kernel_rfl) | ((with_reducible apply And.intro); focus omega) | (refine z8 hK ?_; clear hK; simp only [go_sem, *]) | simp only [z7, z6, go_sem, *])
    all_goals first | contradiction | omega | skip
    exact o7 (i' := i + 1) [some 0, some 1, some 2, some 3, some 4, some 5, some 6, some 7, some 8, some 9, some 10, some 11, some 12, some 13, some 14, some 15, some 16, some 17, some 18, some 19, some 20] [] (S) (by exact ⟨hP, hG⟩)
  ·have q2 : a.isPrefixOf (k.drop i) = false := (Bool.not_eq_true _).mp q
   rw [if_neg (fun h => q h.1), List.nil_append] at hP
   rw [q2] at hp
   clear q q2
   repeat' (first | (refine Qr rfl ?_; try intro _ hK; try simp only [go_sem, *]) | (refine Qi rfl rfl rfl rfl ?_ ?_ <;> (intro hb; (try intro _ hK); have hc := hb; try simp only [go_sem] at hc; simp only [go_sem, *])) | refine Qh rfl ?_ | refine Qd rfl (by kernel_rfl) ?_ | (refine Qc rfl rfl ?_ ?_ <;> (intro hb; have hc := hb; try simp only [go_sem] at hc)) | refine q6 rfl ?_ | (refine Qb ?_ ?_; focus kernel_rfl) | (refine q8 (hp) ?_; simp only [go_sem, *]) | ((with_reducible apply And.intro); focus omega) | (refine z8 hK ?_; clear hK; simp only [go_sem, *]) | simp only [z7, z6, go_sem, *])
   all_goals first | contradiction | omega | skip
   exact o7 (i' := i + 1) [some 0, some 1, some 2, some 3, some 4, some 5, some 6, some 7, some 8, some 9, some 10, some 11, some 12, some 13, some 14, some 15, some 16, some 17, some 18, some 19, some 20] [] (S) (by exact ⟨hP, hG⟩)
 ·rw [zGu (by omega)] at hP
  have hP : S = T := hP
  subst hP
  repeat' (first | (refine Qr rfl ?_; try intro _ hK; try simp only [go_sem, *]) | (refine Qi rfl rfl rfl rfl ?_ ?_ <;> (intro hb; (try intro _ hK); have hc := hb; try simp only [go_sem] at hc; simp only [go_sem, *])) | refine Qh rfl ?_ | refine Qd rfl (by kernel_rfl) ?_ | (refine Qc rfl rfl ?_ ?_ <;> (intro hb; have hc := hb; try simp only [go_sem] at hc)) | refine q6 rfl ?_ | (refine Qb ?_ ?_; focus kernel_rfl) | ((with_reducible apply And.intro); focus omega) | (refine z8 hK ?_; clear hK; simp only [go_sem, *]) | simp only [z7, z6, go_sem, *])
  all_goals first | contradiction | omega | skip
  refine ⟨[], [some 0, some 1, some 2, some 3, some 4, some 5, some 6, some 7, some 8, some 9, some 10, some 11, some 12, some 13, some 14, some 15, some 16, some 17, some 18, some 19, some 20], [], trivial, ?_⟩
  simp only [go_sem, i6, *]
end Go.Abs

namespace Go.Abs
open Go Go.Proofs Tryz
attribute [local irreducible] q9 Hold y8
theorem zIN (k a b : Str) : zMf prog 171 [sV k, sV a, sV b] [] (.fn 190 [.ptr 0 0, .ptr 1 0, .ptr 2 0]) [.box [sV k], .box [sV a], .box [sV b]] := by
 refine q7 func171 rfl (fun E hE => ?_); simp only [go_sem, ntmps171]
 repeat' (first | (refine Qr rfl ?_; try intro _ hK; try simp only [go_sem, *]) | refine Qh rfl ?_ | (refine Qc rfl rfl ?_ ?_ <;> (intro hb; have hc := hb; try simp only [go_sem] at hc)) | refine q6 rfl ?_ | ((with_reducible apply And.intro); focus omega) | (refine z8 hK ?_; clear hK; simp only [go_sem, *]) | simp only [z7, z6, go_sem, *])
 refine ⟨[_], [some 0, some 1, some 2], [], ⟨rfl, trivial⟩, ?_⟩
 simp only [go_sem, *]
theorem zIX (k : Str) (l : List Rule) : zMf prog 149 [sV k, w4 l] [] (.fn 170 [.ptr 0 0, .ptr 1 0]) [.box [w4 l], .box [sV k]] := by
 refine q7 func149 rfl (fun E hE => ?_); simp only [go_sem, ntmps149]
 repeat' (first | (refine Qr rfl ?_; try intro _ hK; try simp only [go_sem, *]) | refine Qh rfl ?_ | (refine Qc rfl rfl ?_ ?_ <;> (intro hb; have hc := hb; try simp only [go_sem] at hc)) | refine q6 rfl ?_ | ((with_reducible apply And.intro); focus omega) | (refine z8 hK ?_; clear hK; simp only [go_sem, *]) | simp only [z7, z6, go_sem, *])
 refine ⟨[_], [some 1, some 0], [], ⟨rfl, trivial⟩, ?_⟩
 simp only [go_sem, *]
theorem zJF (D : ChainD) (chain : List Str) (U : UsesD) (S S' : CS) (s : Str) (hyG : l9 prog [sV s] (o9 0 D chain S) (bV true) (o9 0 D chain S')) : l9 prog [sV s] (V2 D chain U S) (bV true) (V2 D chain U S') := by
 refine V3 (L := C9 U.fnU) (env := [(3, .ptr 15 0), (2, .ptr 16 0), (25, .own 17 2 0 2), (27, iV U.j), (26, iV 2), (11, iV U.i), (10, iV U.l.length), (9, w4 U.l)]) (j := none) rfl rfl (fun E l hE => ?_)
 refine r5 rfl ?_
 simp only [C9, i8, go_sem]
 repeat' (first | (refine Qr (ops := _ :: _) rfl ?_; try intro _ hK; try simp only [go_sem, *]) | (refine Qi rfl rfl rfl rfl ?_ ?_ <;> (intro hb; (try intro _ hK); have hc := hb; try simp only [go_sem] at hc; simp only [go_sem, *])) | (refine Qb ?_ ?_; focus kernel_rfl) | ((with_reducible apply And.intro); focus omega) | (refine z8 hK ?_; clear hK; simp only [go_sem, *]) | simp only [z7, z6, go_sem, *])
 refine u0 ?_
 refine ⟨by simp only [go_sem], ?_⟩
 refine W4 (id := 5) rfl ?_
 refine c6 rfl ?_
 refine zGr 2 rfl rfl rfl ?_
 simp only [List.take_succ_cons, List.take_zero, List.drop_succ_cons, List.drop_zero, go_sem]
 repeat' (first | (refine Qr (ops := _ :: _) rfl ?_; try intro _ hK; try simp only [go_sem, *]) | (refine Qi rfl rfl rfl rfl ?_ ?_ <;> (intro hb; (try intro _ hK); have hc := hb; try simp only [go_sem] at hc; simp only [go_sem, *])) | (refine Qb ?_ ?_; focus kernel_rfl) | ((with_reducible apply And.intro); focus omega) | (refine z8 hK ?_; clear hK; simp only [go_sem, *]) | simp only [z7, z6, go_sem, *])
 refine u0 ?_
 refine zB2 rfl ?_
 refine ⟨by show 40 < 44; omega, ?_⟩
 simp only [go_sem]
 refine G3 [1, 2, 3, 4, 5, 6, 7, 8, 9, 10, 11, 12, 13, 14] [] hyG rfl rfl (by simp) (by simp only [go_sem]) (by simp only [go_sem]) (by simp) (.inl rfl) (by simp [go_sem]) (by simp [go_sem]) ?_
 simp only [go_sem]
 repeat' (first | (refine Qr (ops := _ :: _) rfl ?_; try intro _ hK; try simp only [go_sem, *]) | (refine Qi rfl rfl rfl rfl ?_ ?_ <;> (intro hb; (try intro _ hK); have hc := hb; try simp only [go_sem] at hc; simp only [go_sem, *])) | (refine Qb ?_ ?_; focus kernel_rfl) | ((with_reducible apply And.intro); focus omega) | (refine z8 hK ?_; clear hK; simp only [go_sem, *]) | simp only [z7, z6, go_sem, *])
 refine u0 ?_
 refine Y6 (t := false) rfl (by simp only [go_sem]) (fun h => by cases h) (fun _ => ?_)
 refine L1 rfl ?_
 simp only [z6, go_sem]
 refine ⟨rfl, [some 0, some 1, some 2, some 3, some 4, some 5, some 6, some 7, some 8, some 9, some 10, some 11, some 12, some 13, some 14, some 15, some 16, some 17], [], ?_⟩
 simp only [go_sem, *]
theorem zIn {l : List Rule} {k : Str} {i : Nat} (h : i < l.length) : p8 (l.drop i) k = (j4 k (l.getD i default).src (l.getD i default).dst ++ j4 k (l.getD i default).dst (l.getD i default).src) ++ p8 (l.drop (i + 1)) k := by
 rw [o3 h]; rfl
def M6 (k u v : Str) : Nat → List Str
 | 0 => j4 k u v ++ j4 k v u
 | 1 => j4 k v u
 | _ => []
theorem zGk (k u v : Str) {j : Nat} (h : j < 2) : ∃ x y : Str, ([.agg [sV u, sV v], .agg [sV v, sV u]] : List AV).getD j .any = .agg [sV x, sV y] ∧ M6 k u v j = j4 k x y ++ M6 k u v (j + 1) ∧ (x = u ∧ y = v ∨ x = v ∧ y = u) := by
 rcases (by omega : j = 0 ∨ j = 1) with rfl | rfl
 ·exact ⟨u, v, rfl, rfl, .inl ⟨rfl, rfl⟩⟩
 ·exact ⟨v, u, rfl, by simp [M6], .inr ⟨rfl, rfl⟩⟩
theorem zB0 {zMr : CS → Prop} {step : CS → Str → CS} (hg : ∀ S s, zMr S → x5 s 1 12 = true → zMr (step S s)) : ∀ (L : List Str) (S : CS), (∀ s, s ∈ L → x5 s 1 12 = true) → zMr S → zMr (L.foldl step S)
 | [], _, _, h => h
 | x :: r, S, hl, h => zB0 hg r _ (fun s hs => hl s (by simp [hs])) (hg S x h (hl x (by simp)))
theorem zGw {k a b s : Str} (h : s ∈ j4 k a b) : x5 s 1 12 = true := by
 obtain ⟨_, _, _, h, _⟩ := mem_replacedN.1 h; exact h
theorem zIY (D : ChainD) (chain : List Str) (zMr : CS → Prop) (step : CS → Str → CS)
    (hy : ∀ S s, zMr S → x5 s 1 12 = true → l9 prog [sV s] (o9 0 D chain S) (bV true) (o9 0 D chain (step S s))) (hg : ∀ S s, zMr S → x5 s 1 12 = true → zMr (step S s))
    (k : Str) (l : List Rule) (hk1 : k.length ≤ 1000) (hl : l.length ≤ 1000) (hr : ∀ r, r ∈ l → r.src.length ≤ 1000 ∧ r.dst.length ≤ 1000) (S0 : CS) (hS : zMr S0) :
    zMf prog 170 [.yld 0, .ptr 14 0, .ptr 15 0] (o9 0 D chain S0 ++ [.box [w4 l], .box [sV k]]) (.tup []) (o9 0 D chain ((p8 l k).foldl step S0) ++ [.box [w4 l], .box [sV k]]) := by
  obtain ⟨T, hT⟩ : ∃ T, (p8 l k).foldl step S0 = T := ⟨_, rfl⟩
  rw [hT]
  have h0 : (p8 (l.drop 0) k).foldl step S0 = T := hT
  clear hT
  simp only [o9, List.cons_append, List.nil_append]
  refine q7 func170 rfl (fun E hE => ?_); simp only [go_sem, ntmps170]
  repeat' (first | (refine Qr rfl ?_; try intro _ hK; try simp only [go_sem, *]) | refine Qh rfl ?_ | (refine Qc rfl rfl ?_ ?_ <;> (intro hb; have hc := hb; try simp only [go_sem] at hc)) | refine q6 rfl ?_ | ((with_reducible apply And.intro); focus omega) | (refine z8 hK ?_; clear hK; simp only [go_sem, *]) | simp only [z7, z6, go_sem, *])
  refine a7 rfl (l.length) (fun i (S : CS) => (p8 (l.drop i) k).foldl step S = T ∧ zMr S) 44 (fun i S => [(11, iV i), (10, iV l.length), (9, w4 l), (3, .ptr 16 0), (2, .ptr 15 0)]) (fun i S => o9 0 D chain S ++ [.box [w4 l], .box [sV k], .box [.yld 0]]) [some 0, some 1, some 2, some 3, some 4, some 5, some 6, some 7, some 8, some 9, some 10, some 11, some 12, some 13, some 14, some 15, some 16] [] (S0) (by exact ⟨h0, hS⟩) ?_; intro i S hi hP
  obtain ⟨hP, hG⟩ := hP
  by_cases hi2 : i < l.length
  · have hrl := hr _ (j3 hi2)
    rw [zIn hi2] at hP
    generalize hsu : (l.getD i default).src = u at *
    generalize hsv : (l.getD i default).dst = v at *
    rw [List.foldl_append] at hP
    have hQ0 : (p8 (l.drop (i + 1)) k).foldl step ((M6 k u v 0).foldl step S) = T := hP
    clear hP hr
    repeat' (first | (refine Qr rfl ?_; try intro _ hK; try simp only [go_sem, *]) | refine Qh rfl ?_ | (refine Qc rfl rfl ?_ ?_ <;> (intro hb; have hc := hb; try simp only [go_sem] at hc)) | refine q6 rfl ?_ | ((with_reducible apply And.intro); focus omega) | (refine z8 hK ?_; clear hK; simp only [go_sem, *]) | simp only [z7, z6, go_sem, *])
    refine a7 rfl (2) (fun j (S2 : CS) => (p8 (l.drop (i + 1)) k).foldl step ((M6 k u v j).foldl step S2) = T ∧ zMr S2) 44 (fun j S2 => [(27, iV j), (26, iV 2), (25, .own 17 2 0 2), (11, iV i), (10, iV l.length), (9, w4 l), (3, .ptr 16 0), (2, .ptr 15 0)]) (fun j S2 => o9 0 D chain S2 ++ [.box [w4 l], .box [sV k], .box [.yld 0], .row 2 (zAh u v)]) [some 0, some 1, some 2, some 3, some 4, some 5, some 6, some 7, some 8, some 9, some 10, some 11, some 12, some 13, some 14, some 15, some 16, some 18] [] (S) (by exact ⟨hQ0, hG⟩) ?_; intro j S2 hj hQ
    obtain ⟨hQ, hG2⟩ := hQ
    by_cases hj2 : j < 2
    · obtain ⟨x, y, hxy, hst, hlen⟩ := zGk k u v hj2
      rw [hst, List.foldl_append] at hQ
      have sr := zIN k x y
      have hxl : x.length ≤ 1000 ∧ y.length ≤ 1000 := by
        rcases hlen with ⟨rfl, rfl⟩ | ⟨rfl, rfl⟩
        · exact hrl
        · exact ⟨hrl.2, hrl.1⟩
      have s1 := fun fn => zIO D chain ⟨k, u, v, i, j, l, fn⟩ zMr step (fun S s h1 h2 => zJF D chain _ S _ s (hy S s h1 h2)) hg k x y hk1 hxl.1 hxl.2 S2 hG2
      have hG3 := zB0 hg (j4 k x y) S2 (fun s hs => zGw hs) hG2
      obtain ⟨S3, hS3⟩ : ∃ S3, (j4 k x y).foldl step S2 = S3 := ⟨_, rfl⟩
      rw [hS3] at hQ hG3
      simp only [hS3] at s1
      clear hlen hst hS3 hy hg hrl hxl hG2
      repeat' (first | (refine Qr rfl ?_; try intro _ hK; try simp only [go_sem, *]) | refine Qh rfl ?_ | (refine Qc rfl rfl ?_ ?_ <;> (intro hb; have hc := hb; try simp only [go_sem] at hc)) | refine q6 rfl ?_ | ((with_reducible apply And.intro); focus omega) | (refine z8 hK ?_; clear hK; simp only [go_sem, *]) | simp only [z7, z6, go_sem, *])
      refine j0 sr ?_ (hu := by (intro j hj; simp only [List.length_cons, List.length_nil] at hj; (obtain rfl | rfl | rfl : j = 0 ∨ j = 1 ∨ j = 2 := by omega) <;> simp [go_sem]))
      simp only [go_sem, *]
      repeat' (first | (refine Qr rfl ?_; try intro _ hK; try simp only [go_sem, *]) | refine Qh rfl ?_ | (refine Qc rfl rfl ?_ ?_ <;> (intro hb; have hc := hb; try simp only [go_sem] at hc)) | refine q6 rfl ?_ | ((with_reducible apply And.intro); focus omega) | (refine z8 hK ?_; clear hK; simp only [go_sem, *]) | simp only [z7, z6, go_sem, *])
      refine Q7 (N := 44) (env := [(36, .fn 190 [.ptr 18 0, .ptr 19 0, .ptr 20 0]), (27, iV j), (26, iV 2), (25, .own 17 2 0 2), (11, iV i), (10, iV l.length), (9, w4 l), (3, .ptr 16 0), (2, .ptr 15 0)]) (As := o9 0 D chain S2 ++ [.box [w4 l], .box [sV k], .box [.yld 0], .row 2 (zAh u v), .box [sV k], .box [sV x], .box [sV y]]) [some 0, some 1, some 2, some 3, some 4, some 5, some 6, some 7, some 8, some 9, some 10, some 11, some 12, some 13, some 14, some 15, some 16, some 17, some 19, some 20, some 21] [] (by (simp only [Weak, go_sem, List.map_append, List.map_set, *] <;> (try simp (disch := omega) only [r9]) <;> (try simp) <;> (try omega))) ?_
      refine H7 (f := 190) (caps := [.ptr 18 0, .ptr 19 0, .ptr 20 0]) rfl (by simp only [go_sem]) (by kernel_rfl) (nx := 21) (by simp only [go_sem]) (fun fn => ⟨22, ?_⟩)
      refine u7 [21, 0, 1, 2, 3, 4, 5, 6, 7, 8, 9, 10, 11, 12, 13, 16, 15, 17, 18, 19, 20] [] (s1 fn) (by simp) (by simp only [go_sem]) ?_ (by simp) (.inl rfl) (by simp [go_sem]) (by simp [go_sem]) ?_
      · simp only [go_sem, *]
        rfl
      · simp only [go_sem, *]
        refine ⟨C9 fn, [(3, .ptr 16 0), (2, .ptr 15 0), (25, .own 17 2 0 2), (27, iV j), (26, iV 2), (11, iV i), (10, iV l.length), (9, w4 l)], none, by simp only [go_sem], ?_⟩
        simp only [go_sem]
        repeat' (first | (refine Qr rfl ?_; try intro _ hK; try simp only [go_sem, *]) | refine Qh rfl ?_ | (refine Qc rfl rfl ?_ ?_ <;> (intro hb; have hc := hb; try simp only [go_sem] at hc)) | refine q6 rfl ?_ | ((with_reducible apply And.intro); focus omega) | (refine z8 hK ?_; clear hK; simp only [go_sem, *]) | simp only [z7, z6, go_sem, *])
        all_goals first | contradiction | omega | skip
        exact o7 (i' := j + 1) [some 0, some 1, some 2, some 3, some 4, some 5, some 6, some 7, some 8, some 9, some 10, some 11, some 12, some 13, some 14, some 15, some 16, some 17] [] (S3) (by exact ⟨hQ, hG3⟩)
    · have e2 : M6 k u v j = [] := by
        rcases (by omega : j = 2) with rfl
        rfl
      rw [e2] at hQ
      have hQ : (p8 (l.drop (i + 1)) k).foldl step S2 = T := hQ
      repeat' (first | (refine Qr rfl ?_; try intro _ hK; try simp only [go_sem, *]) | refine Qh rfl ?_ | (refine Qc rfl rfl ?_ ?_ <;> (intro hb; have hc := hb; try simp only [go_sem] at hc)) | refine q6 rfl ?_ | ((with_reducible apply And.intro); focus omega) | (refine z8 hK ?_; clear hK; simp only [go_sem, *]) | simp only [z7, z6, go_sem, *])
      all_goals first | contradiction | omega | skip
      exact o7 (i' := i + 1) [some 0, some 1, some 2, some 3, some 4, some 5, some 6, some 7, some 8, some 9, some 10, some 11, some 12, some 13, some 14, some 15, some 16] [] (S2) (by exact ⟨hQ, hG2⟩)
  · have e : l.drop i = [] := f5 (by omega)
    rw [e] at hP
    have hP : S = T := hP
    subst hP
    repeat' (first | (refine Qr rfl ?_; try intro _ hK; try simp only [go_sem, *]) | refine Qh rfl ?_ | (refine Qc rfl rfl ?_ ?_ <;> (intro hb; have hc := hb; try simp only [go_sem] at hc)) | refine q6 rfl ?_ | ((with_reducible apply And.intro); focus omega) | (refine z8 hK ?_; clear hK; simp only [go_sem, *]) | simp only [z7, z6, go_sem, *])
    all_goals first | contradiction | omega | skip
    refine ⟨[], [some 0, some 1, some 2, some 3, some 4, some 5, some 6, some 7, some 8, some 9, some 10, some 11, some 12, some 13, some 14, some 15], [], trivial, ?_⟩
    simp only [go_sem, i6, *]
end Go.Abs

namespace Go.Abs
open Go Go.Proofs Tryz
attribute [local irreducible] q9 Hold y8
noncomputable def f0 (o : Nat) (D : ChainD) (B : Option (List Str)) : List AObj :=
 [.box [iV D.many], .box [sV D.to], .box [.yld (o + 5)], .box [w4 D.l],
  .box [.fn 147 [.ptr o 0, .ptr (o + 1) 0, .ptr (o + 2) 0, .ptr (o + 3) 0, .ptr (o + 4) 0]],
  .loopo (f7 D.fnF) [(3, .ptr (o + 6) 0), (6, .ptr (o + 7) 0), (7, .ptr (o + 8) 0)] (some none), .box [b8], .box [p4 B], .box [bV B.isSome]]
attribute [go_sem] f0
abbrev N5 (s : Str) (chain : List Str) : List AV := [sV s, y4 chain, .ptr 0 0, .ptr 1 0, .ptr 2 0, .ptr 3 0, .ptr 4 0]
theorem zJE (D : ChainD) (chain : List Str) (S : CS) (s : Str) (hm : ∀ x, x ∈ S.1 → x.length ≤ 1000) (hs : s.length ≤ 1000) (h : s ∈ S.1) :
  l9 prog [sV s] (o9 0 D chain S) (bV true) (o9 0 D chain S) := by
 refine V3 (L := N6 D.fnG) (env := [(11, .ptr 11 0), (10, .ptr 10 0), (6, .ptr 5 0), (9, .ptr 13 0)]) (j := none) rfl rfl (fun E l hE => ?_)
 refine r5 rfl ?_
 simp only [N6, i8, go_sem]
 repeat' (first | (refine Qr (ops := _ :: _) rfl ?_; try intro _ hK; try simp only [go_sem, *]) | (refine Qi rfl rfl rfl rfl ?_ ?_ <;> (intro hb; (try intro _ hK); have hc := hb; try simp only [go_sem] at hc; simp only [go_sem, *])) | (refine Qb ?_ ?_; focus kernel_rfl) | ((with_reducible apply And.intro); focus omega) | (refine z8 hK ?_; clear hK; simp only [go_sem, *]) | simp only [z7, z6, go_sem, *])
 refine u0 ?_
 refine ⟨by simp only [go_sem], ?_⟩
 refine W4 (id := 1) rfl ?_
 refine c6 rfl ?_
 refine c6 rfl ?_
 refine r5 rfl ?_
 simp only [go_sem]
 repeat' (first | (refine Qr (ops := _ :: _) rfl ?_; try intro _ hK; try simp only [go_sem, *]) | (refine Qi rfl rfl rfl rfl ?_ ?_ <;> (intro hb; (try intro _ hK); have hc := hb; try simp only [go_sem] at hc; simp only [go_sem, *])) | (refine Qb ?_ ?_; focus kernel_rfl) | ((with_reducible apply And.intro); focus omega) | (refine z8 hK ?_; clear hK; simp only [go_sem, *]) | simp only [z7, z6, go_sem, *])
 refine zCa hm hs (by simp only [go_sem]) ?_
 simp only [go_sem, *]
 repeat' (first | (refine Qr (ops := _ :: _) rfl ?_; try intro _ hK; try simp only [go_sem, *]) | (refine Qi rfl rfl rfl rfl ?_ ?_ <;> (intro hb; (try intro _ hK); have hc := hb; try simp only [go_sem] at hc; simp only [go_sem, *])) | (refine Qb ?_ ?_; focus kernel_rfl) | ((with_reducible apply And.intro); focus omega) | (refine z8 hK ?_; clear hK; simp only [go_sem, *]) | simp only [z7, z6, go_sem, *])
 refine u0 ?_
 refine Y6 (t := true) rfl (by simp only [go_sem]) (fun _ => ?_) (fun h => by cases h)
 refine zGq rfl ?_
 simp only [z7, z6, go_sem]
 refine ⟨rfl, [some 0, some 1, some 2, some 3, some 4, some 5, some 6, some 7, some 8, some 9, some 10, some 11, some 12, some 13], [], ?_⟩
 simp only [go_sem, *]
theorem zJD (D : ChainD) (chain : List Str) (S : CS) (B' : Option (List Str)) (s : Str) (hm : ∀ x, x ∈ S.1 → x.length ≤ 1000) (hs : s.length ≤ 1000) (h : s ∉ S.1)
  (sg : zMf prog 147 (N5 s chain) (f0 0 D S.2) (bV true) (f0 0 D B')) :
  l9 prog [sV s] (o9 0 D chain S) (bV true) (o9 0 D chain (S.1 ++ [s], B')) := by
 have hca : u9 prog 147 = true := by kernel_rfl
 have hput : zM2 S.1 s = S.1 ++ [s] := by unfold zM2; rw [if_neg h]
 refine V3 (L := N6 D.fnG) (env := [(11, .ptr 11 0), (10, .ptr 10 0), (6, .ptr 5 0), (9, .ptr 13 0)]) (j := none) rfl rfl (fun E l hE => ?_)
 refine r5 rfl ?_
 simp only [N6, i8, go_sem]
 repeat' (first | (refine Qr (ops := _ :: _) rfl ?_; try intro _ hK; try simp only [go_sem, *]) | (refine Qi rfl rfl rfl rfl ?_ ?_ <;> (intro hb; (try intro _ hK); have hc := hb; try simp only [go_sem] at hc; simp only [go_sem, *])) | (refine Qb ?_ ?_; focus kernel_rfl) | ((with_reducible apply And.intro); focus omega) | (refine z8 hK ?_; clear hK; simp only [go_sem, *]) | simp only [z7, z6, go_sem, *])
 refine u0 ?_
 refine ⟨by simp only [go_sem], ?_⟩
 refine W4 (id := 1) rfl ?_
 refine c6 rfl ?_
 refine c6 rfl ?_
 refine r5 rfl ?_
 try simp only [go_sem]
 repeat' (first | (refine Qr (ops := _ :: _) rfl ?_; try intro _ hK; try simp only [go_sem, *]) | (refine Qi rfl rfl rfl rfl ?_ ?_ <;> (intro hb; (try intro _ hK); have hc := hb; try simp only [go_sem] at hc; simp only [go_sem, *])) | (refine Qb ?_ ?_; focus kernel_rfl) | ((with_reducible apply And.intro); focus omega) | (refine z8 hK ?_; clear hK; simp only [go_sem, *]) | simp only [z7, z6, go_sem, *])
 refine zCa hm hs (by simp only [go_sem]) ?_
 simp only [go_sem, *]
 repeat' (first | (refine Qr (ops := _ :: _) rfl ?_; try intro _ hK; try simp only [go_sem, *]) | (refine Qi rfl rfl rfl rfl ?_ ?_ <;> (intro hb; (try intro _ hK); have hc := hb; try simp only [go_sem] at hc; simp only [go_sem, *])) | (refine Qb ?_ ?_; focus kernel_rfl) | ((with_reducible apply And.intro); focus omega) | (refine z8 hK ?_; clear hK; simp only [go_sem, *]) | simp only [z7, z6, go_sem, *])
 refine u0 ?_
 refine Y6 (t := false) rfl (by simp only [go_sem]) (fun h => by cases h) (fun _ => ?_)
 refine L1 rfl ?_
 refine c6 rfl ?_
 refine r5 rfl ?_
 try simp only [go_sem]
 repeat' (first | (refine Qr (ops := _ :: _) rfl ?_; try intro _ hK; try simp only [go_sem, *]) | (refine Qi rfl rfl rfl rfl ?_ ?_ <;> (intro hb; (try intro _ hK); have hc := hb; try simp only [go_sem] at hc; simp only [go_sem, *])) | (refine Qb ?_ ?_; focus kernel_rfl) | ((with_reducible apply And.intro); focus omega) | (refine z8 hK ?_; clear hK; simp only [go_sem, *]) | simp only [z7, z6, go_sem, *])
 refine zA3 hm hs (by simp only [go_sem]) ?_
 rw [hput]
 repeat' (first | (refine Qr (ops := _ :: _) rfl ?_; try intro _ hK; try simp only [go_sem, *]) | (refine Qi rfl rfl rfl rfl ?_ ?_ <;> (intro hb; (try intro _ hK); have hc := hb; try simp only [go_sem] at hc; simp only [go_sem, *])) | (refine Qb ?_ ?_; focus kernel_rfl) | ((with_reducible apply And.intro); focus omega) | (refine z8 hK ?_; clear hK; simp only [go_sem, *]) | simp only [z7, z6, go_sem, *])
 refine u0 ?_
 refine c6 rfl ?_
 refine r5 rfl ?_
 try simp only [go_sem]
 repeat' (first | (refine Qr (ops := _ :: _) rfl ?_; try intro _ hK; try simp only [go_sem, *]) | (refine Qi rfl rfl rfl rfl ?_ ?_ <;> (intro hb; (try intro _ hK); have hc := hb; try simp only [go_sem] at hc; simp only [go_sem, *])) | (refine Qb ?_ ?_; focus kernel_rfl) | ((with_reducible apply And.intro); focus omega) | (refine z8 hK ?_; clear hK; simp only [go_sem, *]) | simp only [z7, z6, go_sem, *])
 refine v6 [1, 2, 3, 4, 5, 6, 7, 8, 9] sg ?_
 simp only [go_sem, *]
 repeat' (first | (refine Qr (ops := _ :: _) rfl ?_; try intro _ hK; try simp only [go_sem, *]) | (refine Qi rfl rfl rfl rfl ?_ ?_ <;> (intro hb; (try intro _ hK); have hc := hb; try simp only [go_sem] at hc; simp only [go_sem, *])) | (refine Qb ?_ ?_; focus kernel_rfl) | ((with_reducible apply And.intro); focus omega) | (refine z8 hK ?_; clear hK; simp only [go_sem, *]) | simp only [z7, z6, go_sem, *])
 refine u0 ?_
 refine Y6 (t := false) rfl (by simp only [go_sem]) (fun h => by cases h) (fun _ => ?_)
 refine L1 rfl ?_
 simp only [z6, go_sem]
 refine ⟨rfl, [some 0, some 1, some 2, some 3, some 4, some 5, some 6, some 7, some 8, some 9, some 10, some 11, some 12, some 13], [], ?_⟩
 simp only [go_sem, *]
end Go.Abs

