/-
  WHAT THE PROOF STANDS ON, PART 3: contracts of the program's functions and the logic that they are proved in. No condition.
-/
import Derived.Test.YteehcinnfiaklaaGreatDoorRows
import Derived.ProofKit
import Derived.OpenShut
import Derived.JoinedCond
import Derived.ChangeSlices
import Derived.Carry
import Derived.KernelRfl
import Derived.Shelf.Strings.OnBuilder
import Derived.Shelf.Strings.Runes
import Derived.Test.YteehcinnfiaklaaGreatDoorProg
import Derived.Test.YteehcinnfiaklaaGreatDoorCards
import Derived.Deep.DeepHandedRow
import Derived.Deep.DeepWitnessRowRef
import Derived.Lib.LaidCaseMet
import Derived.Maps.Keyed
import Derived.DeepKeys3
import Derived.Test.YteehcinnfiaklaaGreatDoorQ2
set_option maxRecDepth 100000
set_option maxHeartbeats 4000000
set_option linter.unusedVariables false
set_option linter.unusedSimpArgs false
set_option linter.unusedSectionVars false
namespace Go.Abs
open Go Go.Proofs Go.Proofs.YteehcinnfiaklaaGreatDoor Go.ChangeShapes Go.WideShapes Go.ChangeAt Go.RowKit
theorem zNB : ownKnob Tryz.prog.godebug = none := by kernel_rfl
theorem zKE : laidOutB Tryz.prog = true := by kernel_rfl
abbrev zMY (w : World) : Nat → Prop := fun b => b < w.heap.size
theorem zH3 (w : World) : SR (e8 w (zMY w) 0 (fun _ => .un)) (zMY w) (fun _ => .un) (hs []) V5 w :=
 ⟨.nil, rfl, fun t => .pure (.any _), fun o => rfl, fun o o' b c c' h => by simp [hs, zLu, AS.obj, lkO, AObj.live] at h, fun b hb => hb, fun o b c h => by simp [hs, zLu, AS.obj, lkO, AObj.live] at h,
  ⟨rfl, rfl, rfl, Nat.le_refl _, fun b _ _ => rfl, fun _ => Nat.le_refl _, fun p hp => by simp [zAn] at hp⟩, fun b hb => hb, fun b hb => .inl hb, fun k hk => absurd hk (Nat.not_lt_zero k)⟩
theorem zJL {f : FuncId} {args : List AV} (sp : zLn Tryz.prog f args [] (bV true) []) (w : World) (vs : Array Value) (hl : vs.size = args.length) (hv : ∀ i (h : i < args.length) (h' : i < vs.size), PR w (zMY w) args[i] vs[i]) :
  Calls Tryz.prog f vs w fun e w' => e = .returned (.bool true) ∧ Below w.heap.size w w' := by
 refine (sp w (zMY w) (fun _ => .un) vs (zH3 w) hl (fun i h h' => .pure (hv i h h'))).mono ?_
 rintro e w' ⟨v, I', loc', rfl, hp⟩
 have hr := hp.val.raw_eq
 subst hr
 have fr := hp.sr.fr
 exact ⟨rfl, fr.os, fr.tape, fr.output, fr.size, fun k hk => fr.block k hk (fun ⟨j, c, hj, _⟩ => absurd hj (Nat.not_lt_zero j))⟩
theorem zF7 {H : Type} (d : DataW H) : 1 ≤ Rows.uptoBulk d := by
 cases d with
 | lit l => cases l <;> simp [Rows.uptoBulk]
 | _ => simp [Rows.uptoBulk]
theorem length_le {H : Type} (l : List (DataW H)) : l.length ≤ Rows.uptoBulkAll l := by
 induction l with
 | nil => simp [Rows.uptoBulkAll]
 | cons x r ih => have := zF7 x; simp only [Rows.uptoBulkAll, List.length_cons]; omega
theorem zIe {H : Type} {enc : TypeId × Value → H} {W : World} {v : Value} {d : DataW H} {ps : List MemPlace} (hval : Value.okWide Tryz.prog W .any 0 23 v ∨ ∃ base, Value.okWide Tryz.prog W .any base 23 v)
    (h : DataW.Trod enc Tryz.prog W 0 (fun _ => true) true 23 v d ps) (hk : Rows.uptoBulk d ≤ 1048576) : ∃ l : List Int, PR W (zMY W) (.list (l.map iV)) v ∧ l.length ≤ 1048576 := by
  have hsl : ∃ a len cap, v = .slice a len cap := by
    rcases hval with hval | ⟨base, hval⟩
    · exact okWide_slice Tryz.underlying23 hval
    · exact okWide_slice Tryz.underlying23 hval
  obtain ⟨a, len, cap, rfl⟩ := hsl
  obtain ⟨fuel, hf⟩ := h
  have hc : Tryz.prog.cellsOf 3 = 1 := by kernel_rfl
  rcases open_ints Tryz.underlying23 Tryz.underlying3 hc hf with ⟨hcs, _⟩ | ⟨a0, len0, cap0, zs, hcs, _, hle, hm, hz, hx, hcell, hwz⟩
  · have e : Value.slice a len cap = .slice none 0 0 := by simpa [Value.cells] using hcs
    rw [e]
    exact ⟨[], .nil _ _, by simp⟩
  · have e : Value.slice a len cap = .slice (some a0) len0 cap0 := by simpa [Value.cells] using hcs
    rw [e]
    simp only [if_true] at hz
    have hd := congrArg Prod.fst hx
    simp only at hd
    subst hd
    have hlen : (zs.take len0).length = len0 := by simp; omega
    refine ⟨zs.take len0, ?_, ?_⟩
    · by_cases h0 : len0 = 0
      · subst h0; exact .nil _ _
      · have h1 := hcell 0 (by omega)
        have hspot : a0.spot = none := by
          unfold World.cell? at h1
          split at h1
          · split at h1
            · cases h1
            · rename_i hs
              simpa [Addr.add] using hs
          · cases h1
        have hblk : a0.block < W.heap.size := by
          unfold World.cell? at h1
          split at h1
          · rename_i hb
            have := (Array.getElem?_eq_some_iff.1 hb).1
            simpa [Addr.add] using this
          · cases h1
        obtain ⟨b, off, sp⟩ := a0
        simp only at hspot hblk
        subst hspot
        have key := PR.list (w := W) (I := zMY W) b off cap0 1 ((zs.take len0).map iV) (fun i _ => .int .i64 (zs.getD i 0)) hblk (by omega) (by simp; omega) (fun i hi => by simp [AV.cells])
          (fun i j hi hj => by
            have hi' : i < zs.length := by simp at hi; omega
            have := hcell i hi'
            have hj0 : j = 0 := by omega
            subst hj0
            have ea : (⟨b, off, none⟩ : Addr).add i = ⟨b, off + i * 1 + 0, none⟩ := by
              unfold Addr.add
              split
              · rename_i h; subst h; simp
              · simp
            rw [ea] at this; exact this)
          (fun i hi j hj => by
            have hi' : i < zs.length := by simp at hi; omega
            have hj0 : j = 0 := by simp [AV.cells] at hj; omega
            subst hj0
            have e2 : (((zs.take len0).map iV)[i]).cells[0] = iV (zs.getD i 0) := by simp [AV.cells, List.getD, hi']
            rw [e2]
            exact .raw _ rfl)
        rw [List.length_map, hlen] at key
        exact key
    · have h1 : (zs.take len0).length ≤ Rows.uptoBulkAll (H := H) (lits .i64 (zs.take len0)) := by
        have := length_le (H := H) (lits .i64 (zs.take len0))
        simpa [lits] using this
      simp only [Rows.uptoBulk] at hk
      omega
end Go.Abs

namespace Go.Abs
open Go
theorem Plate.lt_iff (a b : Plate) : a.lt b = true ↔ a.number < b.number ∨ (a.number = b.number ∧ a.letter < b.letter) := by simp [Plate.lt]
theorem House.lt_iff (a b : House) : a.lt b = true ↔ a.street < b.street ∨ (a.street = b.street ∧ (a.plate.number < b.plate.number ∨ (a.plate.number = b.plate.number ∧ a.plate.letter < b.plate.letter))) := by simp [House.lt, Plate.lt]
theorem Plate.lt_irrefl (a : Plate) : ¬ a.lt a = true := by rw [Plate.lt_iff]; omega
theorem House.lt_irrefl (a : House) : ¬ a.lt a = true := by rw [House.lt_iff]; omega
abbrev Strict (l : List House) : Prop := l.Pairwise (fun a b => a.lt b = true)
theorem Strict.nodup {l : List House} (h : Strict l) : l.Nodup := h.imp (fun {a b} hab e => by subst e; exact House.lt_irrefl _ hab)
theorem Valid.row {p : zLx} (v : Valid p) (s : Int) : Sound (T8 p s) := by
 unfold T8
 by_cases h : s.toNat < p.length
 ·exact v.rows _ (l4 h)
 ·simp only [List.getD_eq_getElem?_getD, List.getElem?_eq_none (Nat.le_of_not_lt h), Option.getD_none]
  show Sound []
  exact ⟨by simp, fun x hx => by simp at hx, List.Pairwise.nil⟩
end Go.Abs

namespace Go.Abs
open Go
structure Fit (p : zLx) (c : Change) : Prop where
 kind : 1 ≤ c.kind ∧ c.kind ≤ 7
 street : 0 ≤ c.street ∧ c.street < p.length
 other : c.kind = 4 ∨ c.kind = 7 → 0 ≤ c.other ∧ c.other < p.length ∧ c.other ≠ c.street
 fits : zBK p c = 0
theorem Sound.nodup {l : List Plate} (h : Sound l) : l.Nodup := h.sorted.imp (fun {a b} hab e => by subst e; exact Plate.lt_irrefl _ hab)
section
variable {p : zLx} {c : Change} {x : Plate}
end
end Go.Abs

namespace Go.Abs
open Go
end Go.Abs

namespace Go.Abs
open Go
abbrev w7 (a b : Str) : Bool := Op.bytesLess a b
theorem zAb (a b : UInt8) (x y : Str) : w7 (a :: x) (b :: y) = (decide (a < b) || (a == b && w7 x y)) := rfl
theorem zAc : ∀ a : Str, w7 a a = false
 | [] => rfl
 | a :: x => by rw [zAb, zAc x]; simp
theorem zAd : ∀ {a b c : Str}, w7 a b = true → w7 b c = true → w7 a c = true
 | [], [], _, h, _ => by cases h
 | [], _ :: _, [], _, h => by cases h
 | [], _ :: _, _ :: _, _, _ => rfl
 | _ :: _, [], _, h, _ => by cases h
 | _ :: _, _ :: _, [], _, h => by cases h
 | a :: x, b :: y, c :: z, h1, h2 => by
  rw [zAb, Bool.or_eq_true, Bool.and_eq_true, decide_eq_true_eq, beq_iff_eq] at h1 h2 ⊢
  rw [UInt8.lt_iff_toNat_lt] at h1 h2 ⊢
  rcases h1 with h1 | ⟨rfl, h1⟩
  ·rcases h2 with h2 | ⟨rfl, h2⟩
   ·exact .inl (by omega)
   ·exact .inl h1
  ·rcases h2 with h2 | ⟨rfl, h2⟩
   ·exact .inl h2
   ·exact .inr ⟨rfl, zAd h1 h2⟩
theorem N5 : ∀ {a b : Str}, w7 a b = false → w7 b a = false → a = b
 | [], [], _, _ => rfl
 | [], _ :: _, h, _ => by cases h
 | _ :: _, [], _, h => by cases h
 | a :: x, b :: y, h1, h2 => by
  rw [zAb, Bool.or_eq_false_iff] at h1 h2
  have e1 : ¬ a < b := by simpa using h1.1
  have e2 : ¬ b < a := by simpa using h2.1
  rw [UInt8.lt_iff_toNat_lt] at e1 e2
  have e : a = b := UInt8.toNat_inj.1 (by omega)
  subst e
  have g1 : w7 x y = false := by simpa using h1.2
  have g2 : w7 y x = false := by simpa using h2.2
  rw [N5 g1 g2]
theorem zAa {a b : Str} (h : w7 a b = true) : w7 b a = false := by
 cases e : w7 b a with
 | false => rfl
 | true => have := zAd h e; rw [zAc] at this; cases this
def zLq (a b : Str) : Int := if w7 a b = true then -1 else if w7 b a = true then 1 else 0
theorem cmpS_neg {a b : Str} : zLq a b < 0 ↔ w7 a b = true := by
 unfold zLq
 by_cases h : w7 a b = true
 ·rw [if_pos h]; simp [h]
 ·rw [if_neg h]
  split <;> simp [h]
theorem cmpS_zero {a b : Str} : zLq a b = 0 ↔ a = b := by
 unfold zLq
 constructor
 ·intro h
  by_cases h1 : w7 a b = true
  ·rw [if_pos h1] at h; cases h
  ·rw [if_neg h1] at h
   by_cases h2 : w7 b a = true
   ·rw [if_pos h2] at h; cases h
   ·exact N5 (by simpa using h1) (by simpa using h2)
 ·rintro rfl
  simp [zAc]
def y6 (c : UInt8) : Bool := decide (97 ≤ c.toNat) && decide (c.toNat ≤ 122)
def w6 (c : UInt8) : Bool := decide (65 ≤ c.toNat) && decide (c.toNat ≤ 90) && !(c == 72 || c == 81 || c == 87)
def x8 (c : UInt8) : Int := if y6 c = true then 1 else if w6 c = true then 2 else 0
def y5 (c : UInt8) : Str := if c = 67 then [99, 104] else if c = 74 then [106, 117] else if c = 88 then [115, 104] else if c = 89 then [106, 97] else if 65 ≤ c.toNat ∧ c.toNat ≤ 90 then [UInt8.ofNat (c.toNat + 32)] else [c]
def zLm (s : Str) : Str := s.flatMap y5
def o0 (s : Str) : Bool := s.all y6 || s.all w6
def x6 (s : Str) : Int := if s.length = 0 then 7 else if 6 < s.length then 10 else if o0 s = true then 0 else 2
structure ValidN (s : Str) : Prop where
 ne : 0 < s.length
 len : s.length ≤ 6
 form : o0 s = true
theorem checkN_zero {s : Str} : x6 s = 0 ↔ ValidN s := by
 unfold x6
 constructor
 ·intro h
  split at h
  ·cases h
  ·split at h
   ·cases h
   ·split at h
    ·rename_i h1 h2 h3; exact ⟨by omega, by omega, h3⟩
    ·cases h
 ·intro v
  have h1 := v.ne
  have h2 := v.len
  rw [if_neg (by omega), if_neg (by omega), if_pos v.form]
theorem zGw {c : UInt8} (h : y6 c = true) : y5 c = [c] := by
 unfold y6 at h
 rw [Bool.and_eq_true, decide_eq_true_eq, decide_eq_true_eq] at h
 have ne : ∀ d : UInt8, d.toNat < 97 → ¬ c = d := fun d hd e => by subst e; omega
 unfold y5
 rw [if_neg (ne 67 (by decide)), if_neg (ne 74 (by decide)), if_neg (ne 88 (by decide)), if_neg (ne 89 (by decide)), if_neg (by omega)]
theorem L6 : ∀ {s : Str}, s.all y6 = true → zLm s = s
 | [], _ => rfl
 | c :: r, h => by
  rw [List.all_cons, Bool.and_eq_true] at h
  show y5 c ++ zLm r = _
  rw [zGw h.1, L6 h.2]; rfl
theorem S1 (c : UInt8) : 1 ≤ (y5 c).length ∧ (y5 c).length ≤ 2 := by
 unfold y5
 repeat' split
 all_goals simp
theorem T2 : ∀ s : Str, s.length ≤ (zLm s).length ∧ (zLm s).length ≤ 2 * s.length
 | [] => by simp [zLm]
 | c :: r => by
  have h1 := S1 c
  have h2 := T2 r
  have e : zLm (c :: r) = y5 c ++ zLm r := rfl
  rw [e, List.length_append, List.length_cons]
  omega
theorem zGx {c : UInt8} (h : w6 c = true) : ∀ d, d ∈ y5 c → y6 d = true := by
 unfold w6 at h
 rw [Bool.and_eq_true, Bool.and_eq_true, decide_eq_true_eq, decide_eq_true_eq] at h
 obtain ⟨⟨h1, h2⟩, _⟩ := h
 unfold y5
 split
 ·decide
 ·split
  ·decide
  ·split
   ·decide
   ·split
    ·decide
    ·rw [if_pos ⟨h1, h2⟩]
     intro d hd
     rw [List.mem_singleton.1 hd]
     unfold y6
     have : (UInt8.ofNat (c.toNat + 32)).toNat = c.toNat + 32 := UInt8.toNat_ofNat_of_lt' (by show c.toNat + 32 < 256; omega)
     rw [this]
     simp; omega
theorem zFO {s : Str} (h : o0 s = true) : (zLm s).all y6 = true := by
 unfold o0 at h
 rw [Bool.or_eq_true] at h
 rcases h with h | h
 ·rw [L6 h]; exact h
 ·rw [List.all_eq_true] at h ⊢
  intro d hd
  obtain ⟨c, hc, hd⟩ := List.mem_flatMap.1 hd
  exact zGx (h c hc) d hd
def o4 (s : Str) : Int := x8 (s.getD 0 0)
def w3 (a b : Str) : Int := orI (zLq (zLm a) (zLm b)) (zLz (o4 a) (o4 b))
def M3 (a b : Str) : Bool := if zLm a = zLm b then y6 (a.getD 0 0) && !y6 (b.getD 0 0) else w7 (zLm a) (zLm b)
theorem ValidN.script {s : Str} (v : ValidN s) : o4 s = if y6 (s.getD 0 0) = true then 1 else 2 := by
 unfold o4 x8
 by_cases h : y6 (s.getD 0 0) = true
 ·rw [if_pos h, if_pos h]
 ·rw [if_neg h, if_neg h]
  have hm : s.getD 0 0 ∈ s := by
   cases s with
   | nil => have := v.ne; simp at this
   | cons c r => simp
  have hf := v.form
  unfold o0 at hf
  rw [Bool.or_eq_true, List.all_eq_true, List.all_eq_true] at hf
  rcases hf with hf | hf
  ·exact absurd (hf _ hm) h
  ·rw [if_pos (hf _ hm)]
theorem zDq {a b : Str} (va : ValidN a) (vb : ValidN b) : w3 a b < 0 ↔ M3 a b = true := by
 unfold w3 M3 orI
 by_cases h : zLm a = zLm b
 ·rw [if_pos (cmpS_zero.2 h), if_pos h, va.script, vb.script]
  cases y6 (a.getD 0 0) <;> cases y6 (b.getD 0 0) <;> simp [zLz]
 ·rw [if_neg (fun e => h (cmpS_zero.1 e)), if_neg h]
  exact cmpS_neg
theorem zJO (a b : Str) : -1 ≤ w3 a b ∧ w3 a b ≤ 1 := by
 unfold w3 orI zLq zLz
 repeat' split
 all_goals omega
end Go.Abs

namespace Go.Abs
open Go
structure Rule where
 src : Str
 dst : Str
 deriving DecidableEq, Inhabited
@[reducible] def Rule.enc (r : Rule) : AV := .agg [sV r.src, sV r.dst]
def x7 (s : Str) (lo hi : Nat) : Bool := decide (lo ≤ s.length) && (decide (s.length ≤ hi) && s.all y6)
def Rule.ok (r : Rule) : Bool := x7 r.src 1 2 && (x7 r.dst 0 2 && !(decide (r.src = r.dst)))
def u7 (l : List Rule) : Int := if 4 < l.length then 6 else if l.all Rule.ok = true then 0 else 2
def t6 : List Str → Int
 | [] => 0
 | s :: r => if x6 s = 0 then t6 r else x6 s
def r9 (l : List Str) : Int := if 6 < l.length then 6 else t6 l
def Y8 (k a b : Str) (i : Nat) : List Str := (List.range' i (k.length + 1 - i)).flatMap fun i => if a.isPrefixOf (k.drop i) = true ∧ x7 (k.take i ++ b ++ k.drop (i + a.length)) 1 12 = true then [k.take i ++ b ++ k.drop (i + a.length)] else []
def l5 (k a b : Str) : List Str := Y8 k a b 0
def p4 (l : List Rule) (k : Str) : List Str := l.flatMap fun r => l5 k r.src r.dst ++ l5 k r.dst r.src
def Y2 (met : List Str) : List Str → List Str
 | [] => []
 | x :: r => if x ∈ met then Y2 met r else x :: Y2 (x :: met) r
theorem zAB : ∀ (l met : List Str) (x : Str), x ∈ Y2 met l ↔ x ∈ l ∧ x ∉ met
 | [], met, x => by simp [Y2]
 | y :: r, met, x => by
  rw [Y2]
  split
  ·rename_i h
   rw [zAB r met x]
   constructor
   ·rintro ⟨h1, h2⟩; exact ⟨by simp [h1], h2⟩
   ·rintro ⟨h1, h2⟩
    refine ⟨?_, h2⟩
    rcases List.mem_cons.1 h1 with rfl | h1
    ·exact absurd h h2
    ·exact h1
  ·rename_i h
   rw [List.mem_cons, zAB r _ x]
   simp only [List.mem_cons, not_or]
   constructor
   ·rintro (rfl | ⟨h1, h2, h3⟩)
    ·exact ⟨.inl rfl, h⟩
    ·exact ⟨.inr h1, h3⟩
   ·rintro ⟨h1, h2⟩
    by_cases e : x = y
    ·exact .inl e
    ·exact .inr ⟨h1.resolve_left e, e, h2⟩
def H2 (l : List Str) : List Str := Y2 [] l
theorem mem_dedupN {l : List Str} {x : Str} : x ∈ H2 l ↔ x ∈ l := by unfold H2; rw [zAB]; simp
def p5 (l : List Rule) (to : Str) : Nat → Str → List Str → List (List Str)
 | 0, now, pre => if now = to then [pre ++ [now]] else []
 | n + 1, now, pre => (H2 (p4 l now)).flatMap fun s => p5 l to n s (pre ++ [now])
inductive IsChain (l : List Rule) (to : Str) : Nat → Str → List Str → Prop
 | nil : IsChain l to 0 to [to]
 | cons {n : Nat} {s s' : Str} {c : List Str} : s' ∈ p4 l s → IsChain l to n s' c → IsChain l to (n + 1) s (s :: c)
theorem mem_chainsN {l : List Rule} {to : Str} : ∀ {n : Nat} {s : Str} {pre c : List Str}, c ∈ p5 l to n s pre ↔ ∃ d, c = pre ++ d ∧ IsChain l to n s d
 | 0, s, pre, c => by
  rw [p5]
  constructor
  ·intro h
   split at h
   ·rename_i e
    subst e
    exact ⟨[s], List.mem_singleton.1 h, .nil⟩
   ·cases h
  ·rintro ⟨d, rfl, h⟩
   cases h
   simp
 | n + 1, s, pre, c => by
  rw [p5, List.mem_flatMap]
  constructor
  ·rintro ⟨s', h1, h2⟩
   obtain ⟨d, rfl, h⟩ := mem_chainsN.1 h2
   exact ⟨s :: d, by simp, .cons (mem_dedupN.1 h1) h⟩
  ·rintro ⟨d, rfl, h⟩
   cases h with
   | cons h1 h2 => exact ⟨_, mem_dedupN.2 h1, mem_chainsN.2 ⟨_, by simp, h2⟩⟩
def zLp : List Str → List Str → Int
 | [], [] => 0
 | [], _ :: _ => -1
 | _ :: _, [] => 1
 | a :: x, b :: y => if zLq a b = 0 then zLp x y else zLq a b
theorem Y1 (a b : Str) : zLq b a = -zLq a b := by
 unfold zLq
 cases h : w7 a b with
 | true => rw [zAa h]; simp
 | false => cases h2 : w7 b a <;> simp
theorem D7 : ∀ x y : List Str, zLp y x = -zLp x y
 | [], [] => rfl
 | [], _ :: _ => rfl
 | _ :: _, [] => rfl
 | a :: x, b :: y => by
  rw [zLp, zLp, Y1 a b]
  by_cases h : zLq a b = 0
  ·rw [if_pos h, if_pos (by omega), D7 x y]
  ·rw [if_neg h, if_neg (by omega)]
theorem zA3 : ∀ {x y : List Str}, zLp x y = 0 → x = y
 | [], [], _ => rfl
 | [], _ :: _, h => by cases h
 | _ :: _, [], h => by cases h
 | a :: x, b :: y, h => by
  rw [zLp] at h
  split at h
  ·rename_i e; rw [cmpS_zero.1 e, zA3 h]
  ·rename_i e; exact absurd h e
def y9 {α : Type} (cmp : α → α → Int) : Option α → List α → Option α
 | b, [] => b
 | none, x :: r => y9 cmp (some x) r
 | some y, x :: r => if cmp x y < 0 then y9 cmp (some x) r else y9 cmp (some y) r
def b4 {α : Type} (cmp : α → α → Int) (l : List α) : Option α := y9 cmp none l
def i3 {α : Type} (cmp : α → α → Int) (S : α → Prop) (b : α) : Prop := S b ∧ ∀ x, S x → ¬ cmp x b < 0
section
variable {α : Type} {cmp : α → α → Int} (tr : ∀ x y z, ¬ cmp x y < 0 → ¬ cmp y z < 0 → ¬ cmp x z < 0) (asy : ∀ x y, cmp x y < 0 → ¬ cmp y x < 0)
include tr asy
theorem C6 : ∀ (l : List α) (y : α), ∃ b, y9 cmp (some y) l = some b ∧ i3 cmp (fun x => x = y ∨ x ∈ l) b
 | [], y => ⟨y, rfl, .inl rfl, fun x hx => by
  rcases hx with rfl | hx
  ·exact fun h => asy _ _ h h
  ·cases hx⟩
 | x :: r, y => by
  rw [y9]
  split
  ·rename_i h
   obtain ⟨b, h1, h2, h3⟩ := C6 r x
   refine ⟨b, h1, ?_, fun z hz => ?_⟩
   ·rcases h2 with h2 | h2
    ·exact .inr (by simp [h2])
    ·exact .inr (by simp [h2])
   ·rcases hz with rfl | hz
    ·exact tr _ _ _ (asy _ _ h) (h3 x (.inl rfl))
    ·rcases List.mem_cons.1 hz with rfl | hz
     ·exact h3 _ (.inl rfl)
     ·exact h3 _ (.inr hz)
  ·rename_i h
   obtain ⟨b, h1, h2, h3⟩ := C6 r y
   refine ⟨b, h1, ?_, fun z hz => ?_⟩
   ·rcases h2 with h2 | h2
    ·exact .inl h2
    ·exact .inr (by simp [h2])
   ·rcases hz with rfl | hz
    ·exact h3 _ (.inl rfl)
    ·rcases List.mem_cons.1 hz with rfl | hz
     ·exact tr _ _ _ h (h3 y (.inl rfl))
     ·exact h3 _ (.inr hz)
theorem H3 {l : List α} (hl : l ≠ []) : ∃ b, b4 cmp l = some b ∧ i3 cmp (· ∈ l) b := by
 cases l with
 | nil => exact absurd rfl hl
 | cons x r =>
  obtain ⟨b, h1, h2, h3⟩ := C6 tr asy r x
  refine ⟨b, h1, ?_, fun z hz => h3 z ?_⟩
  ·rcases h2 with rfl | h2
   ·simp
   ·simp [h2]
  ·exact List.mem_cons.1 hz
end
theorem zBJ {α : Type} {cmp : α → α → Int} : b4 cmp ([] : List α) = none := rfl
theorem zMt {x y z : Str} (h1 : ¬ zLq x y < 0) (h2 : ¬ zLq y z < 0) : ¬ zLq x z < 0 := by
 rw [cmpS_neg] at *
 intro h
 by_cases e : w7 y x = true
 ·exact h2 (zAd e h)
 ·have : x = y := N5 (by simpa using h1) (by simpa using e)
  subst this; exact h2 h
theorem zMs : ∀ {x y z : List Str}, ¬ zLp x y < 0 → ¬ zLp y z < 0 → ¬ zLp x z < 0
 | [], [], _, _, h => h
 | [], _ :: _, _, h, _ => absurd (by rw [zLp]; decide) h
 | _ :: _, [], [], _, _ => by rw [zLp]; decide
 | _ :: _, [], _ :: _, _, h => absurd (by rw [zLp]; decide) h
 | _ :: _, _ :: _, [], _, _ => by rw [zLp]; decide
 | a :: x, b :: y, c :: z, h1, h2 => by
  rw [zLp] at *
  have hab := Y1 a b
  have hbc := Y1 b c
  have hac := Y1 a c
  by_cases e1 : zLq a b = 0
  ·rw [if_pos e1] at h1
   rw [cmpS_zero.1 e1]
   by_cases e2 : zLq b c = 0
   ·rw [if_pos e2] at h2 ⊢
    exact zMs h1 h2
   ·rw [if_neg e2] at h2 ⊢
    exact h2
  ·rw [if_neg e1] at h1
   by_cases e2 : zLq b c = 0
   ·rw [if_pos e2] at h2
    rw [← cmpS_zero.1 e2, if_neg e1]; exact h1
   ·rw [if_neg e2] at h2
    have h3 := zMt h1 h2
    by_cases e3 : zLq a c = 0
    ·have : a = c := cmpS_zero.1 e3
     subst this
     omega
    ·rw [if_neg e3]; exact h3
theorem zDQ (x y : List Str) (h : zLp x y < 0) : ¬ zLp y x < 0 := by have := D7 x y; omega
theorem zFb {S : List Str → Prop} {a b : List Str} (ha : i3 zLp S a) (hb : i3 zLp S b) : a = b := by
 have h1 := ha.2 b hb.1
 have h2 := hb.2 a ha.1
 have := D7 a b
 exact zA3 (by omega)
def e7 (l : List Rule) (n : Nat) (k to : Str) : Option (List Str) := b4 zLp (p5 l to n k [])
theorem chainN_some {l : List Rule} {n : Nat} {k to : Str} {c : List Str} : e7 l n k to = some c ↔ i3 zLp (IsChain l to n k) c := by
 have hm : ∀ x, x ∈ p5 l to n k [] ↔ IsChain l to n k x := fun x => by
  rw [mem_chainsN]
  exact ⟨fun ⟨d, e, h⟩ => by rw [e]; exact h, fun h => ⟨x, rfl, h⟩⟩
 unfold e7
 by_cases hl : p5 l to n k [] = []
 ·rw [hl, zBJ]
  constructor
  ·intro h; cases h
  ·intro h
   have := (hm c).2 h.1
   rw [hl] at this; cases this
 ·obtain ⟨b, h1, h2, h3⟩ := H3 (cmp := zLp) (fun _ _ _ => zMs) zDQ hl
  have hb : i3 zLp (IsChain l to n k) b := ⟨(hm b).1 h2, fun x hx => h3 x ((hm x).2 hx)⟩
  rw [h1]
  constructor
  ·intro h; cases h; exact hb
  ·intro h; rw [zFb h hb]
def E8 (s : Str) : Option (List Str) → Str → Option (List Str) → Option (List Str)
 | best, _, none => best
 | none, _, some rest => some (s :: rest)
 | some b, x, some rest => if w7 x (b.getD 1 []) = true then some (s :: rest) else some b
def W0 (l : List Rule) (to : Str) : Nat → Str → Option (List Str)
 | 0, s => if s = to then some [s] else none
 | n + 1, s => (p4 l s).foldl (fun best x => E8 s best x (W0 l to n x)) none
theorem IsChain.head {l : List Rule} {to : Str} {n : Nat} {s : Str} {c : List Str} (h : IsChain l to n s c) : ∃ r, c = s :: r := by
 cases h with
 | nil => exact ⟨_, rfl⟩
 | cons _ _ => exact ⟨_, rfl⟩
def zMK (l : List Rule) (to : Str) (n : Nat) (s : Str) (xs : List Str) (c : List Str) : Prop := ∃ x r, x ∈ xs ∧ c = s :: r ∧ IsChain l to n x r
theorem R4 (a : Str) (x y : List Str) : zLp (a :: x) (a :: y) = zLp x y := by rw [zLp, if_pos (cmpS_zero.2 rfl)]
theorem H0 {l : List Rule} {to : Str} : ∀ {n : Nat} {s : Str} {o : Option (List Str)}, W0 l to n s = o → match o with
    | none => ∀ c, ¬ IsChain l to n s c
    | some c => i3 zLp (IsChain l to n s) c
  | 0, s, o, h => by
    rw [W0] at h
    split at h
    · rename_i e
      subst h e
      refine ⟨.nil, fun x hx => ?_⟩
      cases hx
      rw [zLp, if_pos (cmpS_zero.2 rfl)]; decide
    · rename_i e
      subst h
      intro c hc
      cases hc
      exact e rfl
  | n + 1, s, o, h => by
    rw [W0] at h
    have key : ∀ (xs done : List Str) (b : Option (List Str)), (match b with
        | none => ∀ c, ¬ zMK l to n s done c
        | some c => i3 zLp (zMK l to n s done) c) →
        match xs.foldl (fun best x => E8 s best x (W0 l to n x)) b with
        | none => ∀ c, ¬ zMK l to n s (done ++ xs) c
        | some c => i3 zLp (zMK l to n s (done ++ xs)) c := by
      intro xs
      induction xs with
      | nil => intro done b hb; simpa using hb
      | cons x xs ih =>
        intro done b hb
        rw [List.foldl_cons, show done ++ x :: xs = (done ++ [x]) ++ xs by simp]
        apply ih
        have IH := H0 (l := l) (to := to) (n := n) (s := x) rfl
        cases hr : W0 l to n x with
        | none =>
          rw [hr] at IH
          have hov : ∀ c, zMK l to n s (done ++ [x]) c ↔ zMK l to n s done c := fun c => by
            constructor
            · rintro ⟨y, r, hy, rfl, hc⟩
              rcases List.mem_append.1 hy with hy | hy
              · exact ⟨y, r, hy, rfl, hc⟩
              · rw [List.mem_singleton.1 hy] at hc; exact absurd hc (IH r)
            · rintro ⟨y, r, hy, rfl, hc⟩
              exact ⟨y, r, by simp [hy], rfl, hc⟩
          cases b with
          | none => exact fun c hc => hb c ((hov c).1 hc)
          | some b => exact ⟨(hov b).2 hb.1, fun z hz => hb.2 z ((hov z).1 hz)⟩
        | some rest =>
          rw [hr] at IH
          obtain ⟨r0, rfl⟩ := IH.1.head
          have hnew : zMK l to n s (done ++ [x]) (s :: x :: r0) := ⟨x, x :: r0, by simp, rfl, IH.1⟩
          cases b with
          | none =>
            show i3 zLp _ (s :: x :: r0)
            refine ⟨hnew, ?_⟩
            rintro z ⟨y, r, hy, rfl, hc⟩
            rcases List.mem_append.1 hy with hy | hy
            · exact absurd ⟨y, r, hy, rfl, hc⟩ (hb (s :: r))
            · rw [List.mem_singleton.1 hy] at hc
              rw [R4]; exact IH.2 _ hc
          | some b =>
            obtain ⟨⟨yb, rb, hyb, eb, hcb⟩, hleast⟩ := hb
            obtain ⟨rb0, rfl⟩ := hcb.head
            subst eb
            simp only [E8, List.getD_cons_succ, List.getD_cons_zero]
            by_cases hlt : w7 x yb = true
            · rw [if_pos hlt]
              refine ⟨hnew, ?_⟩
              rintro z ⟨y, r, hy, rfl, hc⟩
              rcases List.mem_append.1 hy with hy | hy
              · have h1 := hleast (s :: r) ⟨y, r, hy, rfl, hc⟩
                refine zMs h1 ?_
                rw [R4, zLp]
                have h2 := cmpS_neg.2 hlt
                have h3 := Y1 x yb
                rw [if_neg (by omega)]; omega
              · rw [List.mem_singleton.1 hy] at hc
                rw [R4]; exact IH.2 _ hc
            · rw [if_neg hlt]
              refine ⟨⟨yb, yb :: rb0, by simp [hyb], rfl, hcb⟩, ?_⟩
              rintro z ⟨y, r, hy, rfl, hc⟩
              rcases List.mem_append.1 hy with hy | hy
              · exact hleast (s :: r) ⟨y, r, hy, rfl, hc⟩
              · rw [List.mem_singleton.1 hy] at hc
                obtain ⟨r', rfl⟩ := hc.head
                rw [R4, zLp]
                have h2 : ¬ zLq x yb < 0 := fun h => hlt (cmpS_neg.1 h)
                split
                · rename_i e
                  have e := cmpS_zero.1 e
                  subst e
                  have := hleast (s :: x :: r') ⟨x, x :: r', hyb, rfl, hc⟩
                  rw [R4, R4] at this
                  exact this
                · exact h2
    have := key (p4 l s) [] none (by rintro c ⟨y, r, hy, _⟩; cases hy)
    rw [h, List.nil_append] at this
    have hov : ∀ c, zMK l to n s (p4 l s) c ↔ IsChain l to (n + 1) s c := fun c => by
      constructor
      · rintro ⟨y, r, hy, rfl, hc⟩; exact .cons hy hc
      · intro hc
        cases hc with
        | cons h1 h2 => exact ⟨_, _, h1, rfl, h2⟩
    cases o with
    | none => exact fun c hc => this c ((hov c).2 hc)
    | some c => exact ⟨(hov c).1 this.1, fun z hz => this.2 z ((hov z).2 hz)⟩
theorem zA0 (l : List Rule) (to : Str) (n : Nat) (s : Str) : e7 l n s to = W0 l to n s := by
 have h := H0 (l := l) (to := to) (n := n) (s := s) rfl
 cases hr : W0 l to n s with
 | some c => rw [hr] at h; exact chainN_some.2 h
 | none =>
  rw [hr] at h
  cases hc : e7 l n s to with
  | none => rfl
  | some c => exact absurd (chainN_some.1 hc).1 (h c)
end Go.Abs

namespace Go.Abs
open Go
def zMJ : Str → Str → Bool
 | [], _ => true
 | _ :: _, [] => false
 | a :: x, b :: y => if a = b then zMJ x y else zMJ (a :: x) y
def Q7 (k whole : Str) : Bool := decide (k.length < whole.length) && (k.getD 0 0 == whole.getD 0 0 && zMJ k whole)
def i6 (k : Str) (l : List Str) (own : Str) : Bool := l.any fun s => !(decide (zLm s = own)) && Q7 k (zLm s)
def N7 : Str → List Str
 | [] => [[]]
 | a :: r => (N7 r).map (a :: ·) ++ N7 r
theorem mem_subsL : ∀ {k s : Str}, s ∈ N7 k ↔ s.Sublist k
 | [], s => by simp [N7]
 | a :: r, s => by
  rw [N7, List.mem_append, List.mem_map]
  constructor
  ·rintro (⟨t, ht, rfl⟩ | h)
   ·exact (mem_subsL.1 ht).cons_cons a
   ·exact (mem_subsL.1 h).cons a
  ·intro h
   cases h with
   | cons _ h => exact .inr (mem_subsL.2 h)
   | cons_cons _ h => exact .inl ⟨_, mem_subsL.2 h, rfl⟩
def Q9 (k s : Str) : Prop := ∃ t : Str, t.Sublist (k.drop 1) ∧ s = k.take 1 ++ t ∧ s.length < k.length
def W2 (k : Str) : List Str := ((N7 (k.drop 1)).map (k.take 1 ++ ·)).filter fun s => decide (s.length < k.length)
theorem zFn {k s : Str} : s ∈ W2 k ↔ Q9 k s := by
 unfold W2 Q9
 rw [List.mem_filter, List.mem_map, decide_eq_true_eq]
 constructor
 ·rintro ⟨⟨t, ht, rfl⟩, h⟩; exact ⟨t, mem_subsL.1 ht, rfl, h⟩
 ·rintro ⟨t, ht, rfl, h⟩; exact ⟨⟨t, mem_subsL.2 ht, rfl⟩, h⟩
def zLt (up : Bool) (a b : Str) : Int := orI (if up = true then (a.length : Int) - b.length else (b.length : Int) - a.length) (zLq a b)
theorem D6 {up : Bool} {a b : Str} : zLt up a b < 0 ↔ (if up = true then a.length < b.length else b.length < a.length) ∨ (a.length = b.length ∧ w7 a b = true) := by
 unfold zLt orI
 cases up
 ·simp only [Bool.false_eq_true, if_false]
  by_cases h : (b.length : Int) - a.length = 0
  ·rw [if_pos h, cmpS_neg]
   constructor
   ·intro k; exact .inr ⟨by omega, k⟩
   ·rintro (k | k)
    ·omega
    ·exact k.2
  ·rw [if_neg h]
   constructor
   ·intro k; exact .inl (by omega)
   ·rintro (k | k)
    ·omega
    ·omega
 ·simp only [if_true]
  by_cases h : (a.length : Int) - b.length = 0
  ·rw [if_pos h, cmpS_neg]
   constructor
   ·intro k; exact .inr ⟨by omega, k⟩
   ·rintro (k | k)
    ·omega
    ·exact k.2
  ·rw [if_neg h]
   constructor
   ·intro k; exact .inl (by omega)
   ·rintro (k | k)
    ·omega
    ·omega
theorem zCu {x y z : Str} (h1 : ¬ w7 x y = true) (h2 : ¬ w7 y z = true) : ¬ w7 x z = true := by
 rw [← cmpS_neg] at *; exact zMt h1 h2
theorem zMr {up : Bool} {x y z : Str} (h1 : ¬ zLt up x y < 0) (h2 : ¬ zLt up y z < 0) : ¬ zLt up x z < 0 := by
 rw [D6] at *
 cases up
 ·simp only [Bool.false_eq_true, if_false, not_or, not_and] at *
  refine ⟨by omega, fun e => ?_⟩
  exact zCu (h1.2 (by omega)) (h2.2 (by omega))
 ·simp only [if_true, not_or, not_and] at *
  refine ⟨by omega, fun e => ?_⟩
  exact zCu (h1.2 (by omega)) (h2.2 (by omega))
theorem E7 {up : Bool} (x y : Str) (h : zLt up x y < 0) : ¬ zLt up y x < 0 := by
 rw [D6] at *
 cases up
 ·simp only [Bool.false_eq_true, if_false, not_or, not_and] at *
  rcases h with h | h
  ·exact ⟨by omega, fun e => by omega⟩
  ·exact ⟨by omega, fun _ => by rw [zAa h.2]; simp⟩
 ·simp only [if_true, not_or, not_and] at *
  rcases h with h | h
  ·exact ⟨by omega, fun e => by omega⟩
  ·exact ⟨by omega, fun _ => by rw [zAa h.2]; simp⟩
theorem zBq {up : Bool} {S : Str → Prop} {a b : Str} (ha : i3 (zLt up) S a) (hb : i3 (zLt up) S b) : a = b := by
 have h1 := ha.2 b hb.1
 have h2 := hb.2 a ha.1
 rw [D6] at h1 h2
 have hl : a.length = b.length := by
  cases up
  ·simp only [Bool.false_eq_true, if_false, not_or] at h1 h2; omega
  ·simp only [if_true, not_or] at h1 h2; omega
 simp only [not_or, not_and] at h1 h2
 exact N5 (by simpa using h2.2 hl) (by simpa using h1.2 hl.symm)
def S7 (l : List Str) (own : Str) (most : Int) (s : Str) : Prop := Q9 own s ∧ (s.length : Int) ≤ most ∧ i6 s l own = false
def zL1 (l : List Str) (own : Str) (most : Int) (up : Bool) : Option Str := b4 (zLt up) ((W2 own).filter fun s => decide ((s.length : Int) ≤ most) && !i6 s l own)
theorem mem_ok {l : List Str} {own : Str} {most : Int} {s : Str} : s ∈ (W2 own).filter (fun s => decide ((s.length : Int) ≤ most) && !i6 s l own) ↔ S7 l own most s := by
 unfold S7
 rw [List.mem_filter, zFn, Bool.and_eq_true, decide_eq_true_eq, Bool.not_eq_true']
theorem zDy {l : List Str} {own : Str} {most : Int} {up : Bool} {L : List Str} (h : ∀ s, s ∈ L ↔ S7 l own most s) : b4 (zLt up) L = zL1 l own most up := by
  have hm : ∀ s, s ∈ L ↔ s ∈ (W2 own).filter (fun s => decide ((s.length : Int) ≤ most) && !i6 s l own) := fun s => (h s).trans mem_ok.symm
  unfold zL1
  by_cases e : L = []
  · have e2 : (W2 own).filter (fun s => decide ((s.length : Int) ≤ most) && !i6 s l own) = [] := by
      rw [List.eq_nil_iff_forall_not_mem]
      intro x hx
      have := (hm x).2 hx
      rw [e] at this; cases this
    rw [e, e2]
  · have e2 : (W2 own).filter (fun s => decide ((s.length : Int) ≤ most) && !i6 s l own) ≠ [] := fun k => e (by
      rw [List.eq_nil_iff_forall_not_mem]
      intro x hx
      have := (hm x).1 hx
      rw [k] at this; cases this)
    obtain ⟨a, a1, a2⟩ := H3 (cmp := zLt up) (fun _ _ _ => zMr) E7 e
    obtain ⟨b, b1, b2⟩ := H3 (cmp := zLt up) (fun _ _ _ => zMr) E7 e2
    rw [a1, b1, zBq a2 ⟨(hm b).2 b2.1, fun x hx => b2.2 x ((hm x).1 hx)⟩]
theorem cutN_some {l : List Str} {own : Str} {most : Int} {up : Bool} {s : Str} : zL1 l own most up = some s ↔ i3 (zLt up) (S7 l own most) s := by
 unfold zL1
 by_cases e : (W2 own).filter (fun s => decide ((s.length : Int) ≤ most) && !i6 s l own) = []
 ·rw [e, zBJ]
  constructor
  ·intro h; cases h
  ·intro h
   have := mem_ok.2 h.1
   rw [e] at this; cases this
 ·obtain ⟨b, b1, b2⟩ := H3 (cmp := zLt up) (fun _ _ _ => zMr) E7 e
  have hb : i3 (zLt up) (S7 l own most) b := ⟨mem_ok.1 b2.1, fun x hx => b2.2 x (mem_ok.2 hx)⟩
  rw [b1]
  constructor
  ·intro h; cases h; exact hb
  ·intro h; rw [zBq h hb]
def zAK : Nat → Str → List Str
 | 0, _ => [[]]
 | n + 1, s => match s with
  | [] => []
  | a :: r => (zAK n r).map (a :: ·) ++ zAK (n + 1) r
 termination_by n s => (n, s.length)
def zJB (l : List Str) (own : Str) (many : Nat) : Option Str :=
 if own.length ≤ many then none else b4 zLq (((zAK (many - 1) (own.drop 1)).map (own.take 1 ++ ·)).filter fun s => !i6 s l own)
end Go.Abs

namespace Go.Abs
open Go
theorem zFL {own s : Str} (h : Q9 own s) : 1 ≤ s.length := by
 obtain ⟨t, ht, rfl, hl⟩ := h
 cases own with
 | nil => simp at hl
 | cons a r => simp
def zIc (l : List Str) (own : Str) (m : Nat) (s : Str) : Prop := Q9 own s ∧ s.length = m ∧ i6 s l own = false
theorem C7 {α β : Type} {f : α → Option β} : ∀ {L : List α}, p6 f L = none → ∀ x, x ∈ L → f x = none
 | [], _, _, hx => by cases hx
 | y :: r, h, x, hx => by
  rw [p6] at h
  split at h
  ·cases h
  ·rename_i e
   rcases List.mem_cons.1 hx with rfl | hx
   ·exact e
   ·exact C7 h x hx
theorem C8 {α β : Type} {f : α → Option β} {b : β} : ∀ {L : List α}, p6 f L = some b → ∃ pre x post, L = pre ++ x :: post ∧ f x = some b ∧ ∀ y, y ∈ pre → f y = none
 | [], h => by cases h
 | y :: r, h => by
  rw [p6] at h
  split at h
  ·rename_i e; cases h; exact ⟨[], y, r, rfl, e, fun _ h => by cases h⟩
  ·rename_i e
   obtain ⟨pre, x, post, rfl, h1, h2⟩ := C8 h
   exact ⟨y :: pre, x, post, rfl, h1, fun z hz => by
    rcases List.mem_cons.1 hz with rfl | hz
    ·exact e
    ·exact h2 z hz⟩
def u6 (l : List Str) (i : Int) : Str := zLm (l.getD i.toNat [])
def j7 (l : List Str) (i : Int) : Int := if r9 l = 0 then if i < 0 ∨ (l.length : Int) ≤ i then 3 else 0 else r9 l
def zMi (s : Str) : Str := s ++ [46]
def zAS (l : List Str) (i : Int) : Int := if j7 l i = 0 then if (zL1 l (u6 l i) 12 true).isSome = true then 0 else 11 else j7 l i
def zAT (l : List Str) (i : Int) : Str := if j7 l i = 0 then ((zL1 l (u6 l i) 12 true).map zMi).getD [] else []
def C9 (l : List Str) (i w : Int) : Int := if j7 l i = 0 then if w < 1 then 1 else if ((u6 l i).length : Int) ≤ w then 0 else if (zL1 l (u6 l i) (w - 1) false).isSome = true then 0 else 11 else j7 l i
def zMq (l : List Str) (i w : Int) : Str := if j7 l i = 0 then if w < 1 then [] else if ((u6 l i).length : Int) ≤ w then u6 l i else ((zL1 l (u6 l i) (w - 1) false).map zMi).getD [] else []
def zD1 : Nat → List Nat
 | 0 => []
 | n + 1 => (n + 1) :: zD1 n
end Go.Abs

namespace Go.Abs
open Go
def otherL : List UInt8 := [65, 66, 67, 68, 69, 70, 71, 73, 74, 75, 76, 77, 78, 79, 80, 82, 83, 84, 85, 86, 88, 89, 90]
theorem mem_otherL {c : UInt8} : c ∈ otherL ↔ w6 c = true := by
 unfold otherL w6
 constructor
 ·intro h
  simp only [List.mem_cons, List.not_mem_nil, or_false] at h
  rcases h with rfl | rfl | rfl | rfl | rfl | rfl | rfl | rfl | rfl | rfl | rfl | rfl | rfl | rfl | rfl | rfl | rfl | rfl | rfl | rfl | rfl | rfl | rfl <;> decide
 ·intro h
  rw [Bool.and_eq_true, Bool.and_eq_true, decide_eq_true_eq, decide_eq_true_eq, Bool.not_eq_true', Bool.or_eq_false_iff, Bool.or_eq_false_iff, beq_eq_false_iff_ne, beq_eq_false_iff_ne, beq_eq_false_iff_ne] at h
  obtain ⟨⟨h1, h2⟩, ⟨h3, h4⟩, h5⟩ := h
  have key : ∀ n : Nat, 65 ≤ n → n ≤ 90 → n ≠ 72 → n ≠ 81 → n ≠ 87 → UInt8.ofNat n ∈ otherL := by
   intro n a b c d e
   have : n = 65 ∨ n = 66 ∨ n = 67 ∨ n = 68 ∨ n = 69 ∨ n = 70 ∨ n = 71 ∨ n = 73 ∨ n = 74 ∨ n = 75 ∨ n = 76 ∨ n = 77 ∨ n = 78 ∨ n = 79 ∨ n = 80 ∨ n = 82 ∨ n = 83 ∨ n = 84 ∨ n = 85 ∨ n = 86 ∨ n = 88 ∨ n = 89 ∨ n = 90 := by omega
   rcases this with rfl | rfl | rfl | rfl | rfl | rfl | rfl | rfl | rfl | rfl | rfl | rfl | rfl | rfl | rfl | rfl | rfl | rfl | rfl | rfl | rfl | rfl | rfl <;> decide
  have ne : ∀ d : UInt8, c ≠ d → c.toNat ≠ d.toNat := fun d hd e => hd (UInt8.toNat_inj.1 e)
  have := key c.toNat h1 h2 (ne 72 h3) (ne 81 h4) (ne 87 h5)
  rw [UInt8.ofNat_toNat] at this
  exact this
def r8 : Nat → Str → Option Str
 | _, [] => some []
 | 0, _ :: _ => none
 | n + 1, a :: r => p6 (fun c => if (y5 c).isPrefixOf (a :: r) = true then (r8 n ((a :: r).drop (y5 c).length)).map (c :: ·) else none) otherL
def P0 (k : Str) : Option Str := r8 k.length k
def zGA : Nat → Str → List Str
 | _, [] => [[]]
 | 0, _ :: _ => []
 | n + 1, a :: r => otherL.flatMap fun c => if (y5 c).isPrefixOf (a :: r) = true then (zGA n ((a :: r).drop (y5 c).length)).map (c :: ·) else []
def T4 (s : Str) : Int := if x6 s = 0 then if (P0 (zLm s)).isSome = true then 0 else 11 else x6 s
def O1 (s : Str) : Str := if x6 s = 0 then (P0 (zLm s)).getD [] else []
def j3 (r : List Rule) (a b : Str) : Int := if u7 r = 0 then if x6 a = 0 then x6 b else x6 a else u7 r
def a7 (r : List Rule) (a b : Str) : Option (List Str) := p6 (fun n => e7 r n (zLm a) (zLm b)) [0, 1, 2]
def u0 (r : List Rule) (a b : Str) : Int := if j3 r a b = 0 then if (a7 r a b).isSome = true then 0 else 11 else j3 r a b
def M6 (r : List Rule) (a b : Str) : List Str := if j3 r a b = 0 then (a7 r a b).getD [] else []
def f6 (r : List Rule) (a b : Str) : Int := if u0 r a b = 0 then ((M6 r a b).length : Int) - 1 else 0
def zC3 (r : List Rule) (a b : Str) : Int := if u0 r a b = 11 then 2 else if u0 r a b = 0 then (if f6 r a b = 0 then 1 else 3) else 0
def zC2 (r : List Rule) (a b : Str) : Int := if u0 r a b = 11 then 0 else u0 r a b
theorem zA1 {r : List Rule} {to : Str} {n : Nat} {s : Str} {c : List Str} (h : IsChain r to n s c) : c.length = n + 1 := by
 induction h with
 | nil => rfl
 | cons _ _ ih => rw [List.length_cons, ih]
theorem I9 {r : List Rule} {a b : Str} {c : List Str} (h : a7 r a b = some c) : ∃ n, n ≤ 2 ∧ c.length = n + 1 ∧ IsChain r (zLm b) n (zLm a) c ∧ ∀ m, m < n → ∀ d, ¬ IsChain r (zLm b) m (zLm a) d := by
 obtain ⟨pre, n, post, h1, h2, h3⟩ := C8 h
 have hn := (chainN_some.1 h2).1
 have hm : ∀ m, m ∈ pre → ∀ d, ¬ IsChain r (zLm b) m (zLm a) d := fun m hm d hd => by
  have := h3 m hm
  rw [zA0] at this
  exact (H0 this) d hd
 have hcase : (n = 0 ∧ pre = []) ∨ (n = 1 ∧ pre = [0]) ∨ (n = 2 ∧ pre = [0, 1]) := by
  match pre, h1 with
  | [], h1 => simp at h1; exact .inl ⟨h1.1.symm, rfl⟩
  | [x], h1 => simp at h1; exact .inr (.inl ⟨h1.2.1.symm, by rw [h1.1]⟩)
  | [x, y], h1 => simp at h1; exact .inr (.inr ⟨h1.2.2.1.symm, by rw [h1.1, h1.2.1]⟩)
  | x :: y :: z :: t, h1 =>
   have := congrArg List.length h1
   simp at this
 refine ⟨n, by rcases hcase with h | h | h <;> omega, zA1 hn, hn, fun m hlt d => ?_⟩
 rcases hcase with ⟨rfl, _⟩ | ⟨rfl, rfl⟩ | ⟨rfl, rfl⟩
 ·omega
 ·exact hm m (by simp; omega) d
 ·exact hm m (by simp; omega) d
def i8 (r : List Rule) (s : Str) (l : List Str) (n : Int) (i : Nat) : List Int := (List.range' i (l.length - i)).flatMap fun (i : Nat) => if u0 r s (l.getD i []) = 0 ∧ f6 r s (l.getD i []) = n then [(i : Int)] else []
def P8 (r : List Rule) (s : Str) (l : List Str) : List Int := i8 r s l 0 0 ++ i8 r s l 1 0 ++ i8 r s l 2 0
def zCA (r : List Rule) (s : Str) (l : List Str) : Int := if u7 r = 0 then if x6 s = 0 then r9 l else x6 s else u7 r
end Go.Abs

namespace Go.Abs
open Go
structure Dice where
 list : List Int
 at_ : Nat
 seed : Int
 deriving Inhabited
abbrev uV (n : Int) : AV := .raw (.int .u64 n)
def w9 (d : Dice) : AObj := .box [.list (d.list.map iV), iV d.at_, uV d.seed]
def Z6 (a b : Int) : Int := IntKind.u64.wrap (BitVec.ofInt IntKind.u64.bits a ^^^ BitVec.ofInt IntKind.u64.bits b).toNat
def J6 (a : Int) (k : Nat) : Int := IntKind.u64.wrap (a * 2 ^ (min k IntKind.u64.bits))
def j9 (a : Int) (k : Nat) : Int := a.fdiv (2 ^ (min k IntKind.u64.bits))
def zMu (s : Int) : Int := Z6 s (J6 s 13)
def zMv (s : Int) : Int := Z6 s (j9 s 7)
def zMw (s : Int) : Int := Z6 s (J6 s 17)
def K4 (s : Int) : Int := zMw (zMv (zMu s))
def zMI (d : Dice) : Int := if d.at_ < d.list.length then IntKind.u64.wrap (K4 d.seed + IntKind.u64.wrap (IntKind.u64.wrap (d.list.getD d.at_ default) * 13787848793156543929)) else K4 d.seed
def zMC (d : Dice) : Dice := ⟨d.list, if d.at_ < d.list.length then d.at_ + 1 else d.at_, zMI d⟩
def zMf (n : Int) : Int := IntKind.u64.wrap (Z6 n (j9 n 30) * 10723151780598845931)
def zME (d : Dice) : Int := Z6 (zMf (zMI d)) (j9 (zMf (zMI d)) 31)
theorem zII (n : Int) : 0 ≤ IntKind.u64.wrap n ∧ IntKind.u64.wrap n < 18446744073709551616 := by
 rw [IntKind.wrap_u64]; omega
theorem zGM (d : Dice) : 0 ≤ zME d ∧ zME d < 18446744073709551616 := zII _
def toN (n : Int) (d : Dice) : Int := if n < 1 then 0 else (j9 (zME d) 16).tmod (n + 1)
def toD (n : Int) (d : Dice) : Dice := if n < 1 then d else zMC d
theorem zGr (n : Int) (h0 : 0 ≤ n) : 0 ≤ j9 n 16 := by
 unfold j9
 rw [Int.fdiv_eq_ediv_of_nonneg _ (by decide)]
 exact Int.ediv_nonneg h0 (by decide)
theorem zCz (n : Int) (d : Dice) : 0 ≤ toN n d ∧ (toN n d ≤ n ∨ toN n d = 0) := by
 unfold toN
 split
 ·omega
 ·have h := zGr _ (zGM d).1
  rw [Int.tmod_eq_emod_of_nonneg h]
  have h1 := Int.emod_nonneg (j9 (zME d) 16) (b := n + 1) (by omega)
  have h2 := Int.emod_lt_of_pos (j9 (zME d) 16) (b := n + 1) (by omega)
  omega
theorem f0 {n : Int} (h : 0 ≤ n) (d : Dice) : 0 ≤ toN n d ∧ toN n d ≤ n := by
 have := zCz n d; omega
def b5 (lo hi : Int) (d : Dice) : Int := lo + toN (hi - lo) d
def Y3 (lo hi : Int) (d : Dice) : Dice := toD (hi - lo) d
theorem B1 {lo hi : Int} (h : lo ≤ hi) (d : Dice) : lo ≤ b5 lo hi d ∧ b5 lo hi d ≤ hi := by
 have := f0 (n := hi - lo) (by omega) d
 unfold b5; omega
def Q6 (k : Int) (d : Dice) : Bool := toN (k - 1) d == 0
def v6 (k : Int) (d : Dice) : Dice := toD (k - 1) d
end Go.Abs

namespace Go.Abs
open Go
theorem mem_replacedN {k a b s : Str} : s ∈ l5 k a b ↔ ∃ i, i ≤ k.length ∧ a.isPrefixOf (k.drop i) = true ∧ x7 s 1 12 = true ∧ s = k.take i ++ b ++ k.drop (i + a.length) := by
 unfold l5 Y8
 rw [List.mem_flatMap]
 constructor
 ·rintro ⟨i, hi, h⟩
  rw [List.mem_range'_1] at hi
  split at h
  ·rename_i hc
   have := List.mem_singleton.1 h
   subst this
   exact ⟨i, by omega, hc.1, hc.2, rfl⟩
  ·cases h
 ·rintro ⟨i, hi, h1, h2, rfl⟩
  refine ⟨i, by rw [List.mem_range'_1]; omega, ?_⟩
  rw [if_pos ⟨h1, h2⟩]
  simp
theorem zGH {a x : Str} (h : a.isPrefixOf x = true) : x = a ++ x.drop a.length := by
 obtain ⟨t, rfl⟩ := List.isPrefixOf_iff_prefix.1 h
 simp
theorem zCM {k a b s : Str} (hk : x7 k 1 12 = true) (h : s ∈ l5 k a b) : k ∈ l5 s b a := by
  obtain ⟨i, hi, h1, h2, rfl⟩ := mem_replacedN.1 h
  have e := zGH h1
  have hti : (k.take i).length = i := by rw [List.length_take]; omega
  refine mem_replacedN.2 ⟨i, by simp; omega, ?_, hk, ?_⟩
  · rw [List.append_assoc, List.drop_append_of_le_length (by omega), List.drop_of_length_le (by omega : (k.take i).length ≤ i), List.nil_append]
    exact List.isPrefixOf_iff_prefix.2 ⟨_, rfl⟩
  · have e1 : (k.take i ++ b ++ k.drop (i + a.length)).take i = k.take i := by
      rw [List.append_assoc, List.take_append_of_le_length (by omega), List.take_of_length_le (by omega)]
    have e2 : (k.take i ++ b ++ k.drop (i + a.length)).drop (i + b.length) = k.drop (i + a.length) := by
      rw [List.drop_append, List.drop_of_length_le (by simp; omega), List.nil_append]
      have : i + b.length - (k.take i ++ b).length = 0 := by simp; omega
      rw [this]; rfl
    rw [e1, e2]
    have e3 : k.drop (i + a.length) = (k.drop i).drop a.length := by rw [List.drop_drop]
    rw [e3, List.append_assoc, ← e, List.take_append_drop]
theorem zIC {l : List Rule} {k s : Str} (hk : x7 k 1 12 = true) (h : s ∈ p4 l k) : k ∈ p4 l s ∧ x7 s 1 12 = true := by
 unfold p4 at *
 obtain ⟨r, hr, h⟩ := List.mem_flatMap.1 h
 rcases List.mem_append.1 h with h | h
 ·exact ⟨List.mem_flatMap.2 ⟨r, hr, List.mem_append.2 (.inr (zCM hk h))⟩, by obtain ⟨_, _, _, h2, _⟩ := mem_replacedN.1 h; exact h2⟩
 ·exact ⟨List.mem_flatMap.2 ⟨r, hr, List.mem_append.2 (.inl (zCM hk h))⟩, by obtain ⟨_, _, _, h2, _⟩ := mem_replacedN.1 h; exact h2⟩
def Far (l : List Rule) (n : Nat) (s t : Str) : Prop := ∃ c, IsChain l t n s c
theorem Far.zero {l : List Rule} {s t : Str} : Far l 0 s t ↔ s = t := by
 constructor
 ·rintro ⟨c, h⟩; cases h; rfl
 ·rintro rfl; exact ⟨_, .nil⟩
theorem Far.step {l : List Rule} {n : Nat} {s t : Str} : Far l (n + 1) s t ↔ ∃ x, x ∈ p4 l s ∧ Far l n x t := by
 constructor
 ·rintro ⟨c, h⟩
  cases h with
  | cons h1 h2 => exact ⟨_, h1, _, h2⟩
 ·rintro ⟨x, h1, c, h2⟩; exact ⟨_, .cons h1 h2⟩
theorem Far.join {l : List Rule} : ∀ {n m : Nat} {s t u : Str}, Far l n s t → Far l m t u → Far l (n + m) s u
 | 0, m, s, t, u, h1, h2 => by rw [Far.zero.1 h1, Nat.zero_add]; exact h2
 | n + 1, m, s, t, u, h1, h2 => by
  obtain ⟨x, hx, h⟩ := Far.step.1 h1
  rw [show n + 1 + m = (n + m) + 1 by omega]
  exact Far.step.2 ⟨x, hx, h.join h2⟩
theorem Far.back {l : List Rule} : ∀ {n : Nat} {s t : Str}, x7 s 1 12 = true → Far l n s t → Far l n t s
 | 0, s, t, _, h => by rw [Far.zero.1 h]; exact Far.zero.2 rfl
 | n + 1, s, t, hs, h => by
  obtain ⟨x, hx, h⟩ := Far.step.1 h
  obtain ⟨g1, g2⟩ := zIC hs hx
  have := (h.back g2).join (m := 1) (Far.step.2 ⟨s, g1, Far.zero.2 rfl⟩)
  exact this
theorem Far.more {l l' : List Rule} (h : ∀ r, r ∈ l → r ∈ l') : ∀ {n : Nat} {s t : Str}, Far l n s t → Far l' n s t
 | 0, s, t, k => Far.zero.2 (Far.zero.1 k)
 | n + 1, s, t, k => by
  obtain ⟨x, hx, k⟩ := Far.step.1 k
  refine Far.step.2 ⟨x, ?_, k.more h⟩
  unfold p4 at *
  obtain ⟨r, hr, hx⟩ := List.mem_flatMap.1 hx
  exact List.mem_flatMap.2 ⟨r, h r hr, hx⟩
def zLs (r : List Rule) (a b : Str) : Int := match a7 r a b with
 | some c => (c.length : Int) - 1
 | none => 9
theorem zDf {r : List Rule} {a b : Str} (h : a7 r a b = none) : ∀ n, n ≤ 2 → ¬ Far r n (zLm a) (zLm b) := by
 intro n hn ⟨c, hc⟩
 have h1 := C7 h n (by simp; omega)
 rw [zA0] at h1
 exact (H0 h1) c hc
theorem W6 {r : List Rule} {a b : Str} {n : Nat} (hn : n ≤ 2) : zLs r a b ≤ n ↔ ∃ m, m ≤ n ∧ Far r m (zLm a) (zLm b) := by
 unfold zLs
 cases h : a7 r a b with
 | none =>
  constructor
  ·intro k; simp only at k; omega
  ·rintro ⟨m, h1, h2⟩; exact absurd h2 (zDf h m (by omega))
 | some c =>
  obtain ⟨m, h1, h2, h3, h4⟩ := I9 h
  simp only
  constructor
  ·intro k; exact ⟨m, by omega, c, h3⟩
  ·rintro ⟨m', h5, d, h6⟩
   have : ¬ m' < m := fun hlt => h4 m' hlt d h6
   omega
theorem Z9 (r : List Rule) (a b : Str) : (0 ≤ zLs r a b ∧ zLs r a b ≤ 2) ∨ zLs r a b = 9 := by
 unfold zLs
 cases h : a7 r a b with
 | none => exact .inr rfl
 | some c =>
  obtain ⟨m, h1, h2, _⟩ := I9 h
  simp only; omega
theorem H9 {s : Str} (v : ValidN s) : x7 (zLm s) 1 12 = true := by
 have h1 := T2 s
 have h2 := v.ne
 have h3 := v.len
 unfold x7
 rw [Bool.and_eq_true, Bool.and_eq_true, decide_eq_true_eq, decide_eq_true_eq]
 exact ⟨by omega, by omega, zFO v.form⟩
theorem zEB {r : List Rule} {a b : Str} (va : ValidN a) (vb : ValidN b) : zLs r a b = zLs r b a := by
 have key : ∀ {x y : Str}, ValidN x → ValidN y → ∀ n : Nat, n ≤ 2 → zLs r x y ≤ n → zLs r y x ≤ n := fun vx _ n hn h => by
  obtain ⟨m, h1, h2⟩ := (W6 hn).1 h
  exact (W6 hn).2 ⟨m, h1, h2.back (H9 vx)⟩
 have r1 := Z9 r a b
 have r2 := Z9 r b a
 have k1 := key va vb
 have k2 := key vb va
 have a0 := k1 0 (by omega); have a1 := k1 1 (by omega); have a2 := k1 2 (by omega)
 have b0 := k2 0 (by omega); have b1 := k2 1 (by omega); have b2 := k2 2 (by omega)
 omega
theorem zEC {r : List Rule} {a b c : Str} (h : zLs r a b + zLs r b c ≤ 2) : zLs r a c ≤ zLs r a b + zLs r b c := by
 have r1 := Z9 r a b
 have r2 := Z9 r b c
 obtain ⟨n, hn⟩ : ∃ n : Nat, zLs r a b = n := ⟨(zLs r a b).toNat, by omega⟩
 obtain ⟨m, hm⟩ : ∃ m : Nat, zLs r b c = m := ⟨(zLs r b c).toNat, by omega⟩
 obtain ⟨n', h1, h2⟩ := (W6 (n := n) (by omega)).1 (by omega : zLs r a b ≤ n)
 obtain ⟨m', h3, h4⟩ := (W6 (n := m) (by omega)).1 (by omega : zLs r b c ≤ m)
 have := (W6 (n := n + m) (r := r) (a := a) (b := c) (by omega)).2 ⟨n' + m', by omega, h2.join h4⟩
 omega
theorem zED {r : List Rule} {a b : Str} : zLs r a b = 0 ↔ zLm a = zLm b := by
 have h := W6 (r := r) (a := a) (b := b) (n := 0) (by omega)
 have hr := Z9 r a b
 constructor
 ·intro e
  obtain ⟨m, h1, h2⟩ := h.1 (by omega)
  have : m = 0 := by omega
  subst this
  exact Far.zero.1 h2
 ·intro e
  have := h.2 ⟨0, Nat.le_refl _, Far.zero.2 e⟩
  omega
theorem zJV {r r' : List Rule} {a b : Str} (h : ∀ x, x ∈ r → x ∈ r') : zLs r' a b ≤ zLs r a b := by
 have h1 := Z9 r a b
 have h2 := Z9 r' a b
 rcases h1 with h1 | h1
 ·obtain ⟨n, hn⟩ : ∃ n : Nat, zLs r a b = n := ⟨(zLs r a b).toNat, by omega⟩
  obtain ⟨m, h3, h4⟩ := (W6 (n := n) (by omega)).1 (by omega : zLs r a b ≤ n)
  have := (W6 (r := r') (a := a) (b := b) (n := n) (by omega)).2 ⟨m, h3, h4.more h⟩
  omega
 ·omega
end Go.Abs

namespace Go.Abs
open Go
section
variable {α : Type} (cf : α → α → Int)
def zMM (x : α) : List α → List α
 | [] => [x]
 | y :: r => if cf x y < 0 then y :: zMM x r else x :: y :: r
def zL3 (pre : List α) (x : α) : List α := (zMM cf x pre.reverse).reverse
def o6 (xs : List α) : List α := xs.foldl (zL3 cf) []
theorem zBe (x : α) : ∀ l : List α, (zMM cf x l).Perm (x :: l)
 | [] => .refl _
 | y :: r => by
  unfold zMM
  split
  ·exact ((zBe x r).cons y).trans (.swap x y r)
  ·exact .refl _
theorem zFH (pre : List α) (x : α) : (zL3 cf pre x).Perm (pre ++ [x]) := by
 unfold zL3
 refine (List.reverse_perm _).trans ((zBe cf x _).trans ?_)
 exact ((List.reverse_perm pre).cons x).trans (List.perm_append_comm (l₁ := [x]) (l₂ := pre))
theorem zBi : ∀ (xs pre : List α), (xs.foldl (zL3 cf) pre).Perm (pre ++ xs)
 | [], pre => by simp
 | x :: r, pre => by
  rw [List.foldl_cons]
  refine (zBi r _).trans ?_
  refine ((zFH cf pre x).append_right r).trans ?_
  simp
theorem A0 (xs : List α) : (o6 cf xs).Perm xs := by have := zBi cf xs []; simpa [o6] using this
theorem zBj (xs : List α) : (o6 cf xs).length = xs.length := (A0 cf xs).length_eq
theorem zFN (xs : List α) (x : α) : o6 cf (xs ++ [x]) = zL3 cf (o6 cf xs) x := by simp [o6, List.foldl_append]
def zMA (S : List α) (x : α) (R : List α) (d : Nat) : List α := S.take (S.length - d) ++ x :: (S.drop (S.length - d) ++ R)
theorem zDs (S : List α) (x : α) (R : List α) (d : Nat) : (zMA S x R d).length = S.length + 1 + R.length := by simp [zMA]; omega
variable [Inhabited α]
theorem zDu (S : List α) (x : α) (R : List α) {d : Nat} (h : d ≤ S.length) : (zMA S x R d).getD (S.length - d) default = x := by
 unfold zMA
 simp only [List.getD_eq_getElem?_getD]
 rw [List.getElem?_append_right (by simp)]
 simp [show min (S.length - d) S.length = S.length - d by omega]
theorem zDv (S : List α) (x : α) (R : List α) {d : Nat} (h : d < S.length) : (zMA S x R d).getD (S.length - d - 1) default = S.getD (S.length - d - 1) default := by
 unfold zMA
 simp only [List.getD_eq_getElem?_getD]
 rw [List.getElem?_append_left (by simp; omega), List.getElem?_take, if_pos (by omega)]
theorem zDt (S : List α) (x : α) (R : List α) {d : Nat} (h : d < S.length) :
  ((zMA S x R d).set (S.length - d) (S.getD (S.length - d - 1) default)).set (S.length - d - 1) x = zMA S x R (d + 1) := by
 obtain ⟨j, hj⟩ : ∃ j, S.length - d = j + 1 := ⟨S.length - d - 1, by omega⟩
 have hj' : S.length - (d + 1) = j := by omega
 have hlt : j < S.length := by omega
 unfold zMA
 rw [hj, hj']
 have e1 : S.take (j + 1) = S.take j ++ [S.getD j default] := by rw [List.take_add_one]; simp [List.getD, hlt]
 have e2 : S.drop j = S.getD j default :: S.drop (j + 1) := l8 hlt
 rw [e1, e2]
 simp only [Nat.add_sub_cancel]
 have hl : (S.take j).length = j := by simp; omega
 rw [List.append_assoc, List.set_append_right _ _ (by omega), hl]
 simp only [Nat.add_sub_cancel_left, List.singleton_append, List.set_cons_succ, List.set_cons_zero]
 rw [List.set_append_right _ _ (by omega), hl]
 simp
theorem zFJ (pre : List α) (x y : α) (h : cf x y < 0) : zL3 cf (pre ++ [y]) x = zL3 cf pre x ++ [y] := by
 have _ := (default : α)
 unfold zL3; simp [zMM, h]
theorem zFI (pre : List α) (x y : α) (h : ¬ cf x y < 0) : zL3 cf (pre ++ [y]) x = pre ++ [y] ++ [x] := by
 have _ := (default : α)
 unfold zL3; simp [zMM, h]
theorem zH6 {l : List α} {i : Nat} (h : i < l.length) : l.take (i + 1) = l.take i ++ [l.getD i default] := by
 rw [List.take_add_one]; simp [List.getD, h]
def InsP (S : List α) (x : α) (R : List α) (cur : List α) (d : Nat) : Prop := cur = zMA S x R d ∧ zL3 cf S x = zL3 cf (S.take (S.length - d)) x ++ S.drop (S.length - d)
theorem InsP.start (S : List α) (x : α) (R : List α) : InsP cf S x R (S ++ x :: R) 0 := by simp [InsP, zMA]
theorem InsP.next {S : List α} {x : α} {R cur : List α} {d : Nat} (h : InsP cf S x R cur d) (hd : d < S.length) (hc : cf x (S.getD (S.length - d - 1) default) < 0) :
  InsP cf S x R ((cur.set (S.length - d) (S.getD (S.length - d - 1) default)).set (S.length - d - 1) x) (d + 1) := by
 obtain ⟨h1, h2⟩ := h
 refine ⟨by rw [h1, zDt S x R hd], ?_⟩
 obtain ⟨j, hj⟩ : ∃ j, S.length - d = j + 1 := ⟨S.length - d - 1, by omega⟩
 have hj' : S.length - (d + 1) = j := by omega
 have hlt : j < S.length := by omega
 have e1 : S.take (j + 1) = S.take j ++ [S.getD j default] := by rw [List.take_add_one]; simp [List.getD, hlt]
 have e2 : S.drop j = S.getD j default :: S.drop (j + 1) := l8 hlt
 rw [hj] at h2 hc
 simp only [Nat.add_sub_cancel] at hc
 rw [h2, hj', e1, zFJ cf _ _ _ hc, e2, List.append_assoc]; rfl
theorem InsP.stop {S : List α} {x : α} {R cur : List α} {d : Nat} (h : InsP cf S x R cur d) (hd : d ≤ S.length) (hc : d < S.length → ¬ cf x (S.getD (S.length - d - 1) default) < 0) : cur = zL3 cf S x ++ R := by
 obtain ⟨h1, h2⟩ := h
 rw [h1, h2]
 unfold zMA
 by_cases e : d = S.length
 ·subst e; simp [zL3, zMM]
 ·obtain ⟨j, hj⟩ : ∃ j, S.length - d = j + 1 := ⟨S.length - d - 1, by omega⟩
  have hlt : j < S.length := by omega
  have e1 : S.take (j + 1) = S.take j ++ [S.getD j default] := by rw [List.take_add_one]; simp [List.getD, hlt]
  have hc' := hc (by omega)
  rw [hj] at hc' ⊢
  simp only [Nat.add_sub_cancel] at hc'
  rw [e1, zFI cf _ _ _ hc']; simp
end
end Go.Abs

namespace Go.Abs
open Go
theorem zDp (a b : Int) : zLz b a = -zLz a b := by
 unfold zLz
 repeat' split
 all_goals omega
theorem D8 (a b : Str) : w3 b a = -w3 a b := by
 unfold w3 orI
 rw [Y1 (zLm a) (zLm b), zDp (o4 a) (o4 b)]
 by_cases h : zLq (zLm a) (zLm b) = 0
 ·rw [if_pos h, if_pos (by omega)]
 ·rw [if_neg h, if_neg (by omega)]
theorem zBR {x y z : Str} (h1 : ¬ w3 x y < 0) (h2 : ¬ w3 y z < 0) : ¬ w3 x z < 0 := by
 unfold w3 orI at *
 have a1 := Y1 (zLm x) (zLm y)
 have a2 := Y1 (zLm y) (zLm z)
 have gS := fun (p : ¬ zLq (zLm x) (zLm y) < 0) (q : ¬ zLq (zLm y) (zLm z) < 0) => zMt p q
 by_cases e1 : zLq (zLm x) (zLm y) = 0
 ·rw [if_pos e1] at h1
  rw [cmpS_zero.1 e1]
  by_cases e2 : zLq (zLm y) (zLm z) = 0
  ·rw [if_pos e2] at h2 ⊢
   unfold zLz at *
   repeat' split at h1
   all_goals repeat' split at h2
   all_goals repeat' split
   all_goals omega
  ·rw [if_neg e2] at h2 ⊢
   exact h2
 ·rw [if_neg e1] at h1
  by_cases e2 : zLq (zLm y) (zLm z) = 0
  ·rw [if_pos e2] at h2
   rw [← cmpS_zero.1 e2, if_neg e1]; exact h1
  ·rw [if_neg e2] at h2
   have h3 := gS h1 h2
   by_cases e3 : zLq (zLm x) (zLm z) = 0
   ·have e := cmpS_zero.1 e3
    rw [e] at a1 h1
    have := Y1 (zLm y) (zLm z)
    omega
   ·rw [if_neg e3]; exact h3
def K9 : List Str → Bool
 | [] => true
 | [_] => true
 | a :: b :: r => !(decide (w3 b a < 0)) && K9 (b :: r)
def zGG (l : List Str) (s : Str) : Int := if r9 l = 0 then if x6 s = 0 then if K9 l = true then 0 else 5 else x6 s else r9 l
def zK2 (l : List Str) (s : Str) : Int := if zGG l s = 0 then (l.countP fun x => decide (w3 x s < 0) : Nat) else 0
def N4 (l : List Str) : List Nat := o6 (fun a b => w3 (l.getD a []) (l.getD b [])) (List.range l.length)
def zM8 (set i : Nat) : Bool := set.testBit i
def zGC (n set : Nat) : List Nat := (List.range n).filter fun i => set.testBit i
def zGQ (l : List Str) (set : Nat) : List Str := ((List.range l.length).filter fun i => !set.testBit i).map fun i => l.getD i []
def zA4 : List Nat → List Nat → Int
 | [], [] => 0
 | [], _ :: _ => -1
 | _ :: _, [] => 1
 | a :: x, b :: y => if zLz a b = 0 then zA4 x y else zLz a b
def zGq (a b : List Nat) : Int := orI (zLz a.length b.length) (zA4 a b)
def zGT (l : List Str) : List (List Nat) := (List.range (2 ^ l.length)).filterMap fun set => if K9 (zGQ l set) = true then some (zGC l.length set) else none
def zLl (l : List Str) : List Nat := (b4 zGq (zGT l)).getD []
end Go.Abs

namespace Go.Abs
open Go
def wordsL : List Str := [[97, 101, 115], [115, 104, 101, 116, 97], [115, 109, 105, 116, 121, 104, 97], [99, 104, 106, 97], [97, 110, 110, 101]]
def wordsU : List Str := [[65, 69, 83], [88, 69, 84, 65], [83, 77, 73, 84, 89, 65], [67, 74, 65, 88], [65, 78, 78, 69]]
def wordsF : List Str := [[101], [121], [115, 104], [97], [110, 110], [116, 104], [109]]
def wordsT : List Str := [[], [105], [115], [116], [97, 101], [106], [110]]
def n0 (ws : List Str) (d : Dice) : Str := ws.getD (toN ((ws.length : Int) - 1) d).toNat []
def x9 (ws : List Str) (d : Dice) : Dice := toD ((ws.length : Int) - 1) d
theorem O6 {ws : List Str} (h : 0 < ws.length) (d : Dice) : n0 ws d ∈ ws := by
 have := f0 (n := (ws.length : Int) - 1) (by omega) d
 unfold n0
 have hlt : (toN ((ws.length : Int) - 1) d).toNat < ws.length := by omega
 simp [List.getD, hlt]
def i5 (set : Str) : Nat → Dice → Str → Str × Dice
 | 0, d, s => (s, d)
 | n + 1, d, s => i5 set n (toD ((set.length : Int) - 1) d) (s ++ [set.getD (toN ((set.length : Int) - 1) d).toNat 0])
def zMn (t : Bool) (d d2 : Dice) (a : Str) : Str × Dice := if t = true then (n0 wordsU d2, x9 wordsU d2) else (a, d2)
def zMF (d : Dice) : Str × Dice := zMn (Q6 3 (x9 wordsL d)) d (v6 3 (x9 wordsL d)) (n0 wordsL d)
def G2 (most : Int) (p : Str × Dice) : Str × Dice := i5 p.1 (b5 1 (min most 6) p.2).toNat (Y3 1 (min most 6) p.2) []
def j1 (d : Dice) (most : Int) : Str × Dice := G2 most (zMF d)
theorem zBt (set : Str) : ∀ (n : Nat) (d : Dice) (s : Str), (i5 set n d s).1.length = s.length + n
 | 0, d, s => rfl
 | n + 1, d, s => by rw [i5, zBt set n]; simp; omega
theorem A3 (set : Str) (p : UInt8 → Bool) (h0 : 0 < set.length) (hp : set.all p = true) : ∀ (n : Nat) (d : Dice) (s : Str), s.all p = true → (i5 set n d s).1.all p = true
 | 0, d, s, h => h
 | n + 1, d, s, h => by
  rw [i5]
  refine A3 set p h0 hp n _ _ ?_
  have := f0 (n := (set.length : Int) - 1) (by omega) d
  have hlt : (toN ((set.length : Int) - 1) d).toNat < set.length := by omega
  rw [List.all_append, h, Bool.true_and, List.all_cons, List.all_nil, Bool.and_true]
  refine List.all_eq_true.1 hp _ ?_
  simp [List.getD, hlt]
theorem r5 (n : Int) (d : Dice) : (toD n d).list = d.list := by unfold toD; split <;> rfl
theorem zBu (set : Str) : ∀ (n : Nat) (d : Dice) (s : Str), (i5 set n d s).2.list = d.list
 | 0, d, s => rfl
 | n + 1, d, s => by rw [i5, zBu set n, r5]
theorem zIG {x : Str} (h : x ∈ wordsU) : 0 < x.length ∧ x.all w6 = true := by
 have key : (wordsU.all fun x => decide (0 < x.length) && x.all w6) = true := by decide
 have := List.all_eq_true.1 key x h
 simpa using this
theorem zIF {x : Str} (h : x ∈ wordsL) : 0 < x.length ∧ x.all y6 = true := by
 have key : (wordsL.all fun x => decide (0 < x.length) && x.all y6) = true := by decide
 have := List.all_eq_true.1 key x h
 simpa using this
theorem zCW (d : Dice) : 0 < (zMF d).1.length ∧ ((zMF d).1.all y6 = true ∨ (zMF d).1.all w6 = true) ∧ (zMF d).2.list = d.list := by
 unfold zMF zMn
 split
 ·have := zIG (O6 (ws := wordsU) (by decide) (v6 3 (x9 wordsL d)))
  exact ⟨this.1, .inr this.2, by simp only [x9, v6, r5]⟩
 ·have := zIF (O6 (ws := wordsL) (by decide) d)
  exact ⟨this.1, .inl this.2, by simp only [x9, v6, r5]⟩
theorem zAE {d : Dice} {most : Int} (h : 1 ≤ most) : ValidN (j1 d most).1 ∧ ((j1 d most).1.length : Int) ≤ most ∧ (j1 d most).2.list = d.list := by
 obtain ⟨h1, h2, h3⟩ := zCW d
 unfold j1 G2
 generalize zMF d = p at *
 have hr := B1 (lo := 1) (hi := min most 6) (by omega) p.2
 have hl := zBt p.1 (b5 1 (min most 6) p.2).toNat (Y3 1 (min most 6) p.2) []
 simp only [List.length_nil, Nat.zero_add] at hl
 refine ⟨⟨by rw [hl]; omega, by rw [hl]; omega, ?_⟩, by rw [hl]; omega, ?_⟩
 ·unfold o0
  rw [Bool.or_eq_true]
  rcases h2 with h2 | h2
  ·exact .inl (A3 p.1 y6 h1 h2 _ _ [] rfl)
  ·exact .inr (A3 p.1 w6 h1 h2 _ _ [] rfl)
 ·rw [zBu]
  unfold Y3
  rw [r5, h3]
def Z8 (s : Str) (at_ : Nat) : Str := s.take at_ ++ s.drop (at_ + 1)
def zC1 (s : Str) (t : Bool) (d : Dice) : Str × Dice := if t = true then (Z8 s (toN ((s.length : Int) - 1) d).toNat, toD ((s.length : Int) - 1) d) else (s, d)
def U0 (s : Str) (d : Dice) : Str × Dice := if 97 ≤ (s.getD 0 0).toNat ∧ 1 < s.length then zC1 s (Q6 2 d) (v6 2 d) else (s, d)
def O5 (out : List Str) (d : Dice) : Str := out.getD (toN ((out.length : Int) - 1) d).toNat []
def E6 (out : List Str) (p : Str × Dice) (t : Bool) (d : Dice) : Str × Dice := if t = true then U0 (O5 out d) (toD ((out.length : Int) - 1) d) else (p.1, d)
def c5 (out : List Str) (p : Str × Dice) : Str × Dice := if 0 < out.length then E6 out p (Q6 3 p.2) (v6 3 p.2) else p
def b8 (most : Int) : Nat → Dice → List Str → List Str × Dice
 | 0, d, out => (out, d)
 | n + 1, d, out => b8 most n (c5 out (j1 d most)).2 (out ++ [(c5 out (j1 d most)).1])
def V4 (d : Dice) (many most : Int) : List Str × Dice := b8 most (toN many d).toNat (toD many d) []
theorem zDx {s : Str} (v : ValidN s) (hl : 1 < s.length) {i : Nat} (hi : i < s.length) : ValidN (Z8 s i) ∧ (Z8 s i).length = s.length - 1 := by
 have h1 : (Z8 s i).length = s.length - 1 := by unfold Z8; simp; omega
 refine ⟨⟨by omega, by have := v.len; omega, ?_⟩, h1⟩
 have hf := v.form
 unfold o0 at hf ⊢
 rw [Bool.or_eq_true, List.all_eq_true, List.all_eq_true] at hf ⊢
 have hm : ∀ c, c ∈ Z8 s i → c ∈ s := fun c hc => by
  rcases List.mem_append.1 hc with hc | hc
  ·exact List.mem_of_mem_take hc
  ·exact List.mem_of_mem_drop hc
 rcases hf with hf | hf
 ·exact .inl (fun c hc => hf c (hm c hc))
 ·exact .inr (fun c hc => hf c (hm c hc))
theorem zIE {s : Str} (v : ValidN s) (d : Dice) : ValidN (U0 s d).1 ∧ (U0 s d).1.length ≤ s.length ∧ (U0 s d).2.list = d.list := by
 unfold U0
 split
 ·rename_i h
  unfold zC1
  split
  ·have := f0 (n := (s.length : Int) - 1) (by omega) (v6 2 d)
   obtain ⟨h1, h2⟩ := zDx v h.2 (i := (toN ((s.length : Int) - 1) (v6 2 d)).toNat) (by omega)
   exact ⟨h1, by show (Z8 _ _).length ≤ _; omega, by simp only [r5, v6]⟩
  ·exact ⟨v, Nat.le_refl _, by simp only [r5, v6]⟩
 ·exact ⟨v, Nat.le_refl _, rfl⟩
def X7 (most : Int) (s : Str) : Prop := ValidN s ∧ (s.length : Int) ≤ most
theorem zAp {out : List Str} {most : Int} (ho : ∀ s, s ∈ out → X7 most s) {p : Str × Dice} (hp : X7 most p.1) : X7 most (c5 out p).1 ∧ (c5 out p).2.list = p.2.list := by
 unfold c5
 split
 ·rename_i h
  unfold E6
  split
  ·have := f0 (n := (out.length : Int) - 1) (by omega) (v6 3 p.2)
   have hm : O5 out (v6 3 p.2) ∈ out := by
    unfold O5
    have hlt : (toN ((out.length : Int) - 1) (v6 3 p.2)).toNat < out.length := by omega
    simp [List.getD, hlt]
   obtain ⟨h1, h2⟩ := ho _ hm
   obtain ⟨g1, g2, g3⟩ := zIE h1 (toD ((out.length : Int) - 1) (v6 3 p.2))
   exact ⟨⟨g1, by omega⟩, by rw [g3]; simp only [r5, v6]⟩
  ·exact ⟨hp, by simp only [r5, v6]⟩
 ·exact ⟨hp, rfl⟩
theorem zB9 {most : Int} (h : 1 ≤ most) : ∀ (n : Nat) (d : Dice) (out : List Str), (∀ s, s ∈ out → X7 most s) → (∀ s, s ∈ (b8 most n d out).1 → X7 most s) ∧ (b8 most n d out).1.length = out.length + n ∧ (b8 most n d out).2.list = d.list
 | 0, d, out, ho => ⟨ho, rfl, rfl⟩
 | n + 1, d, out, ho => by
  obtain ⟨v, hl, hd⟩ := zAE (d := d) h
  obtain ⟨g1, g2⟩ := zAp ho (p := j1 d most) ⟨v, hl⟩
  rw [b8]
  obtain ⟨k1, k2, k3⟩ := zB9 h n (c5 out (j1 d most)).2 (out ++ [(c5 out (j1 d most)).1]) (fun s hs => by
   rcases List.mem_append.1 hs with hs | hs
   ·exact ho s hs
   ·rw [List.mem_singleton.1 hs]; exact g1)
  exact ⟨k1, by rw [k2]; simp; omega, by rw [k3, g2, hd]⟩
theorem zFu {d : Dice} {many most : Int} (hm : 0 ≤ many) (h : 1 ≤ most) : (∀ s, s ∈ (V4 d many most).1 → X7 most s) ∧ ((V4 d many most).1.length : Int) ≤ many ∧ (V4 d many most).2.list = d.list := by
 have hr := f0 hm d
 obtain ⟨h1, h2, h3⟩ := zB9 h (toN many d).toNat (toD many d) [] (fun s hs => by cases hs)
 unfold V4
 refine ⟨h1, ?_, by rw [h3, r5]⟩
 rw [h2]; simp; omega
def c0 : Nat → Dice → List Rule → List Rule × Dice
 | 0, d, out => (out, d)
 | n + 1, d, out => c0 n (x9 wordsT (x9 wordsF d)) (out ++ [⟨n0 wordsF d, n0 wordsT (x9 wordsF d)⟩])
def V7 (d : Dice) (many : Int) : List Rule × Dice := c0 (toN many d).toNat (toD many d) []
theorem zCO : ∀ (n : Nat) (d : Dice) (out : List Rule), out.all Rule.ok = true → (c0 n d out).1.all Rule.ok = true ∧ (c0 n d out).1.length = out.length + n ∧ (c0 n d out).2.list = d.list
 | 0, d, out, h => ⟨h, rfl, rfl⟩
 | n + 1, d, out, h => by
  rw [c0]
  have h1 := O6 (ws := wordsF) (by decide) d
  have h2 := O6 (ws := wordsT) (by decide) (x9 wordsF d)
  obtain ⟨k1, k2, k3⟩ := zCO n (x9 wordsT (x9 wordsF d)) (out ++ [⟨n0 wordsF d, n0 wordsT (x9 wordsF d)⟩]) (by
   rw [List.all_append, h, Bool.true_and, List.all_cons, List.all_nil, Bool.and_true]
   generalize n0 wordsF d = x at *
   generalize n0 wordsT (x9 wordsF d) = y at *
   have key : (wordsF.all fun x => wordsT.all fun y => Rule.ok ⟨x, y⟩) = true := by decide
   exact List.all_eq_true.1 (List.all_eq_true.1 key x h1) y h2)
  exact ⟨k1, by rw [k2]; simp; omega, by rw [k3]; simp only [x9, r5]⟩
theorem zGY {d : Dice} {many : Int} (hm : 0 ≤ many ∧ many ≤ 4) : u7 (V7 d many).1 = 0 ∧ ((V7 d many).1.length : Int) ≤ many ∧ (V7 d many).2.list = d.list := by
 have hr := f0 hm.1 d
 obtain ⟨h1, h2, h3⟩ := zCO (toN many d).toNat (toD many d) [] rfl
 unfold V7
 have hl : (c0 (toN many d).toNat (toD many d) []).1.length = (toN many d).toNat := by rw [h2]; simp
 refine ⟨?_, by omega, by rw [h3, r5]⟩
 unfold u7
 rw [if_neg (by omega), if_pos h1]
def J7 (key : Str) : Nat → Nat → Dice → Str → Str × Dice
 | 0, _, d, s => (s, d)
 | n + 1, i, d, s => if i = 0 then J7 key n (i + 1) d (s ++ [key.getD i 0]) else if Q6 2 d = true then J7 key n (i + 1) (v6 2 d) (s ++ [key.getD i 0]) else J7 key n (i + 1) (v6 2 d) s
def zLU (d : Dice) (key : Str) : Str × Dice := ((J7 key key.length 0 d []).1 ++ [46], (J7 key key.length 0 d []).2)
end Go.Abs

namespace Go.Abs
open Go
def zLe (l : List Nat) : Str := l.map UInt8.ofNat
def zMU : Str := [67, 65, 68]
def K5 : Str := [99, 104, 97, 100]
def G1 : Str := [97, 110, 110, 97]
def zMl : Str := [66, 69, 78]
def Q3 : Str := [115, 109, 121, 116, 104, 101]
def K6 : Str := [115, 109, 105, 116, 104, 101]
def b7 : Str := [115, 109, 105, 116, 104]
def zAD : Str := [115, 109, 121, 116, 104]
def zMx : Str := [115, 97, 109]
def rulesX : List Rule := [⟨[112, 104], [102]⟩, ⟨[121], [105]⟩, ⟨[101], []⟩]
def smithsX : List Str := [b7, zAD, zMx]
theorem zIM : zLm zMU = K5 := by kernel_rfl
theorem zIJ : x6 zMU = 0 := by kernel_rfl
theorem zIQ : N4 [K5, zMU, G1, zMl] = [2, 3, 0, 1] := by kernel_rfl
theorem zIN : r9 [K5, zMU, G1, zMl] = 0 := by kernel_rfl
theorem zDA : j3 rulesX Q3 b7 = 0 := by kernel_rfl
theorem zC9 : a7 rulesX Q3 b7 = some [Q3, K6, b7] := by kernel_rfl
theorem zIO : zAT smithsX 0 = [115, 105, 46] := by kernel_rfl
theorem zIP : zAS smithsX 0 = 0 := by kernel_rfl
theorem zIK : zMq smithsX 0 4 = [115, 105, 104, 46] := by kernel_rfl
theorem zIL : C9 smithsX 0 4 = 0 := by kernel_rfl
end Go.Abs

namespace Go.Abs
open Go
section
variable (l : List Str)
def cfI (a b : Nat) : Int := w3 (l.getD a []) (l.getD b [])
def Prec (a b : Nat) : Prop := cfI l a b < 0 ∨ (¬ cfI l b a < 0 ∧ a < b)
theorem D3 (a b : Nat) : cfI l b a = -cfI l a b := D8 _ _
theorem D4 {a b c : Nat} (h1 : ¬ cfI l a b < 0) (h2 : ¬ cfI l b c < 0) : ¬ cfI l a c < 0 := zBR h1 h2
theorem Prec.trans {a b c : Nat} (h1 : Prec l a b) (h2 : Prec l b c) : Prec l a c := by
 have ab := D3 l a b
 have bc := D3 l b c
 have ac := D3 l a c
 unfold Prec at *
 have g1 : ¬ cfI l b a < 0 := by rcases h1 with h1 | h1 <;> omega
 have g2 : ¬ cfI l c b < 0 := by rcases h2 with h2 | h2 <;> omega
 have g3 : ¬ cfI l c a < 0 := D4 l g2 g1
 by_cases e : cfI l a c < 0
 ·exact .inl e
 ·refine .inr ⟨g3, ?_⟩
  -- all three are alike
  have e1 : ¬ cfI l a b < 0 := fun h => by
   have : ¬ cfI l a b < 0 := D4 l (b := c) e g2
   exact this h
  have e2 : ¬ cfI l b c < 0 := fun h => by
   have : ¬ cfI l b c < 0 := D4 l (b := a) g1 e
   exact this h
  rcases h1 with h1 | h1
  ·exact absurd h1 e1
  ·rcases h2 with h2 | h2
   ·exact absurd h2 e2
   ·omega
theorem zGv : (N4 l).Perm (List.range l.length) := A0 _ _
theorem zGu : (N4 l).length = l.length := by rw [(zGv l).length_eq, List.length_range]
def zLB (i : Nat) : Nat := (List.range l.length).countP fun k => M3 (l.getD k []) (l.getD i []) || (decide (k < i) && !M3 (l.getD i []) (l.getD k []))
end
end Go.Abs

namespace Go.Proofs
open Go.Shelf
def Tryz.lays159_ren : Go.Shelf.Ren := ⟨fun | 159 => 143 | 165 => 163 | 166 => 164 | 167 => 165 | 169 => 166 | 230 => 167 | 204 => 168 | 240 => 182 | 241 => 183 | 197 => 184 | 118 => 185 | 168 => 186 | 270 => 187 | 262 => 188 | 276 => 194 | 277 => 195 | 260 => 196 | 242 => 197 | 313 => 198 | 278 => 200 | 274 => 201 | 275 => 202 | n => n, fun | 9 => 9 | 4 => 4 | 3 => 3 | 5 => 5 | 72 => 180 | 0 => 0 | 76 => 182 | 75 => 147 | 107 => 187 | 70 => 178 | 20 => 20 | 37 => 141 | 127 => 207 | 21 => 21 | 105 => 208 | 164 => 165 | 162 => 219 | 203 => 217 | 119 => 220 | 46 => 89 | 139 => 223 | 138 => 222 | 51 => 224 | 160 => 225 | 208 => 231 | 206 => 229 | 80 => 185 | n => n, fun | 13 => 2 | 3 => 3 | 4 => 4 | n => n⟩
theorem Tryz.lays159 : Go.Proofs.Lays.n159 Tryz.prog Tryz.lays159_ren := {
 mixed := by kernel_rfl
 f118 := Tryz.func185.trans (congrArg some (by kernel_rfl))
 f159 := Tryz.func143.trans (congrArg some (by kernel_rfl))
 f165 := Tryz.func163.trans (congrArg some (by kernel_rfl))
 f166 := Tryz.func164.trans (congrArg some (by kernel_rfl))
 f167 := Tryz.func165.trans (congrArg some (by kernel_rfl))
 f168 := Tryz.func186.trans (congrArg some (by kernel_rfl))
 f169 := Tryz.func166.trans (congrArg some (by kernel_rfl))
 f197 := Tryz.func184.trans (congrArg some (by kernel_rfl))
 f204 := Tryz.func168.trans (congrArg some (by kernel_rfl))
 f230 := Tryz.func167.trans (congrArg some (by kernel_rfl))
 f240 := Tryz.func182.trans (congrArg some (by kernel_rfl))
 f241 := Tryz.func183.trans (congrArg some (by kernel_rfl))
 f242 := Tryz.func197.trans (congrArg some (by kernel_rfl))
 f260 := Tryz.func196.trans (congrArg some (by kernel_rfl))
 f262 := Tryz.func188.trans (congrArg some (by kernel_rfl))
 f270 := Tryz.func187.trans (congrArg some (by kernel_rfl))
 f274 := Tryz.func201.trans (congrArg some (by kernel_rfl))
 f275 := Tryz.func202.trans (congrArg some (by kernel_rfl))
 f276 := Tryz.func194.trans (congrArg some (by kernel_rfl))
 f277 := Tryz.func195.trans (congrArg some (by kernel_rfl))
 f278 := Tryz.func200.trans (congrArg some (by kernel_rfl))
 f313 := Tryz.func198.trans (congrArg some (by kernel_rfl))
 t0 := Tryz.underlying0
 a0 := Tryz.isAgg0
 z0 := Tryz.sizeOf0
 v0 := Tryz.zeroValue0
 t3 := Tryz.underlying3
 a3 := Tryz.isAgg3
 z3 := Tryz.sizeOf3
 v3 := Tryz.zeroValue3
 t4 := Tryz.underlying4
 a4 := Tryz.isAgg4
 z4 := Tryz.sizeOf4
 v4 := Tryz.zeroValue4
 t5 := Tryz.underlying5
 a5 := Tryz.isAgg5
 z5 := Tryz.sizeOf5
 v5 := Tryz.zeroValue5
 t9 := Tryz.underlying9
 a9 := Tryz.isAgg9
 z9 := Tryz.sizeOf9
 v9 := Tryz.zeroValue9
 t20 := Tryz.underlying20
 a20 := Tryz.isAgg20
 z20 := Tryz.sizeOf20
 v20 := Tryz.zeroValue20
 t21 := Tryz.underlying21
 a21 := Tryz.isAgg21
 z21 := Tryz.sizeOf21
 v21 := Tryz.zeroValue21
 t37 := Tryz.underlying141
 a37 := Tryz.isAgg141
 z37 := Tryz.sizeOf141
 v37 := Tryz.zeroValue141
 t46 := Tryz.underlying89
 a46 := Tryz.isAgg89
 z46 := Tryz.sizeOf89
 v46 := Tryz.zeroValue89
 t51 := Tryz.underlying224
 a51 := Tryz.isAgg224
 z51 := Tryz.sizeOf224
 v51 := Tryz.zeroValue224
 t70 := Tryz.underlying178
 a70 := Tryz.isAgg178
 z70 := Tryz.sizeOf178
 v70 := Tryz.zeroValue178
 t72 := Tryz.underlying180
 a72 := Tryz.isAgg180
 z72 := Tryz.sizeOf180
 v72 := Tryz.zeroValue180
 t75 := Tryz.underlying147
 a75 := Tryz.isAgg147
 z75 := Tryz.sizeOf147
 v75 := Tryz.zeroValue147
 t76 := Tryz.underlying182
 a76 := Tryz.isAgg182
 z76 := Tryz.sizeOf182
 v76 := Tryz.zeroValue182
 t105 := Tryz.underlying208
 a105 := Tryz.isAgg208
 z105 := Tryz.sizeOf208
 v105 := Tryz.zeroValue208
 t107 := Tryz.underlying187
 a107 := Tryz.isAgg187
 z107 := Tryz.sizeOf187
 v107 := Tryz.zeroValue187
 t119 := Tryz.underlying220
 a119 := Tryz.isAgg220
 z119 := Tryz.sizeOf220
 t127 := Tryz.underlying207
 a127 := Tryz.isAgg207
 z127 := Tryz.sizeOf207
 v127 := Tryz.zeroValue207
 t138 := Tryz.underlying222
 a138 := Tryz.isAgg222
 z138 := Tryz.sizeOf222
 v138 := Tryz.zeroValue222
 t139 := Tryz.underlying223
 a139 := Tryz.isAgg223
 z139 := Tryz.sizeOf223
 v139 := Tryz.zeroValue223
 t160 := Tryz.underlying225
 a160 := Tryz.isAgg225
 z160 := Tryz.sizeOf225
 v160 := Tryz.zeroValue225
 t162 := Tryz.underlying219
 a162 := Tryz.isAgg219
 z162 := Tryz.sizeOf219
 v162 := Tryz.zeroValue219
 t164 := Tryz.underlying165
 a164 := Tryz.isAgg165
 z164 := Tryz.sizeOf165
 v164 := Tryz.zeroValue165
 t203 := Tryz.underlying217
 a203 := Tryz.isAgg217
 z203 := Tryz.sizeOf217
 v203 := Tryz.zeroValue217
 t206 := Tryz.underlying229
 a206 := Tryz.isAgg229
 z206 := Tryz.sizeOf229
 v206 := Tryz.zeroValue229
 t208 := Tryz.underlying231
 a208 := Tryz.isAgg231
 z208 := Tryz.sizeOf231
 v208 := Tryz.zeroValue231
 g3 := by kernel_rfl
 g4 := by kernel_rfl
 g13 := by kernel_rfl }
theorem Tryz.Builder_Extra_159 : Builder.Extra Tryz.prog Tryz.lays159_ren := {
 sizeBuilder := by kernel_rfl
 liesBuilder := by kernel_rfl
 t5 := Tryz.underlying5
 a5 := Tryz.isAgg5
 z5 := Tryz.sizeOf5
 v5 := Tryz.zeroValue5
 infoByte := by kernel_rfl
 cellsByte := by kernel_rfl
 sizeByte := by kernel_rfl
 neB5 := by decide }
open Go.RowKit in
theorem Tryz.strings_ToLower_ascii (s : ByteArray) (w : World) (hs : s.size ≤ 140737488355328) (hascii : ∀ (j : Nat) (b : UInt8), s.data.toList[j]? = some b → b.toNat < 128) :
  Calls Tryz.prog 143 #[.string s] w fun e w' => e = .returned (.string ⟨(Lib.toLowerA s.data.toList).toArray⟩) ∧ Below w.heap.size w w' := Any.strings_ToLower_ascii Tryz.lays159 Tryz.Builder_Extra_159 s w hs hascii
def Tryz.lays151_ren : Go.Shelf.Ren := ⟨fun | 151 => 128 | 152 => 152 | 137 => 173 | 119 => 174 | 224 => 175 | 225 => 176 | 217 => 191 | 266 => 199 | n => n, fun | 9 => 9 | 21 => 21 | 4 => 4 | 3 => 3 | 5 => 5 | 0 => 0 | 46 => 89 | n => n, fun | n => n⟩
theorem Tryz.lays151 : Go.Proofs.Lays.n151 Tryz.prog Tryz.lays151_ren := {
 mixed := by kernel_rfl
 f119 := Tryz.func174.trans (congrArg some (by kernel_rfl))
 f137 := Tryz.func173.trans (congrArg some (by kernel_rfl))
 f151 := Tryz.func128.trans (congrArg some (by kernel_rfl))
 f152 := Tryz.func152.trans (congrArg some (by kernel_rfl))
 f217 := Tryz.func191.trans (congrArg some (by kernel_rfl))
 f224 := Tryz.func175.trans (congrArg some (by kernel_rfl))
 f225 := Tryz.func176.trans (congrArg some (by kernel_rfl))
 f266 := Tryz.func199.trans (congrArg some (by kernel_rfl))
 t0 := Tryz.underlying0
 a0 := Tryz.isAgg0
 z0 := Tryz.sizeOf0
 v0 := Tryz.zeroValue0
 t3 := Tryz.underlying3
 a3 := Tryz.isAgg3
 z3 := Tryz.sizeOf3
 v3 := Tryz.zeroValue3
 t4 := Tryz.underlying4
 a4 := Tryz.isAgg4
 z4 := Tryz.sizeOf4
 v4 := Tryz.zeroValue4
 t5 := Tryz.underlying5
 a5 := Tryz.isAgg5
 z5 := Tryz.sizeOf5
 v5 := Tryz.zeroValue5
 t9 := Tryz.underlying9
 a9 := Tryz.isAgg9
 z9 := Tryz.sizeOf9
 v9 := Tryz.zeroValue9
 t21 := Tryz.underlying21
 a21 := Tryz.isAgg21
 z21 := Tryz.sizeOf21
 v21 := Tryz.zeroValue21
 t46 := Tryz.underlying89
 a46 := Tryz.isAgg89
 z46 := Tryz.sizeOf89
 v46 := Tryz.zeroValue89 }
open Go.RowKit Go.Lib in
theorem Tryz.strings_ContainsRune_ascii (s : ByteArray) (r : Int) (w : World) (h0 : 0 ≤ r) (h1 : r < 128) :
  Calls Tryz.prog 128 #[.string s, .int .i32 r] w fun e w' => e = .returned (.bool (decide (0 ≤ Lib.indexByte s.data.toList r.toNat.toUInt8))) ∧ w' = w := Any.strings_ContainsRune_ascii Tryz.lays151 s r w h0 h1
end Go.Proofs

namespace Go.Abs
open Go Go.Proofs Go.Proofs.YteehcinnfiaklaaGreatDoor
theorem zFY {P : Program} {w : World} {a b c : String × DataW Unit} (h : laidMet P [a, c, b] w) : laidMet P [a, b, c] w := by
 obtain ⟨ps, hv, hn, hr⟩ := h
 obtain ⟨n1, d1⟩ := a
 obtain ⟨n2, d2⟩ := b
 obtain ⟨n3, d3⟩ := c
 obtain ⟨g1, t1, c1, f1, p1, q1, a1, b1, v1, r1, ⟨g3, t3, c3, f3, p3, q3, a3, b3, v3, r3, ⟨g2, t2, c2, f2, p2, q2, a2, b2, v2, r2, e2, rfl⟩, rfl⟩, rfl⟩ := hv
 cases (show q2 = [] from e2)
 have hp : ((MemPlace.row ⟨g1, 0, none⟩ c1.size ++ p1) ++ ((MemPlace.row ⟨g3, 0, none⟩ c3.size ++ p3) ++ ((MemPlace.row ⟨g2, 0, none⟩ c2.size ++ p2) ++ []))).Perm ((MemPlace.row ⟨g1, 0, none⟩ c1.size ++ p1) ++ ((MemPlace.row ⟨g2, 0, none⟩ c2.size ++ p2) ++ ((MemPlace.row ⟨g3, 0, none⟩ c3.size ++ p3) ++ []))) := by
  simp only [List.append_nil]
  exact List.Perm.append_left _ List.perm_append_comm
 exact ⟨_, ⟨g1, t1, c1, f1, p1, _, a1, b1, v1, r1, ⟨g2, t2, c2, f2, p2, _, a2, b2, v2, r2, ⟨g3, t3, c3, f3, p3, [], a3, b3, v3, r3, rfl, rfl⟩, rfl⟩, rfl⟩, hp.nodup_iff.1 hn, fun b off hm => hr b off (hp.mem_iff.2 hm)⟩
noncomputable def zFZ (os : Os) : World :=
 let N := (World.settled Tryz.prog os).heap.size
 let w0 := World.holding Tryz.prog os ⟨#[.cells Lib.caseCells5 (Tryz.lays159_ren.t 208)], #[], []⟩
 let put (h : Array Obj) (g : Nat) (cs : Array Value) : Array Obj := h.modify g fun
  | .cells _ t frozen => .cells cs t frozen
  | o => o
 let h1 := put w0.heap 3 (Lib.firstTab.map fun z => Value.int .u8 z).toArray
 let h2 := put h1 4 ((List.range 16).flatMap fun i => [Value.int .u8 (Lib.accLo i), Value.int .u8 (Lib.accHi i)]).toArray
 let h3 := put h2 2 #[.slice (some ⟨N, 0, none⟩) 336 336]
 { w0 with heap := h3 }
theorem zDI : (Rows.laid_unicode_utf8_acceptRanges : DataW Unit) = Lib.acceptData := by kernel_rfl
theorem zDc : Rows.laid_unicode_CaseRanges = Lib.caseData := by kernel_rfl
theorem zEH : Rows.laid_unicode_utf8_first = Lib.firstData := by kernel_rfl
theorem zKF (os : Os) (args : Array Value) : laidMet Tryz.prog [("unicode/utf8.acceptRanges", Rows.laid_unicode_utf8_acceptRanges), ("unicode.CaseRanges", Rows.laid_unicode_CaseRanges), ("unicode/utf8.first", Rows.laid_unicode_utf8_first)] ((zFZ os).forCall (fun _ _ => 0) ⟨#[], args, []⟩).memory := by
 rw [zDI, zDc, zEH]
 refine zFY ?_
 exact laidMet_with_case (ρ := Tryz.lays159_ren) { Tryz.lays159 with } Tryz.lays159.t206 ⟨by kernel_rfl, by kernel_rfl, by kernel_rfl, by kernel_rfl, by kernel_rfl, by kernel_rfl⟩
  (l := [("unicode/utf8.acceptRanges", Lib.acceptData), ("unicode/utf8.first", Lib.firstData)])
  10 (by kernel_rfl) (by kernel_rfl) (by kernel_rfl) ((World.settled Tryz.prog default).heap.size) (Tryz.lays159_ren.t 208) (of_decide_eq_true (by kernel_rfl)) (by kernel_rfl) (by kernel_rfl) (by kernel_rfl)
theorem zKy : laidOutB Tryz.pinned.checked.prog = true := by kernel_rfl
theorem zK0 : mapsRowed Tryz.pinned.checked.prog = true := by kernel_rfl
theorem zK1 : (Tryz.pinned.checked.prog.stops == []) = true := by kernel_rfl
theorem zKx : (Tryz.pinned.checked.prog.stopKnobs == []) = true := by kernel_rfl
theorem zKw : Tryz.pinned.checked.prog.stopsHeard = true := by kernel_rfl
theorem zKv : Tryz.pinned.checked.prog.mayEnter = true := by kernel_rfl
theorem zKz : true = Tryz.pinned.checked.prog.looks [] := by kernel_rfl
end Go.Abs

namespace Go.Abs
open Go Go.Proofs Tryz
attribute [local irreducible] y3 Hold y7
attribute [go_sem] w9 Nat.le_refl Nat.sub_zero Int.reduceGT Nat.reduceGT Int.reduceGE
@[go_sem ↓] theorem zKC (a b : Int) (K : Cont) : zMS .xor .u64 a b K = K (uV (Z6 a b)) [] [] := rfl
@[go_sem ↓] theorem zLS (a b : Int) (K : Cont) : T9 .shl .u64 a b K = (0 ≤ b ∧ K (uV (J6 a b.toNat)) [] []) := rfl
@[go_sem ↓] theorem zLT (a b : Int) (K : Cont) : T9 .shr .u64 a b K = (0 ≤ b ∧ K (uV (j9 a b.toNat)) [] []) := rfl
@[go_sem] theorem zJZ (s : Int) : Z6 s (J6 s 13) = zMu s := rfl
@[go_sem] theorem zJa (s : Int) : Z6 s (j9 s 7) = zMv s := rfl
@[go_sem] theorem zJb (s : Int) : Z6 s (J6 s 17) = zMw s := rfl
@[go_sem] theorem zJc (s : Int) : zMw (zMv (zMu s)) = K4 s := rfl
@[go_sem] theorem zJd (n : Int) : IntKind.u64.wrap (Z6 n (j9 n 30) * 10723151780598845931) = zMf n := rfl
theorem zHm (d : Dice) (h : d.list.length ≤ 4294967296) : zLn prog 77 [.ptr 0 0] [w9 d] (uV (zME d)) [w9 (zMC d)] := by
 have e2 : (zMC d).list = d.list := rfl
 have e4 : (zMC d).seed = zMI d := rfl
 have e6 : zME d = Z6 (zMf (zMI d)) (j9 (zMf (zMI d)) 31) := rfl
 by_cases q : d.at_ < d.list.length
 ·have q2 : ((d.at_ : Int) < (d.list.length : Int)) := by omega
  have e1 : zMI d = IntKind.u64.wrap (K4 d.seed + IntKind.u64.wrap (IntKind.u64.wrap (d.list.getD d.at_ default) * 13787848793156543929)) := by unfold zMI; rw [if_pos q]
  have e3 : (zMC d).at_ = d.at_ + 1 := by unfold zMC; simp only; rw [if_pos q]
  have e5 : IntKind.i64.wrap ((d.at_ : Int) + 1) = ((d.at_ + 1 : Nat) : Int) := r6 (by omega)
  generalize zMC d = d' at *
  refine q7 func77 rfl (fun E hE => ?_); simp only [go_sem, ntmps77]
  repeat' (first | (refine Qr rfl ?_; try intro _ hK; try simp only [go_sem, *]) | refine Qh rfl ?_ | refine Qd rfl (by kernel_rfl) ?_ | (refine Qc rfl rfl ?_ ?_ <;> (intro hb; have hc := hb; try simp only [go_sem] at hc)) | refine q6 rfl ?_ | (refine Qb ?_ ?_; focus kernel_rfl) | ((with_reducible apply And.intro); focus omega) | (refine z8 hK ?_; clear hK; simp only [go_sem, *]) | simp only [z7, z6, go_sem, *])
  all_goals first | contradiction | omega | skip
  refine ⟨[_], [some 0], [], ⟨rfl, trivial⟩, ?_⟩
  simp only [go_sem, *]
 ·have q2 : ¬ ((d.at_ : Int) < (d.list.length : Int)) := by omega
  have e1 : zMI d = K4 d.seed := by unfold zMI; rw [if_neg q]
  have e3 : (zMC d).at_ = d.at_ := by unfold zMC; simp only; rw [if_neg q]
  generalize zMC d = d' at *
  refine q7 func77 rfl (fun E hE => ?_); simp only [go_sem, ntmps77]
  repeat' (first | (refine Qr rfl ?_; try intro _ hK; try simp only [go_sem, *]) | refine Qh rfl ?_ | refine Qd rfl (by kernel_rfl) ?_ | (refine Qc rfl rfl ?_ ?_ <;> (intro hb; have hc := hb; try simp only [go_sem] at hc)) | refine q6 rfl ?_ | (refine Qb ?_ ?_; focus kernel_rfl) | ((with_reducible apply And.intro); focus omega) | (refine z8 hK ?_; clear hK; simp only [go_sem, *]) | simp only [z7, z6, go_sem, *])
  all_goals first | contradiction | omega | skip
  refine ⟨[_], [some 0], [], ⟨rfl, trivial⟩, ?_⟩
  simp only [go_sem, *]
theorem X0 (d : Dice) (n : Int) (h : d.list.length ≤ 4294967296) (hn : n ≤ 4294967296) : zLn prog 26 [.ptr 0 0, iV n] [w9 d] (iV (toN n d)) [w9 (toD n d)] := by
 by_cases q : n < 1
 ·have e1 : toN n d = 0 := by unfold toN; rw [if_pos q]
  have e2 : toD n d = d := by unfold toD; rw [if_pos q]
  refine q7 func26 rfl (fun E hE => ?_); simp only [go_sem, ntmps26]
  repeat' (first | (refine Qr rfl ?_; try intro _ hK; try simp only [go_sem, *]) | refine Qh rfl ?_ | (refine Qc rfl rfl ?_ ?_ <;> (intro hb; have hc := hb; try simp only [go_sem] at hc)) | refine q6 rfl ?_ | ((with_reducible apply And.intro); focus omega) | (refine z8 hK ?_; clear hK; simp only [go_sem, *]) | simp only [z7, z6, go_sem, *])
  all_goals first | contradiction | omega | skip
  refine ⟨[_], [some 0], [], ⟨rfl, trivial⟩, ?_⟩
  simp only [go_sem, *]
 ·have e1 : toN n d = (j9 (zME d) 16).tmod (n + 1) := by unfold toN; rw [if_neg q]
  have e2 : toD n d = zMC d := by unfold toD; rw [if_neg q]
  have hr := zCz n d
  rw [e1] at hr
  have e3 : IntKind.i64.wrap (n + 1) = n + 1 := wrap_i64 (by omega) (by omega)
  have e4 : IntKind.u64.wrap (n + 1) = n + 1 := by rw [IntKind.wrap_u64]; omega
  have e5 : IntKind.i64.wrap ((j9 (zME d) 16).tmod (n + 1)) = (j9 (zME d) 16).tmod (n + 1) := wrap_i64 (by omega) (by omega)
  have e6 : ¬ n + 1 = 0 := by omega
  have sr := zHm d h
  generalize zME d = r at *
  generalize zMC d = d' at *
  clear hr
  refine q7 func26 rfl (fun E hE => ?_); simp only [go_sem, ntmps26]
  repeat' (first | (refine Qr rfl ?_; try intro _ hK; try simp only [go_sem, *]) | refine Qh rfl ?_ | (refine Qc rfl rfl ?_ ?_ <;> (intro hb; have hc := hb; try simp only [go_sem] at hc)) | refine q6 rfl ?_ | (refine w5 [0] (sr) ?_; simp only [go_sem, *]) | ((with_reducible apply And.intro); focus omega) | (refine z8 hK ?_; clear hK; simp only [go_sem, *]) | simp only [z7, z6, go_sem, *])
  all_goals first | contradiction | omega | skip
  refine ⟨[_], [some 0], [], ⟨rfl, trivial⟩, ?_⟩
  simp only [go_sem, *]
theorem zHD (d : Dice) (lo hi : Int) (h : d.list.length ≤ 4294967296) (hl : 0 ≤ lo ∧ lo ≤ hi) (hh : hi ≤ 4294967296) : zLn prog 27 [.ptr 0 0, iV lo, iV hi] [w9 d] (iV (b5 lo hi d)) [w9 (Y3 lo hi d)] := by
 have st := X0 d (hi - lo) h (by omega)
 have hf := B1 hl.2 d
 have e1 : IntKind.i64.wrap (hi - lo) = hi - lo := wrap_i64 (by omega) (by omega)
 have e2 : IntKind.i64.wrap (lo + toN (hi - lo) d) = b5 lo hi d := by
  have : lo + toN (hi - lo) d = b5 lo hi d := rfl
  rw [this]; exact wrap_i64 (by omega) (by omega)
 have e3 : Y3 lo hi d = toD (hi - lo) d := rfl
 rw [e3]
 generalize b5 lo hi d = r at *
 clear e3 hf hl
 refine q7 func27 rfl (fun E hE => ?_); simp only [go_sem, ntmps27]
 repeat' (first | (refine Qr rfl ?_; try intro _ hK; try simp only [go_sem, *]) | refine Qh rfl ?_ | (refine Qc rfl rfl ?_ ?_ <;> (intro hb; have hc := hb; try simp only [go_sem] at hc)) | refine q6 rfl ?_ | (refine w5 [0] (st) ?_; simp only [go_sem, *]) | ((with_reducible apply And.intro); focus omega) | (refine z8 hK ?_; clear hK; simp only [go_sem, *]) | simp only [z7, z6, go_sem, *])
 refine ⟨[_], [some 0], [], ⟨rfl, trivial⟩, ?_⟩
 simp only [go_sem, *]
theorem F9 (d : Dice) (k : Int) (h : d.list.length ≤ 4294967296) (hk : 0 ≤ k ∧ k ≤ 4294967296) : zLn prog 34 [.ptr 0 0, iV k] [w9 d] (bV (Q6 k d)) [w9 (v6 k d)] := by
 have st := X0 d (k - 1) h (by omega)
 have e1 : IntKind.i64.wrap (k - 1) = k - 1 := wrap_i64 (by omega) (by omega)
 have e2 : Q6 k d = (toN (k - 1) d == 0) := rfl
 have e3 : v6 k d = toD (k - 1) d := rfl
 rw [e3, e2]
 clear e2 e3 hk
 refine q7 func34 rfl (fun E hE => ?_); simp only [go_sem, ntmps34]
 repeat' (first | (refine Qr rfl ?_; try intro _ hK; try simp only [go_sem, *]) | refine Qh rfl ?_ | (refine Qc rfl rfl ?_ ?_ <;> (intro hb; have hc := hb; try simp only [go_sem] at hc)) | refine q6 rfl ?_ | (refine w5 [0] (st) ?_; simp only [go_sem, *]) | ((with_reducible apply And.intro); focus omega) | (refine z8 hK ?_; clear hK; simp only [go_sem, *]) | simp only [z7, z6, go_sem, *])
 refine ⟨[_], [some 0], [], ⟨rfl, trivial⟩, ?_⟩
 simp only [go_sem, *]
@[reducible] def W4 (l : List Int) : AV := .list (l.map iV)
def zCB (l : List Int) : Dice := ⟨l, 0, 11400714819323198485⟩
theorem zHH (l : List Int) : zLn prog 23 [W4 l] [] (.ptr 0 0) [w9 (zCB l)] := by
 refine q7 func23 rfl (fun E hE => ?_); simp only [go_sem, ntmps23]
 repeat' (first | (refine Qr rfl ?_; try intro _ hK; try simp only [go_sem, *]) | refine Qh rfl ?_ | (refine Qc rfl rfl ?_ ?_ <;> (intro hb; have hc := hb; try simp only [go_sem] at hc)) | refine q6 rfl ?_ | ((with_reducible apply And.intro); focus omega) | (refine z8 hK ?_; clear hK; simp only [go_sem, *]) | simp only [z7, z6, go_sem, *])
 refine ⟨[_], [some 0], [], ⟨rfl, trivial⟩, ?_⟩
 simp only [go_sem, zCB, *]
 try rfl
end Go.Abs

namespace Go.Abs
open Go
end Go.Abs

namespace Go.Abs
open Go
def L3 (x : Str) : Prop := x.head? ≠ some 104
theorem zG3 : (otherL.all fun a => otherL.all fun b => decide (a = b) || (!((y5 a).head? == (y5 b).head?) || ((a == 83 && b == 88) || (a == 88 && b == 83) || (a == 74 && b == 89) || (a == 89 && b == 74)))) = true := by decide
theorem zG2 : (otherL.all fun a => !((y5 a).head? == some 104)) = true := by decide
theorem Q0 (a : UInt8) (r : Str) : zLm (a :: r) = y5 a ++ zLm r := rfl
theorem F7 (a : UInt8) : y5 a ≠ [] := fun h => by have := (S1 a).1; rw [h] at this; simp at this
theorem zBl : ∀ {x : Str}, x.all w6 = true → L3 (zLm x)
 | [], _ => by simp [L3, zLm]
 | a :: r, h => by
  rw [List.all_cons, Bool.and_eq_true] at h
  have := List.all_eq_true.1 zG2 a (mem_otherL.2 h.1)
  unfold L3
  rw [Q0, List.head?_append]
  cases e : (y5 a).head? with
  | none => exact absurd (List.head?_eq_none_iff.1 e) (F7 a)
  | some b => rw [e] at this; simpa using this
theorem zG4 {a b : UInt8} (ha : w6 a = true) (hb : w6 b = true) {x y : Str} (hx : L3 x) (hy : L3 y) (h : y5 a ++ x = y5 b ++ y) : a = b ∧ x = y := by
 have key := List.all_eq_true.1 (List.all_eq_true.1 zG3 a (mem_otherL.2 ha)) b (mem_otherL.2 hb)
 rw [Bool.or_eq_true, decide_eq_true_eq] at key
 rcases key with rfl | key
 ·exact ⟨rfl, List.append_cancel_left h⟩
 ·exfalso
  have hh := congrArg List.head? h
  rw [List.head?_append, List.head?_append] at hh
  have e1 : ∃ p, (y5 a).head? = some p := by
   cases e : (y5 a).head? with
   | none => exact absurd (List.head?_eq_none_iff.1 e) (F7 a)
   | some p => exact ⟨p, rfl⟩
  have e2 : ∃ p, (y5 b).head? = some p := by
   cases e : (y5 b).head? with
   | none => exact absurd (List.head?_eq_none_iff.1 e) (F7 b)
   | some p => exact ⟨p, rfl⟩
  obtain ⟨p, hp⟩ := e1
  obtain ⟨q, hq⟩ := e2
  rw [hp, hq] at hh
  rw [Bool.or_eq_true] at key
  rcases key with key | key
  ·rw [hp, hq] at key
   simp at hh key
   exact key hh
  ·simp only [Bool.or_eq_true, Bool.and_eq_true, beq_iff_eq] at key
   rcases key with ((⟨rfl, rfl⟩ | ⟨rfl, rfl⟩) | ⟨rfl, rfl⟩) | ⟨rfl, rfl⟩
   ·have e : y5 83 = [115] := by decide
    have e' : y5 88 = [115, 104] := by decide
    rw [e, e'] at h
    simp at h
    exact hx (by rw [h]; rfl)
   ·have e : y5 83 = [115] := by decide
    have e' : y5 88 = [115, 104] := by decide
    rw [e, e'] at h
    simp at h
    exact hy (by rw [← h]; rfl)
   ·have e : y5 74 = [106, 117] := by decide
    have e' : y5 89 = [106, 97] := by decide
    rw [e, e'] at h
    simp at h
   ·have e : y5 74 = [106, 117] := by decide
    have e' : y5 89 = [106, 97] := by decide
    rw [e, e'] at h
    simp at h
theorem A1 : ∀ {x y : Str}, x.all w6 = true → y.all w6 = true → zLm x = zLm y → x = y
 | [], [], _, _, _ => rfl
 | [], b :: y, _, _, h => by
  rw [Q0] at h
  have := congrArg List.length h
  have hb := (S1 b).1
  have e0 : (zLm []).length = 0 := rfl
  rw [List.length_append] at this
  omega
 | a :: x, [], _, _, h => by
  rw [Q0] at h
  have := congrArg List.length h
  have hb := (S1 a).1
  have e0 : (zLm []).length = 0 := rfl
  rw [List.length_append] at this
  omega
 | a :: x, b :: y, hx, hy, h => by
  rw [List.all_cons, Bool.and_eq_true] at hx hy
  rw [Q0, Q0] at h
  obtain ⟨rfl, h2⟩ := zG4 hx.1 hy.1 (zBl hx.2) (zBl hy.2) h
  rw [A1 hx.2 hy.2 h2]
theorem H4 : ∀ (n : Nat) (k o : Str), r8 n k = some o → o.all w6 = true ∧ zLm o = k
 | _, [], o, h => by
  rw [r8] at h
  cases h; exact ⟨rfl, rfl⟩
 | 0, _ :: _, o, h => by cases h
 | n + 1, a :: r, o, h => by
  rw [r8] at h
  obtain ⟨pre, c, post, hL, h1, _⟩ := C8 h
  have hc : c ∈ otherL := by rw [hL]; simp
  split at h1
  ·rename_i hp
   cases e : r8 n ((a :: r).drop (y5 c).length) with
   | none => rw [e] at h1; cases h1
   | some o' =>
    rw [e] at h1
    cases h1
    obtain ⟨g1, g2⟩ := H4 n _ o' e
    refine ⟨by rw [List.all_cons, mem_otherL.1 hc, g1]; rfl, ?_⟩
    rw [Q0, g2]
    obtain ⟨t, ht⟩ := List.isPrefixOf_iff_prefix.1 hp
    rw [← ht]; simp
  ·cases h1
theorem zBP : ∀ (n : Nat) (s : Str), s.all w6 = true → (zLm s).length ≤ n → r8 n (zLm s) = some s
 | n, [], _, _ => by
  show r8 n [] = _
  rw [r8]
 | n, a :: r, hs, hl => by
  have hs' := hs
  rw [List.all_cons, Bool.and_eq_true] at hs'
  have hal := (S1 a).1
  rw [Q0, List.length_append] at hl
  obtain ⟨n, rfl⟩ : ∃ m, n = m + 1 := ⟨n - 1, by omega⟩
  cases hf : r8 (n + 1) (zLm (a :: r)) with
  | some o =>
   obtain ⟨g1, g2⟩ := H4 _ _ _ hf
   rw [A1 g1 hs g2]
  | none =>
   exfalso
   cases hk : zLm (a :: r) with
   | nil =>
    rw [Q0] at hk
    exact F7 a (List.append_eq_nil_iff.1 hk).1
   | cons p q =>
    rw [hk, r8] at hf
    have h1 := C7 hf a (mem_otherL.2 hs'.1)
    have hp : (y5 a).isPrefixOf (p :: q) = true := by
     rw [← hk, Q0]; exact List.isPrefixOf_iff_prefix.2 ⟨_, rfl⟩
    rw [if_pos hp] at h1
    have hd : (p :: q).drop (y5 a).length = zLm r := by rw [← hk, Q0]; simp
    rw [hd, zBP n r hs'.2 (by omega)] at h1
    cases h1
theorem zEo {s : Str} (h : s.all w6 = true) : P0 (zLm s) = some s := zBP _ s h (Nat.le_refl _)
theorem zEp {k o : Str} (h : P0 k = some o) : o.all w6 = true ∧ zLm o = k := H4 _ _ _ h
end Go.Abs

namespace Go.Abs
open Go
theorem zJP {a b : Str} (va : ValidN a) (vb : ValidN b) : w3 a b = 0 ↔ a = b := by
 constructor
 ·intro h
  unfold w3 orI at h
  by_cases hk : zLq (zLm a) (zLm b) = 0
  ·rw [if_pos hk, va.script, vb.script] at h
   have hk := cmpS_zero.1 hk
   have fa := va.form
   have fb := vb.form
   unfold o0 at fa fb
   rw [Bool.or_eq_true] at fa fb
   have hm : ∀ {s : Str}, ValidN s → s.getD 0 0 ∈ s := fun {s} v => by
    cases s with
    | nil => have := v.ne; simp at this
    | cons c r => simp
   have ol : ∀ c : UInt8, w6 c = true → y6 c = false := fun c hc => by
    unfold w6 at hc
    unfold y6
    rw [Bool.and_eq_true, Bool.and_eq_true, decide_eq_true_eq, decide_eq_true_eq] at hc
    simp; omega
   rcases fa with fa | fa
   ·rcases fb with fb | fb
    ·rwa [L6 fa, L6 fb] at hk
    ·have h1 := List.all_eq_true.1 fa _ (hm va)
     have h2 := ol _ (List.all_eq_true.1 fb _ (hm vb))
     rw [h1, h2] at h
     simp [zLz] at h
   ·rcases fb with fb | fb
    ·have h1 := ol _ (List.all_eq_true.1 fa _ (hm va))
     have h2 := List.all_eq_true.1 fb _ (hm vb)
     rw [h1, h2] at h
     simp [zLz] at h
    ·exact A1 fa fb hk
  ·rw [if_neg hk] at h; exact absurd h hk
 ·rintro rfl
  have := D8 a a
  omega
def Asc (n : Nat) (c : List Nat) : Prop := c.Pairwise (· < ·) ∧ ∀ i, i ∈ c → i < n
def zC5 (l : List Str) (c : List Nat) : List Str := ((List.range l.length).filter fun i => !decide (i ∈ c)).map fun i => l.getD i []
def zIf (l : List Str) (c : List Nat) : Prop := Asc l.length c ∧ K9 (zC5 l c) = true
def zCH (n : Nat) : Nat → Nat → List (List Nat)
 | 0, _ => [[]]
 | m + 1, lo => (List.range' lo (n - lo)).flatMap fun i => (zCH n m (i + 1)).map (i :: ·)
def zLk (l : List Str) (m : Nat) : Option (List Nat) := p6 (fun c => if K9 (zC5 l c) = true then some c else none) (zCH l.length m 0)
end Go.Abs

namespace Go.Abs
open Go
def Z1 (r : Int) : Int := if 97 ≤ r ∧ r ≤ 122 then 1 else if 65 ≤ r ∧ r ≤ 90 ∧ ¬ (r = 72 ∨ r = 81 ∨ r = 87) then 2 else 0
theorem zFV : ((List.range 256).all fun n => decide (Z1 n = x8 (UInt8.ofNat n))) = true := by kernel_rfl
theorem G0 (c : UInt8) : Z1 (c.toNat : Int) = x8 c := by
 have := List.all_eq_true.1 zFV c.toNat (List.mem_range.2 c.toNat_lt)
 rw [decide_eq_true_eq, UInt8.ofNat_toNat] at this
 exact this
theorem zBo {r : Int} (h : 128 ≤ r) : Z1 r = 0 := by
 unfold Z1
 rw [if_neg (by omega), if_neg (by omega)]
theorem zBn {c : UInt8} (h : 128 ≤ c.toNat) : x8 c = 0 := by rw [← G0, zBo (by omega)]
theorem zFT {c : UInt8} (h : x8 c ≠ 0) : c.toNat < 128 := by
 apply Decidable.of_not_not
 intro hn
 exact h (zBn (by omega))
theorem zFX : ((List.range 256).all fun n => (y6 (UInt8.ofNat n) == decide (x8 (UInt8.ofNat n) = 1)) && (w6 (UInt8.ofNat n) == decide (x8 (UInt8.ofNat n) = 2))) = true := by kernel_rfl
theorem zBp (c : UInt8) : y6 c = decide (x8 c = 1) ∧ w6 c = decide (x8 c = 2) := by
 have := List.all_eq_true.1 zFX c.toNat (List.mem_range.2 c.toNat_lt)
 rw [UInt8.ofNat_toNat, Bool.and_eq_true, beq_iff_eq, beq_iff_eq] at this
 exact this
theorem latin_kind {c : UInt8} : y6 c = true ↔ x8 c = 1 := by rw [(zBp c).1, decide_eq_true_eq]
theorem other_kind {c : UInt8} : w6 c = true ↔ x8 c = 2 := by rw [(zBp c).2, decide_eq_true_eq]
def FormTo (s : Str) (i : Nat) (k : Int) : Prop := (i = 0 ∧ k = 0) ∨ (0 < i ∧ k ≠ 0 ∧ ∀ j, j < i → x8 (s.getD j 0) = k)
theorem zFU (c : UInt8) : x8 c = 0 ∨ x8 c = 1 ∨ x8 c = 2 := by
 unfold x8
 repeat' split
 all_goals simp
theorem FormTo.end {s : Str} {i : Nat} {k : Int} (h : FormTo s i k) (hi : i = s.length) (h0 : 0 < s.length) : o0 s = true := by
 rcases h with h | ⟨_, hk, h⟩
 ·omega
 ·unfold o0
  rw [Bool.or_eq_true, List.all_eq_true, List.all_eq_true]
  have hm : ∀ c, c ∈ s → x8 c = k := fun c hc => by
   obtain ⟨j, hj, rfl⟩ := List.getElem_of_mem hc
   have := h j (by omega)
   simpa [List.getD, hj] using this
  have hr : k = 1 ∨ k = 2 := by
   cases s with
   | nil => simp at h0
   | cons c r =>
    have h1 := hm c (by simp)
    rcases zFU c with h2 | h2 | h2 <;> omega
  rcases hr with rfl | rfl
  ·exact .inl (fun c hc => latin_kind.2 (hm c hc))
  ·exact .inr (fun c hc => other_kind.2 (hm c hc))
theorem FormTo.next {s : Str} {i : Nat} {k : Int} (h : FormTo s i k) (hk : x8 (s.getD i 0) ≠ 0) (he : k = 0 ∨ x8 (s.getD i 0) = k) : FormTo s (i + 1) (x8 (s.getD i 0)) := by
 refine .inr ⟨by omega, hk, fun j hj => ?_⟩
 by_cases e : j = i
 ·rw [e]
 ·rcases h with ⟨rfl, rfl⟩ | ⟨h0, h1, h⟩
  ·omega
  ·rw [h j (by omega)]
   rcases he with he | he
   ·exact absurd he h1
   ·exact he.symm
theorem FormTo.bad {s : Str} {i : Nat} {k : Int} (h : FormTo s i k) (hi : i < s.length) (hb : x8 (s.getD i 0) = 0 ∨ (k ≠ 0 ∧ x8 (s.getD i 0) ≠ k)) : o0 s = false := by
 have hm : s.getD i 0 ∈ s := by simp [List.getD, hi]
 cases hf : o0 s with
 | false => rfl
 | true =>
  exfalso
  unfold o0 at hf
  rw [Bool.or_eq_true, List.all_eq_true, List.all_eq_true] at hf
  have hall : ∃ q, q ≠ 0 ∧ ∀ c, c ∈ s → x8 c = q := by
   rcases hf with hf | hf
   ·exact ⟨1, by decide, fun c hc => latin_kind.1 (hf c hc)⟩
   ·exact ⟨2, by decide, fun c hc => other_kind.1 (hf c hc)⟩
  obtain ⟨q, hq, hall⟩ := hall
  have h1 := hall _ hm
  rcases hb with hb | ⟨hb1, hb2⟩
  ·exact hq (h1.symm.trans hb)
  ·rcases h with ⟨_, h⟩ | ⟨h0, _, h⟩
   ·exact hb1 h
   ·have h2 := h 0 h0
    have h3 : s.getD 0 0 ∈ s := by
     have : 0 < s.length := by omega
     simp [List.getD, this]
    have := hall _ h3
    exact hb2 (by omega)
end Go.Abs

namespace Go.Abs
open Go Go.Proofs Tryz
attribute [local irreducible] y3 Hold y7
theorem zHd (n : Int) : zLn prog 153 [iV n] [] (bV false) [] := by
 refine q7 func153 rfl (fun E hE => ?_); simp only [go_sem, ntmps153]
 repeat' (first | (refine Qr rfl ?_; try intro _ hK; try simp only [go_sem, *]) | refine Qh rfl ?_ | (refine Qc rfl rfl ?_ ?_ <;> (intro hb; have hc := hb; try simp only [go_sem] at hc)) | refine q6 rfl ?_ | ((with_reducible apply And.intro); focus omega) | (refine z8 hK ?_; clear hK; simp only [go_sem, *]) | simp only [z7, z6, go_sem, *])
 all_goals (refine ⟨[_], [], [], ⟨rfl, trivial⟩, ?_⟩; simp only [go_sem, *])
 all_goals simp_all
theorem zG5 (a b : Int) : zLn prog 130 [iV a, iV b] [] (iV (zLz a b)) [] := by
 refine q7 func130 rfl (fun E hE => ?_); simp only [go_sem, ntmps130]
 repeat' (first | (refine Qr rfl ?_; try intro _ hK; try simp only [go_sem, *]) | refine Qh rfl ?_ | (refine Qc rfl rfl ?_ ?_ <;> (intro hb; have hc := hb; try simp only [go_sem] at hc)) | refine q6 rfl ?_ | (refine q9 (zHd _) ?_; simp only [go_sem, *]) | ((with_reducible apply And.intro); focus omega) | (refine z8 hK ?_; clear hK; simp only [go_sem, *]) | simp only [z7, z6, go_sem, *])
 all_goals (refine ⟨[_], [], [], ⟨rfl, trivial⟩, ?_⟩; simp only [go_sem, *])
 all_goals (refine L5 ?_; unfold zLz; repeat' split)
 all_goals omega
def orL : List Int → Int
 | [] => 0
 | x :: r => if x = 0 then orL r else x
theorem zCe (l : List Int) (hl : l.length ≤ 4294967296) : zLn prog 119 [.list (l.map iV)] [] (iV (orL l)) [] := by
 refine q7 func119 rfl (fun E hE => ?_); simp only [go_sem, ntmps119]
 repeat' (first | (refine Qr rfl ?_; try intro _ hK; try simp only [go_sem, *]) | refine Qh rfl ?_ | (refine Qc rfl rfl ?_ ?_ <;> (intro hb; have hc := hb; try simp only [go_sem] at hc)) | refine q6 rfl ?_ | ((with_reducible apply And.intro); focus omega) | (refine z8 hK ?_; clear hK; simp only [go_sem, *]) | simp only [z7, z6, go_sem, *])
 refine p8 rfl (l.length) (fun i => orL (l.drop i) = orL l) 18 (fun i => [(8, iV i), (7, iV l.length), (6, .list (l.map iV)), (3, iV 0)]) (fun i => []) [] [] (by simp) ?_; intro i hi hP
 repeat' (first | (refine Qr rfl ?_; try intro _ hK; try simp only [go_sem, *]) | refine Qh rfl ?_ | (refine Qc rfl rfl ?_ ?_ <;> (intro hb; have hc := hb; try simp only [go_sem] at hc)) | refine q6 rfl ?_ | ((with_reducible apply And.intro); focus omega) | (refine z8 hK ?_; clear hK; simp only [go_sem, *]) | simp only [z7, z6, go_sem, *])
 ·(refine ⟨[_], [], [], ⟨rfl, trivial⟩, ?_⟩; simp only [go_sem, *])
  rw [← hP, l8 ‹_›, orL, if_neg ‹_›]
 ·exact p9 (i' := i + 1) [] [] (by rw [← hP, l8 (i := i) ‹_›, orL, if_pos ‹_›])
 ·(refine ⟨[_], [], [], ⟨rfl, trivial⟩, ?_⟩; simp only [go_sem, *])
  rw [← hP, c9 (by omega), orL]
theorem zCE (a b : Int) : orL [a, b] = orI a b := by
 simp only [orL, orI]; repeat' split
 all_goals omega
theorem zHe (s : Str) : zLn prog 142 [sV s] [] (bV false) [] := by
 refine q7 func142 rfl (fun E hE => ?_); simp only [go_sem, ntmps142]
 repeat' (first | (refine Qr rfl ?_; try intro _ hK; try simp only [go_sem, *]) | refine Qh rfl ?_ | (refine Qc rfl rfl ?_ ?_ <;> (intro hb; have hc := hb; try simp only [go_sem] at hc)) | refine q6 rfl ?_ | ((with_reducible apply And.intro); focus omega) | (refine z8 hK ?_; clear hK; simp only [go_sem, *]) | simp only [z7, z6, go_sem, *])
 all_goals (refine ⟨[_], [], [], ⟨rfl, trivial⟩, ?_⟩; simp only [go_sem, *])
 all_goals simp_all
theorem zHf (s : Str) : zLn prog 172 [sV s] [] (bV false) [] := by
 refine q7 func172 rfl (fun E hE => ?_); simp only [go_sem, ntmps172]
 repeat' (first | (refine Qr rfl ?_; try intro _ hK; try simp only [go_sem, *]) | refine Qh rfl ?_ | (refine Qc rfl rfl ?_ ?_ <;> (intro hb; have hc := hb; try simp only [go_sem] at hc)) | refine q6 rfl ?_ | ((with_reducible apply And.intro); focus omega) | (refine z8 hK ?_; clear hK; simp only [go_sem, *]) | simp only [z7, z6, go_sem, *])
 all_goals (refine ⟨[_], [], [], ⟨rfl, trivial⟩, ?_⟩; simp only [go_sem, *])
 all_goals simp_all
theorem zCY (a b : Str) : zLn prog 120 [sV a, sV b] [] (iV (zLq a b)) [] := by
 refine q7 func120 rfl (fun E hE => ?_); simp only [go_sem, ntmps120]
 repeat' (first | (refine Qr rfl ?_; try intro _ hK; try simp only [go_sem, *]) | refine Qh rfl ?_ | (refine Qc rfl rfl ?_ ?_ <;> (intro hb; have hc := hb; try simp only [go_sem] at hc)) | refine q6 rfl ?_ | (refine q9 (zHe _) ?_; simp only [go_sem, *]) | ((with_reducible apply And.intro); focus omega) | (refine z8 hK ?_; clear hK; simp only [go_sem, *]) | simp only [z7, z6, go_sem, *])
 all_goals (refine ⟨[_], [], [], ⟨rfl, trivial⟩, ?_⟩; simp only [go_sem, *])
 all_goals (refine L5 ?_; unfold zLq w7; simp_all)
 all_goals (apply Decidable.of_not_not; intro h; exact absurd (N5 (by assumption) (by simpa using h)) (by assumption))
theorem zG7 (a b : Str) : zLn prog 150 [sV a, sV b] [] (iV (zLq a b)) [] := by
 refine q7 func150 rfl (fun E hE => ?_); simp only [go_sem, ntmps150]
 repeat' (first | (refine Qr rfl ?_; try intro _ hK; try simp only [go_sem, *]) | refine Qh rfl ?_ | (refine Qc rfl rfl ?_ ?_ <;> (intro hb; have hc := hb; try simp only [go_sem] at hc)) | refine q6 rfl ?_ | (refine q9 (zHf _) ?_; simp only [go_sem, *]) | ((with_reducible apply And.intro); focus omega) | (refine z8 hK ?_; clear hK; simp only [go_sem, *]) | simp only [z7, z6, go_sem, *])
 all_goals (refine ⟨[_], [], [], ⟨rfl, trivial⟩, ?_⟩; simp only [go_sem, *])
 all_goals (refine L5 ?_; unfold zLq w7; simp_all)
 all_goals (apply Decidable.of_not_not; intro h; exact absurd (N5 (by assumption) (by simpa using h)) (by assumption))
end Go.Abs

namespace Go.Abs
open Go Go.Proofs Tryz
attribute [local irreducible] y3 Hold y7
theorem zF3 : ¬ U1 := fun h => h
def hqw (r : Int) : Bool := decide (0 ≤ Lib.indexByte [72, 81, 87] r.toNat.toUInt8)
theorem zFD : ((List.range 128).all fun n => hqw n == (n == 72 || n == 81 || n == 87)) = true := by kernel_rfl
theorem zFE {r : Int} (h0 : 0 ≤ r) (h1 : r < 128) : hqw r = decide (r = 72 ∨ r = 81 ∨ r = 87) := by
 obtain ⟨n, rfl⟩ := Int.eq_ofNat_of_zero_le h0
 have := List.all_eq_true.1 zFD n (List.mem_range.2 (by omega))
 rw [beq_iff_eq] at this
 rw [this, Bool.eq_iff_iff]
 simp
 omega
theorem zHa (r : Int) (h0 : 0 ≤ r) (h1 : r < 128) : zLn prog 128 [sV [72, 81, 87], .raw (.int .i32 r)] [] (bV (hqw r)) [] :=
 zH2 [.string ⟨[72, 81, 87].toArray⟩, .int .i32 r] (.bool (hqw r)) rfl (fun w => Tryz.strings_ContainsRune_ascii _ r w h0 h1)
theorem E1 (r : Int) : zLn prog 92 [.raw (.int .i32 r)] [] (iV (Z1 r)) [] := by
 by_cases q : 65 ≤ r ∧ r ≤ 90
 ·have sh := zHa r (by omega) (by omega)
  have e := zFE (r := r) (by omega) (by omega)
  generalize hqw r = b at *
  have e0 : b = decide (r = 72 ∨ r = 81 ∨ r = 87) := e
  clear e
  refine q7 func92 rfl (fun E hE => ?_); simp only [go_sem, ntmps92]
  repeat' (first | (refine Qr rfl ?_; try intro _ hK; try simp only [go_sem, *]) | (refine Qi rfl rfl rfl rfl ?_ ?_ <;> (intro hb; (try intro _ hK); have hc := hb; try simp only [go_sem] at hc; simp only [go_sem, *])) | refine Qh rfl ?_ | (refine Qc rfl rfl ?_ ?_ <;> (intro hb; have hc := hb; try simp only [go_sem] at hc)) | refine q6 rfl ?_ | (refine q9 (sh) ?_; simp only [go_sem, *]) | ((with_reducible apply And.intro); focus omega) | (refine z8 hK ?_; clear hK; simp only [go_sem, *]) | simp only [z7, z6, go_sem, *])
  all_goals (refine ⟨[_], [], [], ⟨rfl, trivial⟩, ?_⟩; simp only [go_sem, *])
  all_goals (refine L5 ?_; unfold Z1; simp_all)
  all_goals omega
 ·refine q7 func92 rfl (fun E hE => ?_); simp only [go_sem, ntmps92]
  repeat' (first | (refine Qr rfl ?_; try intro _ hK; try simp only [go_sem, *]) | (refine Qi rfl rfl rfl rfl ?_ ?_ <;> (intro hb; (try intro _ hK); have hc := hb; try simp only [go_sem] at hc; simp only [go_sem, *])) | refine Qh rfl ?_ | (refine Qc rfl rfl ?_ ?_ <;> (intro hb; have hc := hb; try simp only [go_sem] at hc)) | refine q6 rfl ?_ | ((with_reducible apply And.intro); focus omega) | (refine z8 hK ?_; clear hK; simp only [go_sem, *]) | simp only [z7, z6, go_sem, *])
  all_goals try omega
  all_goals (refine ⟨[_], [], [], ⟨rfl, trivial⟩, ?_⟩; simp only [go_sem, *])
  all_goals (refine L5 ?_; unfold Z1; simp_all)
  all_goals omega
end Go.Abs

namespace Go.Abs
open Go Go.Proofs Tryz
attribute [local irreducible] y3 Hold y7
theorem zFi : ((List.range 128).all fun n => n == 67 || n == 74 || n == 88 || n == 89 || decide (Lib.toLowerA [UInt8.ofNat n] = y5 (UInt8.ofNat n))) = true := by kernel_rfl
theorem zFj {c : UInt8} (h : c.toNat < 128) (h1 : ¬ c.toNat = 67) (h2 : ¬ c.toNat = 74) (h3 : ¬ c.toNat = 88) (h4 : ¬ c.toNat = 89) : Lib.toLowerA [c] = y5 c := by
 have := List.all_eq_true.1 zFi c.toNat (List.mem_range.2 h)
 simpa [h1, h2, h3, h4] using this
theorem zHh (c : UInt8) (h : c.toNat < 128) : zLn prog 143 [sV [c]] [] (sV (Lib.toLowerA [c])) [] :=
 zHz zF3 [.string ⟨[c].toArray⟩] (.string ⟨(Lib.toLowerA [c]).toArray⟩) rfl (fun w => Tryz.strings_ToLower_ascii ⟨[c].toArray⟩ w (by simp) (fun j b hb => by
  cases j with
  | zero => simp at hb; subst hb; exact h
  | succ j => simp at hb))
theorem zGy : y5 67 = [99, 104] := by decide
theorem zGz : y5 74 = [106, 117] := by decide
theorem zG0 : y5 88 = [115, 104] := by decide
theorem zG1 : y5 89 = [106, 97] := by decide
theorem zCn (c : UInt8) (h : c.toNat < 128) : zLn prog 122 [.raw (.int .i32 (c.toNat : Int))] [] (sV (y5 c)) [] := by
 have sl := zHh c h
 have ee := C2 (n := (c.toNat : Int)) (by omega) (by omega)
 rw [Int.toNat_natCast, UInt8.ofNat_toNat] at ee
 have hl := zFj h
 have k1 : c.toNat = 67 → y5 c = [99, 104] := fun e => by rw [UInt8.toNat_inj.1 (show c.toNat = (67 : UInt8).toNat from e), zGy]
 have k2 : c.toNat = 74 → y5 c = [106, 117] := fun e => by rw [UInt8.toNat_inj.1 (show c.toNat = (74 : UInt8).toNat from e), zGz]
 have k3 : c.toNat = 88 → y5 c = [115, 104] := fun e => by rw [UInt8.toNat_inj.1 (show c.toNat = (88 : UInt8).toNat from e), zG0]
 have k4 : c.toNat = 89 → y5 c = [106, 97] := fun e => by rw [UInt8.toNat_inj.1 (show c.toNat = (89 : UInt8).toNat from e), zG1]
 generalize c.toNat = n at *
 generalize y5 c = sb at *
 have fin : n < 128 → ¬ n = 67 → ¬ n = 74 → ¬ n = 88 → ¬ n = 89 → Lib.toLowerA [c] = sb := fun _ => hl
 clear hl
 generalize Lib.toLowerA [c] = lb at *
 generalize he : Utf8.encode (n : Int) = eb at *
 obtain ⟨ev, hev⟩ : ∃ v, v = Value.string eb := ⟨_, rfl⟩
 have sl2 : zLn prog 143 [.raw (.string eb)] [] (sV lb) [] := by rw [ee]; exact sl
 clear ee sl hev ev
 refine q7 func122 rfl (fun E hE => ?_); simp only [go_sem, ntmps122]
 repeat' (first | (refine Qr rfl ?_; try intro _ hK; try simp only [go_sem, *]) | refine Qh rfl ?_ | (refine Qc rfl rfl ?_ ?_ <;> (intro hb; have hc := hb; try simp only [go_sem] at hc)) | refine q6 rfl ?_ | (refine q9 (sl2) ?_; simp only [go_sem, *]) | ((with_reducible apply And.intro); focus omega) | (refine z8 hK ?_; clear hK; simp only [go_sem, *]) | simp only [z7, z6, go_sem, *])
 all_goals (refine ⟨[_], [], [], ⟨rfl, trivial⟩, ?_⟩; simp only [go_sem, *])
 ·rw [k1 (by omega)]
 ·rw [k2 (by omega)]
 ·rw [k4 (by omega)]
 ·rw [k3 (by omega)]
 ·rw [fin (by omega) (by omega) (by omega) (by omega) (by omega)]
end Go.Abs

namespace Go.Abs
open Go Go.Proofs Tryz
attribute [local irreducible] y3 Hold y7
theorem zCV (s : Str) {i : Nat} (h : i < s.length) : Z1 ((Utf8.decode ⟨s.toArray⟩ i).1 : Int) = x8 (s.getD i 0) ∧ (x8 (s.getD i 0) ≠ 0 → (Utf8.decode ⟨s.toArray⟩ i).2 = 1) := by
 by_cases q : (s.getD i 0).toNat < 128
 ·rw [D9 h q]
  exact ⟨G0 _, fun _ => rfl⟩
 ·have := zDz h (by omega)
  rw [zBn (by omega), zBo (by omega)]
  exact ⟨rfl, fun h => absurd rfl h⟩
def NoQ (_ : Nat) : Prop := True
theorem F8 (s : Str) : zLn prog 44 [sV s] [] (iV (x6 s)) [] := by
 have e0 : s.length = 0 → x6 s = 7 := fun h => by unfold x6; rw [if_pos h]
 have e1 : 6 < s.length → x6 s = 10 := fun h => by unfold x6; rw [if_neg (by omega), if_pos h]
 have e2 : 0 < s.length → s.length ≤ 6 → x6 s = if o0 s = true then 0 else 2 := fun h h' => by unfold x6; rw [if_neg (by omega), if_neg (by omega)]
 refine q7 func44 rfl (fun E hE => ?_); simp only [go_sem, ntmps44]
 repeat' (first | (refine Qr rfl ?_; try intro _ hK; try simp only [go_sem, *]) | (refine Qi rfl rfl rfl rfl ?_ ?_ <;> (intro hb; (try intro _ hK); have hc := hb; try simp only [go_sem] at hc; simp only [go_sem, *])) | refine Qh rfl ?_ | (refine Qc rfl rfl ?_ ?_ <;> (intro hb; have hc := hb; try simp only [go_sem] at hc)) | refine q6 rfl ?_ | ((with_reducible apply And.intro); focus omega) | (refine z8 hK ?_; clear hK; simp only [go_sem, *]) | simp only [z7, z6, go_sem, *])
 ·(refine ⟨[_], [], [], ⟨rfl, trivial⟩, ?_⟩; simp only [go_sem, *])
  rw [e0 (by omega)]
 ·(refine ⟨[_], [], [], ⟨rfl, trivial⟩, ?_⟩; simp only [go_sem, *])
  rw [e1 (by omega)]
 ·have e3 := e2 (by omega) (by omega)
  have h0 : 0 < s.length := by omega
  have h6 : s.length ≤ 6 := by omega
  clear e0 e1 e2
  refine b6 rfl (s.length) (fun i (k : Int) => FormTo s i k) 30 (fun i k => [(14, .ptr 0 0), (3, iV k)]) (fun i k => [.siter ⟨s.toArray⟩ i]) [some 0] [] (0) (by exact .inl ⟨rfl, rfl⟩) ?_; intro i k hi hP
  by_cases hi2 : i < s.length
  ·obtain ⟨r1, r2⟩ := zCV s hi2
   have hbad := hP.bad hi2
   have hnext := hP.next
   have sk := E1 ((Utf8.decode ⟨s.toArray⟩ i).1 : Int)
   rw [r1] at sk
   generalize hde : Utf8.decode ⟨s.toArray⟩ i = d at *
   obtain ⟨d1, d2⟩ := d
   simp only at r2 sk
   clear r1 hP
   generalize x8 (s.getD i 0) = kb at *
   repeat' (first | (refine Qr rfl ?_; try intro _ hK; try simp only [go_sem, *]) | (refine Qi rfl rfl rfl rfl ?_ ?_ <;> (intro hb; (try intro _ hK); have hc := hb; try simp only [go_sem] at hc; simp only [go_sem, *])) | refine Qh rfl ?_ | (refine Qc rfl rfl ?_ ?_ <;> (intro hb; have hc := hb; try simp only [go_sem] at hc)) | refine q6 rfl ?_ | (refine q9 (sk) ?_; simp only [go_sem, *]) | ((with_reducible apply And.intro); focus omega) | (refine z8 hK ?_; clear hK; simp only [go_sem, *]) | simp only [z7, z6, go_sem, *])
   all_goals first | (exact o3 (i' := i + 1) [some 0] [] (kb) (by exact hnext (by assumption) (by first | (left; assumption) | (right; omega)))) | (focus ((refine ⟨[_], [], [], ⟨rfl, trivial⟩, ?_⟩; simp only [go_sem, *]); done))
  ·have hf := hP.end (by omega) h0
   rw [if_pos hf] at e3
   clear hP
   repeat' (first | (refine Qr rfl ?_; try intro _ hK; try simp only [go_sem, *]) | (refine Qi rfl rfl rfl rfl ?_ ?_ <;> (intro hb; (try intro _ hK); have hc := hb; try simp only [go_sem] at hc; simp only [go_sem, *])) | refine Qh rfl ?_ | (refine Qc rfl rfl ?_ ?_ <;> (intro hb; have hc := hb; try simp only [go_sem] at hc)) | refine q6 rfl ?_ | ((with_reducible apply And.intro); focus omega) | (refine z8 hK ?_; clear hK; simp only [go_sem, *]) | simp only [z7, z6, go_sem, *])
   (refine ⟨[_], [], [], ⟨rfl, trivial⟩, ?_⟩; simp only [go_sem, *])
theorem zFQ {s : Str} {i : Nat} (h : i < s.length) : zLm (s.take (i + 1)) = zLm (s.take i) ++ y5 (s.getD i 0) := by
 rw [List.take_succ_eq_append_getElem h, zLm, List.flatMap_append]
 simp [zLm, List.getD, h]
@[go_sem] theorem zKD : zLm [] = [] := rfl
theorem zFP (s : Str) (i : Nat) : (zLm (s.take i)).length ≤ 2 * s.length := by
 have h1 := (T2 (s.take i)).2
 simp at h1
 omega
theorem zFq {s : Str} (v : o0 s = true) {i : Nat} (h : i < s.length) : (s.getD i 0).toNat < 128 := by
 apply zFT
 have hm : s.getD i 0 ∈ s := by simp [List.getD, h]
 unfold o0 at v
 rw [Bool.or_eq_true, List.all_eq_true, List.all_eq_true] at v
 rcases v with v | v
 ·rw [latin_kind.1 (v _ hm)]; decide
 ·rw [other_kind.1 (v _ hm)]; decide
theorem V8 (s : Str) (v : o0 s = true) (hl : s.length ≤ 1000) : zLn prog 85 [sV s] [] (sV (zLm s)) [] := by
 refine q7 func85 rfl (fun E hE => ?_); simp only [go_sem, ntmps85]
 repeat' (first | (refine Qr rfl ?_; try intro _ hK; try simp only [go_sem, *]) | refine Qh rfl ?_ | (refine Qc rfl rfl ?_ ?_ <;> (intro hb; have hc := hb; try simp only [go_sem] at hc)) | refine q6 rfl ?_ | ((with_reducible apply And.intro); focus omega) | (refine z8 hK ?_; clear hK; simp only [go_sem, *]) | simp only [z7, z6, go_sem, *])
 refine p8 rfl (s.length) (fun i => NoQ i) 16 (fun i => [(7, .ptr 0 0), (3, sV (zLm (s.take i)))]) (fun i => [.siter ⟨s.toArray⟩ i]) [some 0] [] (by trivial) ?_; intro i hi hP
 have hk2 := zFP s i
 by_cases hi2 : i < s.length
 ·have ha := zFq v hi2
  have hd := D9 hi2 ha
  have ss := zCn _ ha
  have hs2 := (S1 (s.getD i 0)).2
  have hkt := zFQ hi2
  generalize y5 (s.getD i 0) = sb at *
  generalize zLm (s.take i) = kt at *
  repeat' (first | (refine Qr rfl ?_; try intro _ hK; try simp only [go_sem, *]) | refine Qh rfl ?_ | (refine Qc rfl rfl ?_ ?_ <;> (intro hb; have hc := hb; try simp only [go_sem] at hc)) | refine q6 rfl ?_ | (refine q9 (ss) ?_; simp only [go_sem, *]) | ((with_reducible apply And.intro); focus omega) | (refine z8 hK ?_; clear hK; simp only [go_sem, *]) | simp only [z7, z6, go_sem, *])
  exact p9 (i' := i + 1) [some 0] [] (by trivial)
 ·have e : s.take i = s := List.take_of_length_le (by omega)
  rw [e]
  clear hk2
  repeat' (first | (refine Qr rfl ?_; try intro _ hK; try simp only [go_sem, *]) | refine Qh rfl ?_ | (refine Qc rfl rfl ?_ ?_ <;> (intro hb; have hc := hb; try simp only [go_sem] at hc)) | refine q6 rfl ?_ | ((with_reducible apply And.intro); focus omega) | (refine z8 hK ?_; clear hK; simp only [go_sem, *]) | simp only [z7, z6, go_sem, *])
  (refine ⟨[_], [], [], ⟨rfl, trivial⟩, ?_⟩; simp only [go_sem, *])
theorem zCb (s : Str) : zLn prog 37 [sV s] [] (.tup [sV (if x6 s = 0 then zLm s else []), iV (x6 s)]) [] := by
 have sc := F8 s
 by_cases q : x6 s = 0
 ·have v := checkN_zero.1 q
  have so := V8 s v.form (by have := v.len; omega)
  rw [if_pos q]
  rw [q] at sc ⊢
  refine q7 func37 rfl (fun E hE => ?_); simp only [go_sem, ntmps37]
  repeat' (first | (refine Qr rfl ?_; try intro _ hK; try simp only [go_sem, *]) | refine Qh rfl ?_ | (refine Qc rfl rfl ?_ ?_ <;> (intro hb; have hc := hb; try simp only [go_sem] at hc)) | refine q6 rfl ?_ | ((first | refine q9 (sc) ?_ | refine q9 (so) ?_); simp only [go_sem, *]) | ((with_reducible apply And.intro); focus omega) | (refine z8 hK ?_; clear hK; simp only [go_sem, *]) | simp only [z7, z6, go_sem, *])
  all_goals try contradiction
  (refine ⟨[_, _], [], [], ⟨rfl, rfl, trivial⟩, ?_⟩; simp only [go_sem, *])
 ·rw [if_neg q]
  generalize x6 s = e at *
  refine q7 func37 rfl (fun E hE => ?_); simp only [go_sem, ntmps37]
  repeat' (first | (refine Qr rfl ?_; try intro _ hK; try simp only [go_sem, *]) | refine Qh rfl ?_ | (refine Qc rfl rfl ?_ ?_ <;> (intro hb; have hc := hb; try simp only [go_sem] at hc)) | refine q6 rfl ?_ | (refine q9 (sc) ?_; simp only [go_sem, *]) | ((with_reducible apply And.intro); focus omega) | (refine z8 hK ?_; clear hK; simp only [go_sem, *]) | simp only [z7, z6, go_sem, *])
  all_goals try contradiction
  (refine ⟨[_, _], [], [], ⟨rfl, rfl, trivial⟩, ?_⟩; simp only [go_sem, *])
end Go.Abs

namespace Go.Abs
open Go Go.Proofs Tryz
attribute [local irreducible] y3 Hold y7
abbrev fnV (f : FuncId) : AV := .raw (.func (.func f) #[] #[])
abbrev y4 (l : List Str) : AV := .list (l.map sV)
theorem zFs {l : List Str} {i : Nat} (h : i < l.length) : t6 (l.drop i) = if x6 (l.getD i default) = 0 then t6 (l.drop (i + 1)) else x6 (l.getD i default) := by
 rw [l8 h, t6]
theorem zAX (l : List Str) (hl : l.length ≤ 4294967296) : zLn prog 87 [y4 l] [] (iV (t6 l)) [] := by
 refine q7 func87 rfl (fun E hE => ?_); simp only [go_sem, ntmps87]
 repeat' (first | (refine Qr rfl ?_; try intro _ hK; try simp only [go_sem, *]) | refine Qh rfl ?_ | (refine Qc rfl rfl ?_ ?_ <;> (intro hb; have hc := hb; try simp only [go_sem] at hc)) | refine q6 rfl ?_ | ((with_reducible apply And.intro); focus omega) | (refine z8 hK ?_; clear hK; simp only [go_sem, *]) | simp only [z7, z6, go_sem, *])
 refine p8 rfl (l.length) (fun i => t6 (l.drop i) = t6 l) 18 (fun i => [(8, iV i), (7, iV l.length), (6, y4 l)]) (fun i => []) [] [] (by simp) ?_; intro i hi hP
 by_cases hi2 : i < l.length
 ·have hs := zFs hi2
  have sc := F8 (l.getD i default)
  by_cases q : x6 (l.getD i default) = 0
  ·rw [if_pos q] at hs
   rw [q] at sc
   repeat' (first | (refine Qr rfl ?_; try intro _ hK; try simp only [go_sem, *]) | refine Qh rfl ?_ | (refine Qc rfl rfl ?_ ?_ <;> (intro hb; have hc := hb; try simp only [go_sem] at hc)) | refine q6 rfl ?_ | (refine q9 (sc) ?_; simp only [go_sem, *]) | ((with_reducible apply And.intro); focus omega) | (refine z8 hK ?_; clear hK; simp only [go_sem, *]) | simp only [z7, z6, go_sem, *])
   all_goals try contradiction
   exact p9 (i' := i + 1) [] [] (by rw [← hP, hs])
  ·rw [if_neg q] at hs
   rw [hs] at hP
   generalize x6 (l.getD i default) = e at *
   subst hP
   repeat' (first | (refine Qr rfl ?_; try intro _ hK; try simp only [go_sem, *]) | refine Qh rfl ?_ | (refine Qc rfl rfl ?_ ?_ <;> (intro hb; have hc := hb; try simp only [go_sem] at hc)) | refine q6 rfl ?_ | (refine q9 (sc) ?_; simp only [go_sem, *]) | ((with_reducible apply And.intro); focus omega) | (refine z8 hK ?_; clear hK; simp only [go_sem, *]) | simp only [z7, z6, go_sem, *])
   all_goals try contradiction
   (refine ⟨[_], [], [], ⟨rfl, trivial⟩, ?_⟩; simp only [go_sem, *])
 ·have e : t6 l = 0 := by rw [← hP, c9 (by omega)]; rfl
  rw [e]
  repeat' (first | (refine Qr rfl ?_; try intro _ hK; try simp only [go_sem, *]) | refine Qh rfl ?_ | (refine Qc rfl rfl ?_ ?_ <;> (intro hb; have hc := hb; try simp only [go_sem] at hc)) | refine q6 rfl ?_ | ((with_reducible apply And.intro); focus omega) | (refine z8 hK ?_; clear hK; simp only [go_sem, *]) | simp only [z7, z6, go_sem, *])
  (refine ⟨[_], [], [], ⟨rfl, trivial⟩, ?_⟩; simp only [go_sem, *])
theorem zAZ (l : List Str) (hl : l.length ≤ 4294967296) : zLn prog 95 [y4 l] [] (iV (r9 l)) [] := by
 have sc := zAX l hl
 have e0 : 6 < l.length → r9 l = 6 := fun h => by unfold r9; rw [if_pos h]
 have e1 : l.length ≤ 6 → r9 l = t6 l := fun h => by unfold r9; rw [if_neg (by omega)]
 generalize t6 l = e at *
 generalize r9 l = r at *
 refine q7 func95 rfl (fun E hE => ?_); simp only [go_sem, ntmps95]
 repeat' (first | (refine Qr rfl ?_; try intro _ hK; try simp only [go_sem, *]) | refine Qh rfl ?_ | (refine Qc rfl rfl ?_ ?_ <;> (intro hb; have hc := hb; try simp only [go_sem] at hc)) | refine q6 rfl ?_ | (refine q9 (sc) ?_; simp only [go_sem, *]) | ((with_reducible apply And.intro); focus omega) | (refine z8 hK ?_; clear hK; simp only [go_sem, *]) | simp only [z7, z6, go_sem, *])
 ·(refine ⟨[_], [], [], ⟨rfl, trivial⟩, ?_⟩; simp only [go_sem, *])
  rw [e0 (by omega)]
 ·(refine ⟨[_], [], [], ⟨rfl, trivial⟩, ?_⟩; simp only [go_sem, *])
  rw [e1 (by omega)]
theorem zCm (s : Str) (h : 0 < s.length) : zLn prog 129 [sV s] [] (iV (o4 s)) [] := by
 have sk := E1 ((s.getD 0 0).toNat : Int)
 rw [G0] at sk
 have hw : IntKind.i32.wrap ((s.getD 0 0).toNat : Int) = ((s.getD 0 0).toNat : Int) := by
  have := (s.getD 0 0).toNat_lt
  rw [IntKind.wrap_i32]; omega
 have e : o4 s = x8 (s.getD 0 0) := rfl
 rw [e]
 generalize x8 (s.getD 0 0) = k at *
 refine q7 func129 rfl (fun E hE => ?_); simp only [go_sem, ntmps129]
 repeat' (first | (refine Qr rfl ?_; try intro _ hK; try simp only [go_sem, *]) | refine Qh rfl ?_ | (refine Qc rfl rfl ?_ ?_ <;> (intro hb; have hc := hb; try simp only [go_sem] at hc)) | refine q6 rfl ?_ | (refine q9 (sk) ?_; simp only [go_sem, *]) | ((with_reducible apply And.intro); focus omega) | (refine z8 hK ?_; clear hK; simp only [go_sem, *]) | simp only [z7, z6, go_sem, *])
 (refine ⟨[_], [], [], ⟨rfl, trivial⟩, ?_⟩; simp only [go_sem, *])
theorem zCf (a b : Str) (va : ValidN a) (vb : ValidN b) : zLn prog 96 [sV a, sV b] [] (iV (w3 a b)) [] := by
 have sa := V8 a va.form (by have := va.len; omega)
 have sb := V8 b vb.form (by have := vb.len; omega)
 have ta := zCm a va.ne
 have tb := zCm b vb.ne
 have e : w3 a b = orI (zLq (zLm a) (zLm b)) (zLz (o4 a) (o4 b)) := rfl
 have s1 := zCY (zLm a) (zLm b)
 have s2 := zG5 (o4 a) (o4 b)
 have so := zCe [zLq (zLm a) (zLm b), zLz (o4 a) (o4 b)] (by simp)
 rw [zCE] at so
 rw [e]
 generalize orI (zLq (zLm a) (zLm b)) (zLz (o4 a) (o4 b)) = r at *
 generalize zLq (zLm a) (zLm b) = r1 at *
 generalize zLz (o4 a) (o4 b) = r2 at *
 generalize zLm a = ka at *
 generalize zLm b = kb at *
 generalize o4 a = ja at *
 generalize o4 b = jb at *
 clear e va vb
 refine q7 func96 rfl (fun E hE => ?_); simp only [go_sem, ntmps96]
 repeat' (first | (refine Qr rfl ?_; try intro _ hK; try simp only [go_sem, *]) | refine Qh rfl ?_ | (refine Qc rfl rfl ?_ ?_ <;> (intro hb; have hc := hb; try simp only [go_sem] at hc)) | refine q6 rfl ?_ | ((first | refine q9 (s1) ?_ | refine q9 (s2) ?_); simp only [go_sem, *]) | (refine y8 (sa) ?_ ?_; (focus (simp only [go_sem, *]; done)); simp only [go_sem, *]) | (refine y8 (sb) ?_ ?_; (focus (simp only [go_sem, *]; done)); simp only [go_sem, *]) | (refine y8 (ta) ?_ ?_; (focus (simp only [go_sem, *]; done)); simp only [go_sem, *]) | (refine y8 (tb) ?_ ?_; (focus (simp only [go_sem, *]; done)); simp only [go_sem, *]) | ((with_reducible apply And.intro); focus omega) | (refine z8 hK ?_; clear hK; simp only [go_sem, *]) | simp only [z7, z6, go_sem, *])
 (refine X9 [0] (so) (by simp only [go_sem, *]) (.raw _) ?_; simp only [go_sem, *])
 repeat' (first | (refine Qr rfl ?_; try intro _ hK; try simp only [go_sem, *]) | refine Qh rfl ?_ | (refine Qc rfl rfl ?_ ?_ <;> (intro hb; have hc := hb; try simp only [go_sem] at hc)) | refine q6 rfl ?_ | ((with_reducible apply And.intro); focus omega) | (refine z8 hK ?_; clear hK; simp only [go_sem, *]) | simp only [z7, z6, go_sem, *])
 (refine ⟨[_], [], [], ⟨rfl, trivial⟩, ?_⟩; simp only [go_sem, *])
theorem zAH (a b : Str) : t6 [a, b] = if x6 a = 0 then x6 b else x6 a := by
 unfold t6
 split
 ·unfold t6
  split
  ·rename_i h; rw [h]; rfl
  ·rfl
 ·rfl
def R3 (a b : Str) : Int := t6 [a, b]
theorem zLW (a b : Str) : zLn prog 48 [sV a, sV b] [] (.tup [iV (if R3 a b = 0 then w3 a b else 0), iV (R3 a b)]) [] := by
  have sc : zLn prog 87 [.list [sV a, sV b]] [] (iV (R3 a b)) [] := zAX [a, b] (by simp)
  by_cases q : R3 a b = 0
  · have hv : ValidN a ∧ ValidN b := by
      unfold R3 at q
      rw [zAH] at q
      by_cases h : x6 a = 0
      · rw [if_pos h] at q; exact ⟨checkN_zero.1 h, checkN_zero.1 q⟩
      · rw [if_neg h] at q; exact absurd q h
    have s1 := zCf a b hv.1 hv.2
    rw [if_pos q]
    rw [q] at sc ⊢
    clear hv q
    generalize w3 a b = r at *
    refine q7 func48 rfl (fun E hE => ?_); simp only [go_sem, ntmps48]
    repeat' (first | (refine Qr rfl ?_; try intro _ hK; try simp only [go_sem, *]) | refine Qh rfl ?_ | (refine Qc rfl rfl ?_ ?_ <;> (intro hb; have hc := hb; try simp only [go_sem] at hc)) | refine q6 rfl ?_ | ((with_reducible apply And.intro); focus omega) | (refine z8 hK ?_; clear hK; simp only [go_sem, *]) | simp only [z7, z6, go_sem, *])
    (refine X9 [0] (sc) (by simp only [go_sem, *]) (.raw _) ?_; simp only [go_sem, *])
    repeat' (first | (refine Qr rfl ?_; try intro _ hK; try simp only [go_sem, *]) | refine Qh rfl ?_ | (refine Qc rfl rfl ?_ ?_ <;> (intro hb; have hc := hb; try simp only [go_sem] at hc)) | refine q6 rfl ?_ | (refine q9 (s1) ?_; simp only [go_sem, *]) | ((with_reducible apply And.intro); focus omega) | (refine z8 hK ?_; clear hK; simp only [go_sem, *]) | simp only [z7, z6, go_sem, *])
    all_goals try contradiction
    (refine ⟨[_, _], [], [], ⟨rfl, rfl, trivial⟩, ?_⟩; simp only [go_sem, *])
  · rw [if_neg q]
    generalize R3 a b = e at *
    refine q7 func48 rfl (fun E hE => ?_); simp only [go_sem, ntmps48]
    repeat' (first | (refine Qr rfl ?_; try intro _ hK; try simp only [go_sem, *]) | refine Qh rfl ?_ | (refine Qc rfl rfl ?_ ?_ <;> (intro hb; have hc := hb; try simp only [go_sem] at hc)) | refine q6 rfl ?_ | ((with_reducible apply And.intro); focus omega) | (refine z8 hK ?_; clear hK; simp only [go_sem, *]) | simp only [z7, z6, go_sem, *])
    (refine X9 [0] (sc) (by simp only [go_sem, *]) (.raw _) ?_; simp only [go_sem, *])
    repeat' (first | (refine Qr rfl ?_; try intro _ hK; try simp only [go_sem, *]) | refine Qh rfl ?_ | (refine Qc rfl rfl ?_ ?_ <;> (intro hb; have hc := hb; try simp only [go_sem] at hc)) | refine q6 rfl ?_ | ((with_reducible apply And.intro); focus omega) | (refine z8 hK ?_; clear hK; simp only [go_sem, *]) | simp only [z7, z6, go_sem, *])
    all_goals try contradiction
    (refine ⟨[_, _], [], [], ⟨rfl, rfl, trivial⟩, ?_⟩; simp only [go_sem, *])
def zId (l : List Str) (i : Nat) : Prop := ∀ j, i ≤ j → j + 1 < l.length → ¬ w3 (l.getD (j + 1) []) (l.getD j []) < 0
end Go.Abs

namespace Go.Abs
open Go Go.Proofs Tryz
attribute [local irreducible] y3 Hold y7
theorem zB8 : ∀ {l : List Str}, t6 l = 0 → ∀ s, s ∈ l → ValidN s
 | [], _, s, h => by cases h
 | a :: r, e, s, h => by
  rw [t6] at e
  split at e
  ·rename_i ha
   rcases List.mem_cons.1 h with rfl | h
   ·exact checkN_zero.1 ha
   ·exact zB8 e s h
  ·rename_i ha; exact absurd e ha
theorem A4 {l : List Str} (h : r9 l = 0) : l.length ≤ 6 := by
 unfold r9 at h
 split at h
 ·cases h
 ·omega
theorem A5 {l : List Str} (h : r9 l = 0) : ∀ s, s ∈ l → ValidN s := by
 unfold r9 at h
 split at h
 ·cases h
 ·exact zB8 h
end Go.Abs

namespace Go.Abs
open Go Go.Proofs Tryz
attribute [local irreducible] y3 Hold y7
abbrev nV (n : Nat) : AV := iV (n : Int)
theorem zGB (cf : Nat → Nat → Int) (xs : List Nat) : xs = o6 cf (xs.take 1) ++ xs.drop 1 := by
 cases xs with
 | nil => rfl
 | cons x r => simp [o6, zL3, zMM]
def zMo (cf : Nat → Nat → Int) (xs cur : List Nat) (i : Nat) : Prop := cur = o6 cf (xs.take (i + 1)) ++ xs.drop (i + 1)
theorem zHs (l : List Str) (hv : ∀ s, s ∈ l → ValidN s) (a b : Nat) (ha : a < l.length) (hb' : b < l.length) : zLn prog 107 [nV a, nV b, .ptr 0 0] [.box [y4 l]] (iV (w3 (l.getD a []) (l.getD b []))) [.box [y4 l]] := by
 have sc := zCf _ _ (hv _ (l4 ha)) (hv _ (l4 hb'))
 have e : w3 (l.getD a []) (l.getD b []) = w3 (l.getD a default) (l.getD b default) := rfl
 rw [e]
 clear e
 generalize w3 (l.getD a default) (l.getD b default) = r at *
 refine q7 func107 rfl (fun E hE => ?_); simp only [go_sem, ntmps107]
 repeat' (first | (refine Qr rfl ?_; try intro _ hK; try simp only [go_sem, *]) | refine Qh rfl ?_ | refine Qd rfl (by kernel_rfl) ?_ | (refine Qc rfl rfl ?_ ?_ <;> (intro hb; have hc := hb; try simp only [go_sem] at hc)) | refine q6 rfl ?_ | (refine Qb ?_ ?_; focus kernel_rfl) | (refine q9 (sc) ?_; simp only [go_sem, *]) | ((with_reducible apply And.intro); focus omega) | (refine z8 hK ?_; clear hK; simp only [go_sem, *]) | simp only [z7, z6, go_sem, *])
 refine ⟨[_], [some 0], [], ⟨rfl, trivial⟩, ?_⟩
 simp only [go_sem, *]
theorem zHc (l : List Str) (hv : ∀ s, s ∈ l → ValidN s) (xs : List Nat) (h1 : xs.length ≤ 20) (hx : ∀ x, x ∈ xs → x < l.length) :
  zLn prog 154 [.own 0 1 0 xs.length, iV 0, iV xs.length, .fn 107 [.ptr 1 0]] [.row 1 (xs.map nV), .box [y4 l]] (.tup []) [.row 1 ((o6 (cfI l) xs).map nV), .box [y4 l]] := by
 have hca : t8 prog 107 = true := by kernel_rfl
 have hf : ∀ a b : Nat, a < l.length → b < l.length → zLn prog 107 [nV a, nV b, .ptr 0 0] [.box [y4 l]] (iV (cfI l a b)) [.box [y4 l]] := fun a b h1 h2 => zHs l hv a b h1 h2
 clear hv
 refine q7 func154 rfl (fun E hE => ?_); simp only [go_sem, ntmps154]
 have hw0 : IntKind.i64.wrap 1 = (1 : Int) := wrap_i64 (by omega) (by omega)
 repeat' (first | (refine Qr rfl ?_; try intro _ hK; try simp only [go_sem, *]) | (refine Qi rfl rfl rfl rfl ?_ ?_ <;> (intro hb; (try intro _ hK); have hc := hb; try simp only [go_sem] at hc; simp only [go_sem, *])) | refine Qh rfl ?_ | refine Qd rfl (by kernel_rfl) ?_ | (refine Qc rfl rfl ?_ ?_ <;> (intro hb; have hc := hb; try simp only [go_sem] at hc)) | refine q6 rfl ?_ | (refine Qb ?_ ?_; focus kernel_rfl) | ((with_reducible apply And.intro); focus omega) | (refine z8 hK ?_; clear hK; simp only [go_sem, *]) | simp only [z7, z6, go_sem, *])
 refine b6 rfl (xs.length) (fun i (cur : List Nat) => zMo (cfI l) xs cur i) 53 (fun i cur => [(8, iV ((i : Int) + 1)), (0, .own 0 1 0 xs.length), (1, iV 0), (2, iV xs.length), (3, .fn 107 [.ptr 1 0])]) (fun i cur => [.row 1 (cur.map nV), .box [y4 l]]) [some 0, some 1] [] (xs) (by exact zGB (cfI l) xs) ?_; intro i cur hi hP
 have hw : i < xs.length → IntKind.i64.wrap ((i : Int) + 1 + 1) = (((i + 1 : Nat) : Int) + 1) := fun h => by rw [wrap_i64 (by omega) (by omega)]; omega
 have hcm : ((i : Int) + 1 < (xs.length : Int)) = (i + 1 < xs.length) := by simp only [eq_iff_iff]; omega
 repeat' (first | (refine Qr rfl ?_; try intro _ hK; try simp only [go_sem, *]) | (refine Qi rfl rfl rfl rfl ?_ ?_ <;> (intro hb; (try intro _ hK); have hc := hb; try simp only [go_sem] at hc; simp only [go_sem, *])) | refine Qh rfl ?_ | refine Qd rfl (by kernel_rfl) ?_ | (refine Qc rfl rfl ?_ ?_ <;> (intro hb; have hc := hb; try simp only [go_sem] at hc)) | refine q6 rfl ?_ | (refine Qb ?_ ?_; focus kernel_rfl) | ((with_reducible apply And.intro); focus omega) | (refine z8 hK ?_; clear hK; simp only [go_sem, *]) | simp only [z7, z6, go_sem, *])
 ·have hlt : i + 1 < xs.length := by assumption
  have hlt' : i < xs.length := by omega
  obtain ⟨S, hS⟩ : ∃ S, S = o6 (cfI l) (xs.take (i + 1)) := ⟨_, rfl⟩
  have hSl : S.length = i + 1 := by rw [hS, zBj]; simp; try omega
  obtain ⟨x, hxx⟩ : ∃ x, x = xs.getD (i + 1) default := ⟨_, rfl⟩
  obtain ⟨R, hR⟩ : ∃ R, R = xs.drop (i + 1 + 1) := ⟨_, rfl⟩
  have hxl : x < l.length := by rw [hxx]; exact hx _ (l4 hlt)
  have hSm : ∀ k, k < S.length → S.getD k default < l.length := fun k hk => by
   have h2 : S.getD k default ∈ S := l4 hk
   rw [hS] at h2
   have h3 := (A0 (cfI l) (xs.take (i + 1))).mem_iff.1 h2
   rw [← hS] at h3
   exact hx _ (List.mem_of_mem_take h3)
  have hcur : cur = S ++ x :: R := by
   unfold zMo at hP
   rw [hP, hS, hxx, hR, l8 hlt]
  have hfin : zL3 (cfI l) S x ++ R = o6 (cfI l) (xs.take (i + 1 + 1)) ++ xs.drop (i + 1 + 1) := by
   rw [hS, hxx, hR, zH6 hlt, zFN]
  have hst : InsP (cfI l) S x R cur 0 := by rw [hcur]; exact InsP.start (cfI l) S x R
  have hRl : R.length = xs.length - (i + 2) := by rw [hR]; simp; try omega
  clear hS hxx hR hcur hP
  refine b6 rfl (i + 1) (fun d (cur : List Nat) => InsP (cfI l) S x R cur d) 53 (fun d cur => [(9, iV (((i + 1) - d : Nat) : Int)), (8, iV ((i : Int) + 1)), (0, .own 0 1 0 xs.length), (1, iV 0), (2, iV xs.length), (3, .fn 107 [.ptr 1 0])]) (fun d cur => [.row 1 (cur.map nV), .box [y4 l]]) [some 0, some 1] [] (cur) (by exact hst) ?_; intro d cur hd hQ
  have hcl : cur.length = xs.length := by rw [hQ.1, zDs]; omega
  have gx : cur.getD (i + 1 - d) default = x := by rw [hQ.1, ← hSl]; exact zDu S x R (by omega)
  have gy : d < i + 1 → cur.getD (i + 1 - d - 1) default = S.getD (i + 1 - d - 1) default := fun h => by rw [hQ.1, ← hSl]; exact zDv S x R (by omega)
  have hwk : 0 < i + 1 - d → IntKind.i64.wrap (((i + 1 - d : Nat) : Int) - 1) = ((i + 1 - d - 1 : Nat) : Int) := fun h => by rw [wrap_i64 (by omega) (by omega)]; omega
  have hnx : i + 1 - (d + 1) = i + 1 - d - 1 := by omega
  have hkl : i + 1 - d < xs.length := by omega
  have hkl1 : i + 1 - d - 1 < xs.length := by omega
  have hd1 : 0 < i + 1 - d → d < i + 1 := fun h => by omega
  by_cases hd2 : d < i + 1
  ·have sf := hf x (S.getD (i + 1 - d - 1) default) hxl (hSm _ (by omega))
   have gy2 := gy hd2
   clear hf gy
   repeat' (first | (refine Qr rfl ?_; try intro _ hK; try simp only [go_sem, *]) | (refine Qi rfl rfl rfl rfl ?_ ?_ <;> (intro hb; (try intro _ hK); have hc := hb; try simp only [go_sem] at hc; simp only [go_sem, *])) | refine Qh rfl ?_ | refine Qd rfl (by kernel_rfl) ?_ | (refine Qc rfl rfl ?_ ?_ <;> (intro hb; have hc := hb; try simp only [go_sem] at hc)) | refine q6 rfl ?_ | (refine Qb ?_ ?_; focus kernel_rfl) | (refine w5 [1] (sf) ?_; simp only [go_sem, *]) | ((with_reducible apply And.intro); focus omega) | (refine z8 hK ?_; clear hK; simp only [go_sem, *]) | simp only [z7, z6, go_sem, *])
   all_goals try (exfalso; omega)
   ·exact o3 (i' := d + 1) [some 0, some 1] [] ((cur.set (i + 1 - d) (S.getD (i + 1 - d - 1) default)).set (i + 1 - d - 1) x) (by have := InsP.next (cfI l) hQ (by omega) (by rw [hSl]; assumption); rwa [hSl] at this)
   ·have hs := InsP.stop (cfI l) hQ (by omega) (fun _ => by rw [hSl]; omega)
    exact o3 (i' := i + 1) [some 0, some 1] [] (cur) (by rw [hs]; exact hfin)
  ·have hs := InsP.stop (cfI l) hQ (by omega) (fun h => by omega)
   clear hf gy
   repeat' (first | (refine Qr rfl ?_; try intro _ hK; try simp only [go_sem, *]) | (refine Qi rfl rfl rfl rfl ?_ ?_ <;> (intro hb; (try intro _ hK); have hc := hb; try simp only [go_sem] at hc; simp only [go_sem, *])) | refine Qh rfl ?_ | refine Qd rfl (by kernel_rfl) ?_ | (refine Qc rfl rfl ?_ ?_ <;> (intro hb; have hc := hb; try simp only [go_sem] at hc)) | refine q6 rfl ?_ | (refine Qb ?_ ?_; focus kernel_rfl) | ((with_reducible apply And.intro); focus omega) | (refine z8 hK ?_; clear hK; simp only [go_sem, *]) | simp only [z7, z6, go_sem, *])
   all_goals try (exfalso; omega)
   exact o3 (i' := i + 1) [some 0, some 1] [] (cur) (by rw [hs]; exact hfin)
 ·refine ⟨[], [some 0, some 1], [], trivial, ?_⟩
  have e1 : xs.take (i + 1) = xs := List.take_of_length_le (by omega)
  have e2 : xs.drop (i + 1) = [] := c9 (by omega)
  unfold zMo at hP
  rw [e1, e2, List.append_nil] at hP
  rw [hP]
  simp only [go_sem, j8, *]
end Go.Abs

namespace Go.Abs
open Go Go.Proofs Tryz
attribute [local irreducible] y3 Hold y7
attribute [go_sem] List.length_range
theorem zHu (l : List Str) (hv : ∀ s, s ∈ l → ValidN s) (xs : List Nat) (h1 : xs.length ≤ 6) (hx : ∀ x, x ∈ xs → x < l.length) :
  zLn prog 133 [.own 0 1 0 xs.length, iV xs.length, .fn 107 [.ptr 1 0]] [.row 1 (xs.map nV), .box [y4 l]] (.tup []) [.row 1 ((o6 (cfI l) xs).map nV), .box [y4 l]] := by
 have si := zHc l hv xs (by omega) hx
 have hli : ((o6 (cfI l) xs).map nV).length = xs.length := by simp [zBj]
 generalize o6 (cfI l) xs = ys at *
 clear hv hx
 have g1 : ¬ ((20 : Int) ≤ (xs.length : Int)) := by omega
 have g2 : ¬ ((20 : Int) < (xs.length : Int)) := by omega
 have g3 : IntKind.i64.wrap ((20 : Int) + 20) = 40 := by decide
 refine q7 func133 rfl (fun E hE => ?_); simp only [go_sem, ntmps133]
 repeat' (first | (refine Qr rfl ?_; try intro _ hK; try simp only [go_sem, *]) | refine Qh rfl ?_ | (refine Qc rfl rfl ?_ ?_ <;> (intro hb; have hc := hb; try simp only [go_sem] at hc)) | refine q6 rfl ?_ | ((with_reducible apply And.intro); focus omega) | (refine z8 hK ?_; clear hK; simp only [go_sem, *]) | simp only [z7, z6, go_sem, *])
 refine p8 rfl (1) (fun i => NoQ i) 63 (fun i => [(8, iV 20), (7, iV 0), (6, iV 20), (0, .own 0 1 0 xs.length), (1, iV xs.length), (2, .fn 107 [.ptr 1 0])]) (fun i => [.row 1 (xs.map nV), .box [y4 l]]) [some 0, some 1] [] (by trivial) ?_; intro i hi hP
 repeat' (first | (refine Qr rfl ?_; try intro _ hK; try simp only [go_sem, *]) | refine Qh rfl ?_ | (refine Qc rfl rfl ?_ ?_ <;> (intro hb; have hc := hb; try simp only [go_sem] at hc)) | refine q6 rfl ?_ | (refine w5 [0, 1] (si) ?_; simp only [go_sem, *]) | ((with_reducible apply And.intro); focus omega) | (refine z8 hK ?_; clear hK; simp only [go_sem, *]) | simp only [z7, z6, go_sem, *])
 all_goals try (exfalso; omega)
 refine p8 rfl (1) (fun i => NoQ i) 63 (fun i => [(6, iV 20), (0, .own 0 1 0 xs.length), (1, iV xs.length), (2, .fn 107 [.ptr 1 0])]) (fun i => [.row 1 (ys.map nV), .box [y4 l]]) [some 0, some 1] [] (by trivial) ?_; intro i hi hP
 repeat' (first | (refine Qr rfl ?_; try intro _ hK; try simp only [go_sem, *]) | refine Qh rfl ?_ | (refine Qc rfl rfl ?_ ?_ <;> (intro hb; have hc := hb; try simp only [go_sem] at hc)) | refine q6 rfl ?_ | ((with_reducible apply And.intro); focus omega) | (refine z8 hK ?_; clear hK; simp only [go_sem, *]) | simp only [z7, z6, go_sem, *])
 all_goals try (exfalso; omega)
 refine ⟨[], [some 0, some 1], [], trivial, ?_⟩
 simp only [go_sem, j8, *]
theorem zHK (l : List Str) (hv : ∀ s, s ∈ l → ValidN s) (xs : List Nat) (h1 : xs.length ≤ 6) (hx : ∀ x, x ∈ xs → x < l.length) :
  zLn prog 106 [.own 0 1 0 xs.length, .fn 107 [.ptr 1 0]] [.row 1 (xs.map nV), .box [y4 l]] (.tup []) [.row 1 ((o6 (cfI l) xs).map nV), .box [y4 l]] := by
 have si := zHu l hv xs h1 hx
 generalize o6 (cfI l) xs = ys at *
 clear hv hx
 refine q7 func106 rfl (fun E hE => ?_); simp only [go_sem, ntmps106]
 repeat' (first | (refine Qr rfl ?_; try intro _ hK; try simp only [go_sem, *]) | refine Qh rfl ?_ | (refine Qc rfl rfl ?_ ?_ <;> (intro hb; have hc := hb; try simp only [go_sem] at hc)) | refine q6 rfl ?_ | (refine w5 [0, 1] (si) ?_; simp only [go_sem, *]) | ((with_reducible apply And.intro); focus omega) | (refine z8 hK ?_; clear hK; simp only [go_sem, *]) | simp only [z7, z6, go_sem, *])
 refine ⟨[], [some 0, some 1], [], trivial, ?_⟩
 simp only [go_sem, j8, *]
theorem zHL (l : List Str) (q : r9 l = 0) : zLn prog 62 [y4 l] [] (.tup [.own 0 1 0 l.length, iV 0]) [.row 1 ((N4 l).map nV)] := by
 have hv := A5 q
 have h6 := A4 q
 have s1 := zAZ l (by omega)
 rw [q] at s1
 have ss := zHK l hv (List.range l.length) (by simpa using h6) (fun x hx => List.mem_range.1 hx)
 rw [List.length_range] at ss
 have e : o6 (cfI l) (List.range l.length) = N4 l := rfl
 rw [e] at ss
 have hsl := zGu l
 generalize N4 l = ys at *
 clear hv q e
 refine q7 func62 rfl (fun E hE => ?_); simp only [go_sem, ntmps62]
 repeat' (first | (refine Qr rfl ?_; try intro _ hK; try simp only [go_sem, *]) | refine Qh rfl ?_ | (refine Qc rfl rfl ?_ ?_ <;> (intro hb; have hc := hb; try simp only [go_sem] at hc)) | refine q6 rfl ?_ | (refine q9 (s1) ?_; simp only [go_sem, *]) | ((with_reducible apply And.intro); focus omega) | (refine z8 hK ?_; clear hK; simp only [go_sem, *]) | simp only [z7, z6, go_sem, *])
 all_goals try contradiction
 refine p8 rfl (l.length) (fun i => NoQ i) 26 (fun i => [(14, iV i), (13, iV l.length), (5, .own 1 1 0 i), (1, .ptr 0 0)]) (fun i => [.box [y4 l], .row 1 ((List.range i).map nV)]) [some 0, none] [] (by trivial) ?_; intro i hi hP
 by_cases hi2 : i < l.length
 ·clear ss
  repeat' (first | (refine Qr rfl ?_; try intro _ hK; try simp only [go_sem, *]) | refine Qh rfl ?_ | (refine Qc rfl rfl ?_ ?_ <;> (intro hb; have hc := hb; try simp only [go_sem] at hc)) | refine q6 rfl ?_ | ((with_reducible apply And.intro); focus omega) | (refine z8 hK ?_; clear hK; simp only [go_sem, *]) | simp only [z7, z6, go_sem, *])
  exact p9 (i' := i + 1) [some 0, some 3] [] (by trivial)
 ·have e : i = l.length := by omega
  subst e
  repeat' (first | (refine Qr rfl ?_; try intro _ hK; try simp only [go_sem, *]) | refine Qh rfl ?_ | (refine Qc rfl rfl ?_ ?_ <;> (intro hb; have hc := hb; try simp only [go_sem] at hc)) | refine q6 rfl ?_ | (refine w5 [1, 0] (ss) ?_; simp only [go_sem, *]) | ((with_reducible apply And.intro); focus omega) | (refine z8 hK ?_; clear hK; simp only [go_sem, *]) | simp only [z7, z6, go_sem, *])
  refine ⟨[_, _], [some 1], [], ⟨rfl, rfl, trivial⟩, ?_⟩
  simp only [go_sem, *]
end Go.Abs

namespace Go.Abs
open Go Go.Proofs Tryz
attribute [local irreducible] y3 Hold y7
theorem zHg (r : Int) : zLn prog 145 [.raw (.int .i32 r)] [] (bV (Z1 r != 1)) [] := by
 have sk := E1 r
 generalize Z1 r = k at *
 refine q7 func145 rfl (fun E hE => ?_); simp only [go_sem, ntmps145]
 repeat' (first | (refine Qr rfl ?_; try intro _ hK; try simp only [go_sem, *]) | refine Qh rfl ?_ | (refine Qc rfl rfl ?_ ?_ <;> (intro hb; have hc := hb; try simp only [go_sem] at hc)) | refine q6 rfl ?_ | (refine q9 (sk) ?_; simp only [go_sem, *]) | ((with_reducible apply And.intro); focus omega) | (refine z8 hK ?_; clear hK; simp only [go_sem, *]) | simp only [z7, z6, go_sem, *])
 (refine ⟨[_], [], [], ⟨rfl, trivial⟩, ?_⟩; simp only [go_sem, *])
theorem zHb (s : Str) (hl : s.length ≤ 4294967296) : ∃ n : Int, (0 ≤ n ↔ s.all y6 = false) ∧ zLn prog 189 [sV s, fnV 145, bV true] [] (iV n) [] := by
  have hca : t8 prog 145 = true := by kernel_rfl
  obtain ⟨k, hk⟩ : ∃ k : Nat, k = (s.takeWhile y6).length := ⟨_, rfl⟩
  have hkl : k ≤ s.length := by rw [hk]; exact (List.takeWhile_sublist _).length_le
  have hin : ∀ i, i < k → y6 (s.getD i 0) = true := fun i hi => by
    have h1 : i < (s.takeWhile y6).length := by omega
    have h2 := List.all_eq_true.1 (List.all_takeWhile (p := y6) (l := s)) _ (List.getElem_mem h1)
    have h3 : (s.takeWhile y6)[i] = s[i]'(by omega) := List.IsPrefix.getElem (List.takeWhile_prefix _) h1
    rw [h3] at h2
    simpa [List.getD, show i < s.length by omega] using h2
  have hout : k < s.length → y6 (s.getD k 0) = false := fun h => by
    have h1 : s.dropWhile y6 ≠ [] := fun e => by
      have := congrArg List.length (List.takeWhile_append_dropWhile (p := y6) (l := s))
      rw [List.length_append, e] at this
      simp at this; omega
    have h2 := List.head_dropWhile_not (p := y6) h1
    have h3 : (s.dropWhile y6).head h1 = s.getD k 0 := by
      have h4 : s = s.takeWhile y6 ++ s.dropWhile y6 := (List.takeWhile_append_dropWhile).symm
      have h5 : s.getD k 0 = (s.takeWhile y6 ++ s.dropWhile y6).getD k 0 := by rw [← h4]
      rw [h5, hk]
      generalize s.takeWhile y6 = tw
      generalize s.dropWhile y6 = dw at h1
      cases dw with
      | nil => exact absurd rfl h1
      | cons a r => simp
    rw [h3] at h2
    exact h2
  refine ⟨if k < s.length then (k : Int) else -1, ?_, ?_⟩
  · by_cases h : k < s.length
    · rw [if_pos h]
      refine ⟨fun _ => ?_, fun _ => by omega⟩
      rw [List.all_eq_false]
      refine ⟨s.getD k 0, ?_, by rw [hout h]; simp⟩
      simp [List.getD, h]
    · rw [if_neg h]
      refine ⟨fun h => by omega, fun hf => ?_⟩
      rw [List.all_eq_false] at hf
      obtain ⟨x, hx, hn⟩ := hf
      obtain ⟨i, hi, rfl⟩ := List.getElem_of_mem hx
      have := hin i (by omega)
      rw [show s.getD i 0 = s[i] by simp [List.getD, hi]] at this
      exact absurd this hn
  · have hwv : ∀ i, i < s.length → (i < k → x8 (s.getD i 0) = 1) ∧ (i = k → x8 (s.getD i 0) ≠ 1) := fun i hi => ⟨fun h => latin_kind.1 (hin i h), fun h => by
      subst h
      intro e
      have := latin_kind.2 e
      rw [hout hi] at this; cases this⟩
    clear hk hin hout
    refine q7 func189 rfl (fun E hE => ?_); simp only [go_sem, ntmps189]
    repeat' (first | (refine Qr rfl ?_; try intro _ hK; try simp only [go_sem, *]) | refine Qh rfl ?_ | (refine Qc rfl rfl ?_ ?_ <;> (intro hb; have hc := hb; try simp only [go_sem] at hc)) | refine q6 rfl ?_ | ((with_reducible apply And.intro); focus omega) | (refine z8 hK ?_; clear hK; simp only [go_sem, *]) | simp only [z7, z6, go_sem, *])
    refine p8 rfl (s.length) (fun i => i ≤ k) 21 (fun i => [(10, .ptr 0 0), (1, fnV 145), (2, bV true)]) (fun i => [.siter ⟨s.toArray⟩ i]) [some 0] [] (by omega) ?_; intro i hi hP
    by_cases hi2 : i < s.length
    · obtain ⟨r1, r2⟩ := zCV s hi2
      obtain ⟨w1, w2⟩ := hwv i hi2
      have sk := zHg ((Utf8.decode ⟨s.toArray⟩ i).1 : Int)
      rw [r1] at sk
      generalize hde : Utf8.decode ⟨s.toArray⟩ i = d at *
      obtain ⟨d1, d2⟩ := d
      simp only at r2 sk
      clear r1 hwv
      by_cases hik : i < k
      · have e1 := w1 hik
        rw [e1] at sk r2
        have e2 := r2 (by decide)
        subst e2
        have e3 : ((1 : Int) != 1) = false := by decide
        rw [e3] at sk
        clear r2 w1 w2 e1 e3
        repeat' (first | (refine Qr rfl ?_; try intro _ hK; try simp only [go_sem, *]) | refine Qh rfl ?_ | (refine Qc rfl rfl ?_ ?_ <;> (intro hb; have hc := hb; try simp only [go_sem] at hc)) | refine q6 rfl ?_ | (refine q9 (sk) ?_; simp only [go_sem, *]) | ((with_reducible apply And.intro); focus omega) | (refine z8 hK ?_; clear hK; simp only [go_sem, *]) | simp only [z7, z6, go_sem, *])
        all_goals try contradiction
        exact p9 (i' := i + 1) [some 0] [] (by omega)
      · have e1 := w2 (by omega)
        have e3 : (x8 (s.getD i 0) != 1) = true := by simpa using e1
        rw [e3] at sk
        have e4 : k < s.length := by omega
        have e5 : i = k := by omega
        rw [if_pos e4]
        subst e5
        clear r2 w1 w2 e1 e3
        repeat' (first | (refine Qr rfl ?_; try intro _ hK; try simp only [go_sem, *]) | refine Qh rfl ?_ | (refine Qc rfl rfl ?_ ?_ <;> (intro hb; have hc := hb; try simp only [go_sem] at hc)) | refine q6 rfl ?_ | (refine q9 (sk) ?_; simp only [go_sem, *]) | ((with_reducible apply And.intro); focus omega) | (refine z8 hK ?_; clear hK; simp only [go_sem, *]) | simp only [z7, z6, go_sem, *])
        all_goals try contradiction
        (refine ⟨[_], [], [], ⟨rfl, trivial⟩, ?_⟩; simp only [go_sem, *])
    · have e4 : ¬ k < s.length := by omega
      rw [if_neg e4]
      clear hwv
      repeat' (first | (refine Qr rfl ?_; try intro _ hK; try simp only [go_sem, *]) | refine Qh rfl ?_ | (refine Qc rfl rfl ?_ ?_ <;> (intro hb; have hc := hb; try simp only [go_sem] at hc)) | refine q6 rfl ?_ | ((with_reducible apply And.intro); focus omega) | (refine z8 hK ?_; clear hK; simp only [go_sem, *]) | simp only [z7, z6, go_sem, *])
      (refine ⟨[_], [], [], ⟨rfl, trivial⟩, ?_⟩; simp only [go_sem, *])
theorem zHE (s : Str) (hl : s.length ≤ 4294967296) : ∃ n : Int, (0 ≤ n ↔ s.all y6 = false) ∧ zLn prog 169 [sV s, fnV 145] [] (iV n) [] := by
 obtain ⟨n, hn, si⟩ := zHb s hl
 refine ⟨n, hn, ?_⟩
 clear hn
 refine q7 func169 rfl (fun E hE => ?_); simp only [go_sem, ntmps169]
 repeat' (first | (refine Qr rfl ?_; try intro _ hK; try simp only [go_sem, *]) | refine Qh rfl ?_ | (refine Qc rfl rfl ?_ ?_ <;> (intro hb; have hc := hb; try simp only [go_sem] at hc)) | refine q6 rfl ?_ | (refine q9 (si) ?_; simp only [go_sem, *]) | ((with_reducible apply And.intro); focus omega) | (refine z8 hK ?_; clear hK; simp only [go_sem, *]) | simp only [z7, z6, go_sem, *])
 (refine ⟨[_], [], [], ⟨rfl, trivial⟩, ?_⟩; simp only [go_sem, *])
theorem zG8 (s : Str) (hl : s.length ≤ 4294967296) : zLn prog 144 [sV s, fnV 145] [] (bV (!s.all y6)) [] := by
 obtain ⟨n, hn, si⟩ := zHE s hl
 have e : (!s.all y6) = decide (n ≥ 0) := by
  rw [Bool.eq_iff_iff, Bool.not_eq_true', decide_eq_true_eq]; exact hn.symm
 rw [e]
 clear hn e
 refine q7 func144 rfl (fun E hE => ?_); simp only [go_sem, ntmps144]
 repeat' (first | (refine Qr rfl ?_; try intro _ hK; try simp only [go_sem, *]) | refine Qh rfl ?_ | (refine Qc rfl rfl ?_ ?_ <;> (intro hb; have hc := hb; try simp only [go_sem] at hc)) | refine q6 rfl ?_ | (refine q9 (si) ?_; simp only [go_sem, *]) | ((with_reducible apply And.intro); focus omega) | (refine z8 hK ?_; clear hK; simp only [go_sem, *]) | simp only [z7, z6, go_sem, *])
 (refine ⟨[_], [], [], ⟨rfl, trivial⟩, ?_⟩; simp only [go_sem, *])
theorem zAY (s : Str) (lo hi : Nat) (hl : s.length ≤ 4294967296) : zLn prog 123 [sV s, iV lo, iV hi] [] (bV (x7 s lo hi)) [] := by
 have sc := zG8 s hl
 have e : x7 s lo hi = (decide ((lo : Int) ≤ s.length) && (decide ((s.length : Int) ≤ hi) && s.all y6)) := by unfold x7; simp
 rw [e]
 generalize s.all y6 = b at *
 clear e
 refine q7 func123 rfl (fun E hE => ?_); simp only [go_sem, ntmps123]
 repeat' (first | (refine Qr rfl ?_; try intro _ hK; try simp only [go_sem, *]) | (refine Qi rfl rfl rfl rfl ?_ ?_ <;> (intro hb; (try intro _ hK); have hc := hb; try simp only [go_sem] at hc; simp only [go_sem, *])) | refine Qh rfl ?_ | (refine Qc rfl rfl ?_ ?_ <;> (intro hb; have hc := hb; try simp only [go_sem] at hc)) | refine q6 rfl ?_ | (refine q9 (sc) ?_; simp only [go_sem, *]) | ((with_reducible apply And.intro); focus omega) | (refine z8 hK ?_; clear hK; simp only [go_sem, *]) | simp only [z7, z6, go_sem, *])
 all_goals try contradiction
 all_goals (refine ⟨[_], [], [], ⟨rfl, trivial⟩, ?_⟩; simp only [go_sem, *])
 all_goals simp_all
end Go.Abs

namespace Go.Abs
open Go Go.Proofs Tryz
attribute [local irreducible] y3 Hold y7
abbrev x4 (l : List Rule) : AV := .list (l.map Rule.enc)
attribute [go_sem] Rule.enc
theorem zGa {l : List Rule} {i : Nat} (h : i < l.length) : (l.drop i).all Rule.ok = ((l.getD i default).ok && (l.drop (i + 1)).all Rule.ok) := by
 rw [l8 h, List.all_cons]
theorem zGW (r : Rule) : r.ok = (x7 r.src 1 2 && (x7 r.dst 0 2 && !(r.src == r.dst))) := by
 unfold Rule.ok
 rw [Bool.eq_iff_iff]
 simp
theorem zCl (l : List Rule) (hl : l.length ≤ 4294967296) (hr : ∀ r, r ∈ l → r.src.length ≤ 4294967296 ∧ r.dst.length ≤ 4294967296) : zLn prog 86 [x4 l] [] (iV (u7 l)) [] := by
 have e0 : 4 < l.length → u7 l = 6 := fun h => by unfold u7; rw [if_pos h]
 have e1 : l.length ≤ 4 → u7 l = if l.all Rule.ok = true then 0 else 2 := fun h => by unfold u7; rw [if_neg (by omega)]
 generalize u7 l = re at *
 refine q7 func86 rfl (fun E hE => ?_); simp only [go_sem, ntmps86]
 repeat' (first | (refine Qr rfl ?_; try intro _ hK; try simp only [go_sem, *]) | (refine Qi rfl rfl rfl rfl ?_ ?_ <;> (intro hb; (try intro _ hK); have hc := hb; try simp only [go_sem] at hc; simp only [go_sem, *])) | refine Qh rfl ?_ | (refine Qc rfl rfl ?_ ?_ <;> (intro hb; have hc := hb; try simp only [go_sem] at hc)) | refine q6 rfl ?_ | ((with_reducible apply And.intro); focus omega) | (refine z8 hK ?_; clear hK; simp only [go_sem, *]) | simp only [z7, z6, go_sem, *])
 ·(refine ⟨[_], [], [], ⟨rfl, trivial⟩, ?_⟩; simp only [go_sem, *])
  rw [e0 (by omega)]
 ·have e2 := e1 (by omega)
  rw [e2]
  clear e0 e1 e2
  refine p8 rfl (l.length) (fun i => (l.drop i).all Rule.ok = l.all Rule.ok) 32 (fun i => [(10, iV i), (9, iV l.length), (8, x4 l)]) (fun i => []) [] [] (by simp) ?_; intro i hi hP
  by_cases hi2 : i < l.length
  ·have hs := zGa hi2
   rw [zGW] at hs
   have hrl := hr _ (l4 hi2)
   have s1 := zAY (l.getD i default).src 1 2 hrl.1
   have s2 := zAY (l.getD i default).dst 0 2 hrl.2
   generalize x7 (l.getD i default).src 1 2 = b1 at *
   generalize x7 (l.getD i default).dst 0 2 = b2 at *
   clear hrl hr
   rw [hs] at hP
   cases b1 with
   | false =>
    rw [← hP]
    clear hP hs s2
    repeat' (first | (refine Qr rfl ?_; try intro _ hK; try simp only [go_sem, *]) | (refine Qi rfl rfl rfl rfl ?_ ?_ <;> (intro hb; (try intro _ hK); have hc := hb; try simp only [go_sem] at hc; simp only [go_sem, *])) | refine Qh rfl ?_ | (refine Qc rfl rfl ?_ ?_ <;> (intro hb; have hc := hb; try simp only [go_sem] at hc)) | refine q6 rfl ?_ | (refine y8 (s1) ?_ ?_; (focus (simp only [go_sem, *]; done)); simp only [go_sem, *]) | ((with_reducible apply And.intro); focus omega) | (refine z8 hK ?_; clear hK; simp only [go_sem, *]) | simp only [z7, z6, go_sem, *])
    all_goals try contradiction
    (refine ⟨[_], [], [], ⟨rfl, trivial⟩, ?_⟩; simp only [go_sem, *])
   | true =>
    cases b2 with
    | false =>
     rw [← hP]
     clear hP hs
     repeat' (first | (refine Qr rfl ?_; try intro _ hK; try simp only [go_sem, *]) | (refine Qi rfl rfl rfl rfl ?_ ?_ <;> (intro hb; (try intro _ hK); have hc := hb; try simp only [go_sem] at hc; simp only [go_sem, *])) | refine Qh rfl ?_ | (refine Qc rfl rfl ?_ ?_ <;> (intro hb; have hc := hb; try simp only [go_sem] at hc)) | refine q6 rfl ?_ | (refine y8 (s1) ?_ ?_; (focus (simp only [go_sem, *]; done)); simp only [go_sem, *]) | (refine y8 (s2) ?_ ?_; (focus (simp only [go_sem, *]; done)); simp only [go_sem, *]) | ((with_reducible apply And.intro); focus omega) | (refine z8 hK ?_; clear hK; simp only [go_sem, *]) | simp only [z7, z6, go_sem, *])
     all_goals try contradiction
     (refine ⟨[_], [], [], ⟨rfl, trivial⟩, ?_⟩; simp only [go_sem, *])
    | true =>
     generalize hb3 : ((l.getD i default).src == (l.getD i default).dst) = b3 at *
     cases b3 with
     | true =>
      rw [← hP]
      clear hP hs
      repeat' (first | (refine Qr rfl ?_; try intro _ hK; try simp only [go_sem, *]) | (refine Qi rfl rfl rfl rfl ?_ ?_ <;> (intro hb; (try intro _ hK); have hc := hb; try simp only [go_sem] at hc; simp only [go_sem, *])) | refine Qh rfl ?_ | (refine Qc rfl rfl ?_ ?_ <;> (intro hb; have hc := hb; try simp only [go_sem] at hc)) | refine q6 rfl ?_ | (refine y8 (s1) ?_ ?_; (focus (simp only [go_sem, *]; done)); simp only [go_sem, *]) | (refine y8 (s2) ?_ ?_; (focus (simp only [go_sem, *]; done)); simp only [go_sem, *]) | ((with_reducible apply And.intro); focus omega) | (refine z8 hK ?_; clear hK; simp only [go_sem, *]) | simp only [z7, z6, go_sem, *])
      all_goals try contradiction
      (refine ⟨[_], [], [], ⟨rfl, trivial⟩, ?_⟩; simp only [go_sem, *])
     | false =>
      simp only [Bool.true_and, Bool.not_false] at hP
      clear hs
      repeat' (first | (refine Qr rfl ?_; try intro _ hK; try simp only [go_sem, *]) | (refine Qi rfl rfl rfl rfl ?_ ?_ <;> (intro hb; (try intro _ hK); have hc := hb; try simp only [go_sem] at hc; simp only [go_sem, *])) | refine Qh rfl ?_ | (refine Qc rfl rfl ?_ ?_ <;> (intro hb; have hc := hb; try simp only [go_sem] at hc)) | refine q6 rfl ?_ | (refine y8 (s1) ?_ ?_; (focus (simp only [go_sem, *]; done)); simp only [go_sem, *]) | (refine y8 (s2) ?_ ?_; (focus (simp only [go_sem, *]; done)); simp only [go_sem, *]) | ((with_reducible apply And.intro); focus omega) | (refine z8 hK ?_; clear hK; simp only [go_sem, *]) | simp only [z7, z6, go_sem, *])
      all_goals try contradiction
      exact p9 (i' := i + 1) [] [] (by exact hP)
  ·have e : l.all Rule.ok = true := by rw [← hP, c9 (by omega)]; rfl
   rw [if_pos e]
   clear hP e
   repeat' (first | (refine Qr rfl ?_; try intro _ hK; try simp only [go_sem, *]) | (refine Qi rfl rfl rfl rfl ?_ ?_ <;> (intro hb; (try intro _ hK); have hc := hb; try simp only [go_sem] at hc; simp only [go_sem, *])) | refine Qh rfl ?_ | (refine Qc rfl rfl ?_ ?_ <;> (intro hb; have hc := hb; try simp only [go_sem] at hc)) | refine q6 rfl ?_ | ((with_reducible apply And.intro); focus omega) | (refine z8 hK ?_; clear hK; simp only [go_sem, *]) | simp only [z7, z6, go_sem, *])
   (refine ⟨[_], [], [], ⟨rfl, trivial⟩, ?_⟩; simp only [go_sem, *])
theorem zCa (s p : Str) (h1 : s.length ≤ 4294967296) (h2 : p.length ≤ 4294967296) : zLn prog 151 [sV s, sV p] [] (bV (p.isPrefixOf s)) [] := by
 have e : p.isPrefixOf s = (decide (p.length ≤ s.length) && (s.take p.length == p)) := by
  rw [Bool.eq_iff_iff, List.isPrefixOf_iff_prefix, Bool.and_eq_true, decide_eq_true_eq, beq_iff_eq, List.prefix_iff_eq_take]
  constructor
  ·intro h
   refine ⟨?_, h.symm⟩
   have := congrArg List.length h
   simp at this; omega
  ·rintro ⟨_, h⟩; exact h.symm
 rw [e]
 clear e
 refine q7 func151 rfl (fun E hE => ?_); simp only [go_sem, ntmps151]
 repeat' (first | (refine Qr rfl ?_; try intro _ hK; try simp only [go_sem, *]) | (refine Qi rfl rfl rfl rfl ?_ ?_ <;> (intro hb; (try intro _ hK); have hc := hb; try simp only [go_sem] at hc; simp only [go_sem, *])) | refine Qh rfl ?_ | (refine Qc rfl rfl ?_ ?_ <;> (intro hb; have hc := hb; try simp only [go_sem] at hc)) | refine q6 rfl ?_ | ((with_reducible apply And.intro); focus omega) | (refine z8 hK ?_; clear hK; simp only [go_sem, *]) | simp only [z7, z6, go_sem, *])
 all_goals (refine ⟨[_], [], [], ⟨rfl, trivial⟩, ?_⟩; simp only [go_sem, *])
 all_goals simp_all
theorem zCZ (s p : Str) (h1 : s.length ≤ 4294967296) (h2 : p.length ≤ 4294967296) : zLn prog 127 [sV s, sV p] [] (bV (p.isPrefixOf s)) [] := by
 have s1 := zCa s p h1 h2
 generalize p.isPrefixOf s = b at *
 refine q7 func127 rfl (fun E hE => ?_); simp only [go_sem, ntmps127]
 repeat' (first | (refine Qr rfl ?_; try intro _ hK; try simp only [go_sem, *]) | refine Qh rfl ?_ | (refine Qc rfl rfl ?_ ?_ <;> (intro hb; have hc := hb; try simp only [go_sem] at hc)) | refine q6 rfl ?_ | (refine q9 (s1) ?_; simp only [go_sem, *]) | ((with_reducible apply And.intro); focus omega) | (refine z8 hK ?_; clear hK; simp only [go_sem, *]) | simp only [z7, z6, go_sem, *])
 (refine ⟨[_], [], [], ⟨rfl, trivial⟩, ?_⟩; simp only [go_sem, *])
theorem zDo {x y : List Str} {i : Nat} (h1 : i < x.length) (h2 : i < y.length) : zLp (x.drop i) (y.drop i) = if zLq (x.getD i default) (y.getD i default) = 0 then zLp (x.drop (i + 1)) (y.drop (i + 1)) else zLq (x.getD i default) (y.getD i default) := by
 rw [l8 h1, l8 h2, zLp]
theorem zDn {x y : List Str} {i : Nat} (h1 : i < x.length) (h2 : y.length ≤ i) : zLp (x.drop i) (y.drop i) = 1 := by
 rw [l8 h1, c9 h2, zLp]
theorem zDm {x y : List Str} {i : Nat} (h1 : x.length ≤ i) : zLp (x.drop i) (y.drop i) = if i < y.length then -1 else 0 := by
 rw [c9 h1]
 by_cases h2 : i < y.length
 ·rw [l8 h2, zLp, if_pos h2]
 ·rw [c9 (by omega), zLp, if_neg h2]
theorem zG6 (x y : List Str) (h1 : x.length ≤ 4294967296) (h2 : y.length ≤ 4294967296) : zLn prog 126 [y4 x, y4 y] [] (iV (zLp x y)) [] := by
 refine q7 func126 rfl (fun E hE => ?_); simp only [go_sem, ntmps126]
 repeat' (first | (refine Qr rfl ?_; try intro _ hK; try simp only [go_sem, *]) | refine Qh rfl ?_ | (refine Qc rfl rfl ?_ ?_ <;> (intro hb; have hc := hb; try simp only [go_sem] at hc)) | refine q6 rfl ?_ | ((with_reducible apply And.intro); focus omega) | (refine z8 hK ?_; clear hK; simp only [go_sem, *]) | simp only [z7, z6, go_sem, *])
 refine p8 rfl (x.length) (fun i => zLp (x.drop i) (y.drop i) = zLp x y ∧ i ≤ y.length) 36 (fun i => [(11, iV i), (10, iV x.length), (9, y4 x), (0, y4 x), (1, y4 y)]) (fun i => []) [] [] (by simp) ?_; intro i hi hP
 obtain ⟨hP, hiy⟩ := hP
 by_cases hi2 : i < x.length
 ·by_cases hi3 : i < y.length
  ·have hs := zDo hi2 hi3
   have sc := zG7 (x.getD i default) (y.getD i default)
   rw [hs] at hP
   clear hs
   have gi : ¬ ((i : Int) ≥ (y.length : Int)) := by omega
   by_cases q : zLq (x.getD i default) (y.getD i default) = 0
   ·rw [if_pos q] at hP
    rw [q] at sc
    repeat' (first | (refine Qr rfl ?_; try intro _ hK; try simp only [go_sem, *]) | refine Qh rfl ?_ | (refine Qc rfl rfl ?_ ?_ <;> (intro hb; have hc := hb; try simp only [go_sem] at hc)) | refine q6 rfl ?_ | (refine q9 (sc) ?_; simp only [go_sem, *]) | ((with_reducible apply And.intro); focus omega) | (refine z8 hK ?_; clear hK; simp only [go_sem, *]) | simp only [z7, z6, go_sem, *])
    all_goals first | contradiction | omega | skip
    exact p9 (i' := i + 1) [] [] (by exact ⟨hP, by omega⟩)
   ·rw [if_neg q] at hP
    generalize zLq (x.getD i default) (y.getD i default) = c at *
    rw [← hP]
    clear hP
    repeat' (first | (refine Qr rfl ?_; try intro _ hK; try simp only [go_sem, *]) | refine Qh rfl ?_ | (refine Qc rfl rfl ?_ ?_ <;> (intro hb; have hc := hb; try simp only [go_sem] at hc)) | refine q6 rfl ?_ | (refine q9 (sc) ?_; simp only [go_sem, *]) | ((with_reducible apply And.intro); focus omega) | (refine z8 hK ?_; clear hK; simp only [go_sem, *]) | simp only [z7, z6, go_sem, *])
    all_goals first | contradiction | omega | skip
    (refine ⟨[_], [], [], ⟨rfl, trivial⟩, ?_⟩; simp only [go_sem, *])
  ·rw [zDn hi2 (by omega)] at hP
   rw [← hP]
   clear hP
   repeat' (first | (refine Qr rfl ?_; try intro _ hK; try simp only [go_sem, *]) | refine Qh rfl ?_ | (refine Qc rfl rfl ?_ ?_ <;> (intro hb; have hc := hb; try simp only [go_sem] at hc)) | refine q6 rfl ?_ | ((with_reducible apply And.intro); focus omega) | (refine z8 hK ?_; clear hK; simp only [go_sem, *]) | simp only [z7, z6, go_sem, *])
   all_goals first | contradiction | omega | skip
   (refine ⟨[_], [], [], ⟨rfl, trivial⟩, ?_⟩; simp only [go_sem, *])
 ·have hix : i = x.length := by omega
  subst hix
  rw [zDm (Nat.le_refl _)] at hP
  by_cases hxy : x.length < y.length
  ·rw [if_pos hxy] at hP
   rw [← hP]
   clear hP
   repeat' (first | (refine Qr rfl ?_; try intro _ hK; try simp only [go_sem, *]) | refine Qh rfl ?_ | (refine Qc rfl rfl ?_ ?_ <;> (intro hb; have hc := hb; try simp only [go_sem] at hc)) | refine q6 rfl ?_ | ((with_reducible apply And.intro); focus omega) | (refine z8 hK ?_; clear hK; simp only [go_sem, *]) | simp only [z7, z6, go_sem, *])
   all_goals first | contradiction | omega | skip
   (refine ⟨[_], [], [], ⟨rfl, trivial⟩, ?_⟩; simp only [go_sem, *])
  ·rw [if_neg hxy] at hP
   rw [← hP]
   clear hP
   repeat' (first | (refine Qr rfl ?_; try intro _ hK; try simp only [go_sem, *]) | refine Qh rfl ?_ | (refine Qc rfl rfl ?_ ?_ <;> (intro hb; have hc := hb; try simp only [go_sem] at hc)) | refine q6 rfl ?_ | ((with_reducible apply And.intro); focus omega) | (refine z8 hK ?_; clear hK; simp only [go_sem, *]) | simp only [z7, z6, go_sem, *])
   all_goals first | contradiction | omega | skip
   (refine ⟨[_], [], [], ⟨rfl, trivial⟩, ?_⟩; simp only [go_sem, *])
end Go.Abs

namespace Go.Abs
open Go Go.Proofs Tryz
attribute [local irreducible] y3 Hold y7
section
variable {α : Type} {a b : List α} {i : Nat}
theorem zCw (ha : a.length ≤ i) (hl : a.length = b.length) (h : a.take i = b.take i) : a = b := by
 rwa [List.take_of_length_le ha, List.take_of_length_le (by omega)] at h
variable [Inhabited α]
theorem zAe {l : List α} (h : i < l.length) : l.take (i + 1) = l.take i ++ [l.getD i default] := by
 rw [List.take_add_one]; simp [List.getD, h]
theorem zCx (ha : i < a.length) (hb : i < b.length) (h : a.take i = b.take i) (e : a.getD i default = b.getD i default) : a.take (i + 1) = b.take (i + 1) := by
 rw [zAe ha, zAe hb, h, e]
theorem zCy (e : ¬ a.getD i default = b.getD i default) : ¬ a = b := fun h => e (by rw [h])
end
theorem zBs {α : Type} {a b : List α} (h : ¬ a.length = b.length) : ¬ a = b := fun e => h (by rw [e])
theorem zHA (a b : List Int) (h1 : a.length ≤ 4294967296) : zLn prog 54 [W4 a, W4 b] [] (bV (decide (a = b))) [] := by
 refine q7 func54 rfl (fun E hE => ?_); simp only [go_sem, ntmps54]
 repeat' (first | (refine Qr rfl ?_; try intro _ hK; try simp only [go_sem, *]) | refine Qh rfl ?_ | refine Qd rfl (by kernel_rfl) ?_ | (refine Qc rfl rfl ?_ ?_ <;> (intro hb; have hc := hb; try simp only [go_sem] at hc)) | refine q6 rfl ?_ | (refine Qb ?_ ?_; focus kernel_rfl) | ((with_reducible apply And.intro); focus omega) | (refine z8 hK ?_; clear hK; simp only [go_sem, *]) | simp only [z7, z6, go_sem, *])
 ·(refine ⟨[_], [], [], ⟨rfl, trivial⟩, ?_⟩; simp only [go_sem, *])
  simp [zBs (a := a) (b := b) (by omega)]
 ·have hlb : a.length = b.length := by omega
  refine p8 rfl (b.length) (fun i => a.take i = b.take i) 26 (fun i => [(5, iV i), (0, W4 a), (1, W4 b)]) (fun i => []) [] [] (by simp) ?_; intro i hi hP
  repeat' (first | (refine Qr rfl ?_; try intro _ hK; try simp only [go_sem, *]) | refine Qh rfl ?_ | refine Qd rfl (by kernel_rfl) ?_ | (refine Qc rfl rfl ?_ ?_ <;> (intro hb; have hc := hb; try simp only [go_sem] at hc)) | refine q6 rfl ?_ | (refine Qb ?_ ?_; focus kernel_rfl) | ((with_reducible apply And.intro); focus omega) | (refine z8 hK ?_; clear hK; simp only [go_sem, *]) | simp only [z7, z6, go_sem, *])
  ·(refine ⟨[_], [], [], ⟨rfl, trivial⟩, ?_⟩; simp only [go_sem, *])
   simp [zCy (a := a) (b := b) (i := i) (by assumption)]
  ·exact p9 (i' := i + 1) [] [] (by exact zCx (by omega) (by omega) hP (by assumption))
  ·(refine ⟨[_], [], [], ⟨rfl, trivial⟩, ?_⟩; simp only [go_sem, *])
   simp [zCw (by omega) hlb hP]
theorem zHB (a b : List Str) (h1 : a.length ≤ 4294967296) : zLn prog 33 [y4 a, y4 b] [] (bV (decide (a = b))) [] := by
 refine q7 func33 rfl (fun E hE => ?_); simp only [go_sem, ntmps33]
 repeat' (first | (refine Qr rfl ?_; try intro _ hK; try simp only [go_sem, *]) | refine Qh rfl ?_ | refine Qd rfl (by kernel_rfl) ?_ | (refine Qc rfl rfl ?_ ?_ <;> (intro hb; have hc := hb; try simp only [go_sem] at hc)) | refine q6 rfl ?_ | (refine Qb ?_ ?_; focus kernel_rfl) | ((with_reducible apply And.intro); focus omega) | (refine z8 hK ?_; clear hK; simp only [go_sem, *]) | simp only [z7, z6, go_sem, *])
 ·(refine ⟨[_], [], [], ⟨rfl, trivial⟩, ?_⟩; simp only [go_sem, *])
  simp [zBs (a := a) (b := b) (by omega)]
 ·have hlb : a.length = b.length := by omega
  refine p8 rfl (b.length) (fun i => a.take i = b.take i) 26 (fun i => [(5, iV i), (0, y4 a), (1, y4 b)]) (fun i => []) [] [] (by simp) ?_; intro i hi hP
  repeat' (first | (refine Qr rfl ?_; try intro _ hK; try simp only [go_sem, *]) | refine Qh rfl ?_ | refine Qd rfl (by kernel_rfl) ?_ | (refine Qc rfl rfl ?_ ?_ <;> (intro hb; have hc := hb; try simp only [go_sem] at hc)) | refine q6 rfl ?_ | (refine Qb ?_ ?_; focus kernel_rfl) | ((with_reducible apply And.intro); focus omega) | (refine z8 hK ?_; clear hK; simp only [go_sem, *]) | simp only [z7, z6, go_sem, *])
  ·(refine ⟨[_], [], [], ⟨rfl, trivial⟩, ?_⟩; simp only [go_sem, *])
   simp [zCy (a := a) (b := b) (i := i) (by assumption)]
  ·exact p9 (i' := i + 1) [] [] (by exact zCx (by omega) (by omega) hP (by assumption))
  ·(refine ⟨[_], [], [], ⟨rfl, trivial⟩, ?_⟩; simp only [go_sem, *])
   simp [zCw (by omega) hlb hP]
theorem zHq : zLn prog 74 [] [] (.own 0 2 0 3) [.row 2 (rulesX.map Rule.enc)] := by
 refine q7 func74 rfl (fun E hE => ?_); simp only [go_sem, ntmps74]
 repeat' (first | (refine Qr rfl ?_; try intro _ hK; try simp only [go_sem, *]) | refine Qh rfl ?_ | (refine Qc rfl rfl ?_ ?_ <;> (intro hb; have hc := hb; try simp only [go_sem] at hc)) | refine q6 rfl ?_ | ((with_reducible apply And.intro); focus omega) | (refine z8 hK ?_; clear hK; simp only [go_sem, *]) | simp only [z7, z6, go_sem, *])
 refine ⟨[_], [some 0], [], ⟨rfl, trivial⟩, ?_⟩
 simp only [go_sem, rulesX, Rule.enc, *]
theorem zHr : zLn prog 75 [] [] (.own 0 1 0 3) [.row 1 (smithsX.map sV)] := by
 refine q7 func75 rfl (fun E hE => ?_); simp only [go_sem, ntmps75]
 repeat' (first | (refine Qr rfl ?_; try intro _ hK; try simp only [go_sem, *]) | refine Qh rfl ?_ | (refine Qc rfl rfl ?_ ?_ <;> (intro hb; have hc := hb; try simp only [go_sem] at hc)) | refine q6 rfl ?_ | ((with_reducible apply And.intro); focus omega) | (refine z8 hK ?_; clear hK; simp only [go_sem, *]) | simp only [z7, z6, go_sem, *])
 refine ⟨[_], [some 0], [], ⟨rfl, trivial⟩, ?_⟩
 simp only [go_sem, smithsX, b7, zAD, zMx, *]
theorem E0 (d : Dice) (ws : List Str) (h : d.list.length ≤ 4294967296) (h0 : 0 < ws.length) (h1 : ws.length ≤ 1000) : zLn prog 76 [.ptr 0 0, y4 ws] [w9 d] (sV (n0 ws d)) [w9 (x9 ws d)] := by
 have st := X0 d ((ws.length : Int) - 1) h (by omega)
 have hle := f0 (n := (ws.length : Int) - 1) (by omega) d
 have hw : IntKind.i64.wrap ((ws.length : Int) - 1) = (ws.length : Int) - 1 := wrap_i64 (by omega) (by omega)
 have e1 : n0 ws d = ws.getD (toN ((ws.length : Int) - 1) d).toNat default := rfl
 have e2 : x9 ws d = toD ((ws.length : Int) - 1) d := rfl
 rw [e1, e2]
 clear e1 e2
 obtain ⟨n, hn⟩ : ∃ n : Nat, toN ((ws.length : Int) - 1) d = n := ⟨_, (Int.toNat_of_nonneg hle.1).symm⟩
 rw [hn] at st hle ⊢
 rw [Int.toNat_natCast]
 have hlt : n < ws.length := by omega
 generalize toD ((ws.length : Int) - 1) d = d2 at *
 clear hn hle
 refine q7 func76 rfl (fun E hE => ?_); simp only [go_sem, ntmps76]
 repeat' (first | (refine Qr rfl ?_; try intro _ hK; try simp only [go_sem, *]) | refine Qh rfl ?_ | (refine Qc rfl rfl ?_ ?_ <;> (intro hb; have hc := hb; try simp only [go_sem] at hc)) | refine q6 rfl ?_ | (refine w5 [0] (st) ?_; simp only [go_sem, *]) | ((with_reducible apply And.intro); focus omega) | (refine z8 hK ?_; clear hK; simp only [go_sem, *]) | simp only [z7, z6, go_sem, *])
 refine ⟨[_], [some 0], [], ⟨rfl, trivial⟩, ?_⟩
 simp only [go_sem, *]
end Go.Abs

namespace Go.Abs
open Go Go.Proofs Tryz
attribute [local irreducible] y3 Hold y7
theorem zGp (d : Dice) : (zMF d).1.length ≤ 7 := by
 have k1 : (wordsU.all fun x => decide (x.length ≤ 7)) = true := by decide
 have k2 : (wordsL.all fun x => decide (x.length ≤ 7)) = true := by decide
 unfold zMF zMn
 split
 ·exact of_decide_eq_true (List.all_eq_true.1 k1 _ (O6 (by decide) _))
 ·exact of_decide_eq_true (List.all_eq_true.1 k2 _ (O6 (by decide) _))
theorem C0 {s : Str} {k : Nat} (h : k < s.length) : List.drop k (List.take (k + 1) s) = [s.getD k 0] := by
 rw [zAe h, List.drop_append_of_le_length (by simp; omega), List.drop_of_length_le (by simp; omega)]; rfl
theorem zBv (set : Str) (n : Nat) (d : Dice) (s : Str) : i5 set (n + 1) d s = i5 set n (toD ((set.length : Int) - 1) d) (s ++ [set.getD (toN ((set.length : Int) - 1) d).toNat 0]) := rfl
theorem zCd (d : Dice) (most : Int) (h : d.list.length ≤ 4294967296) (hm : 1 ≤ most ∧ most ≤ 1000) : zLn prog 25 [.ptr 0 0, iV most] [w9 d] (sV (j1 d most).1) [w9 (j1 d most).2] := by
 have hd1 : (x9 wordsL d).list = d.list := r5 _ _
 have s1 := E0 d wordsL h (by decide) (by decide)
 have s2 := F9 (x9 wordsL d) 3 (by rw [hd1]; exact h) (by omega)
 have hd2 : (v6 3 (x9 wordsL d)).list = d.list := (r5 _ _).trans hd1
 have s3 := E0 (v6 3 (x9 wordsL d)) wordsU (by rw [hd2]; exact h) (by decide) (by decide)
 have hset := zCW d
 have hset7 := zGp d
 obtain ⟨p, hp⟩ : ∃ p, zMF d = p := ⟨_, rfl⟩
 have hT : j1 d most = G2 most p := by unfold j1; rw [hp]
 rw [hT]
 rw [hp] at hset hset7
 unfold zMF zMn at hp
 have hmin : 1 ≤ min most 6 ∧ min most 6 ≤ 6 := by omega
 have hq := B1 (lo := 1) (hi := min most 6) hmin.1 p.2
 have s4 := zHD p.2 1 (min most 6) (by rw [hset.2.2]; exact h) (by omega) (by omega)
 have hT2 : G2 most p = i5 p.1 (b5 1 (min most 6) p.2).toNat (Y3 1 (min most 6) p.2) [] := rfl
 rw [hT2]
 have hd3 : (Y3 1 (min most 6) p.2).list = d.list := (r5 _ _).trans hset.2.2
 obtain ⟨n, hn⟩ : ∃ n : Nat, b5 1 (min most 6) p.2 = n := ⟨(b5 1 (min most 6) p.2).toNat, by omega⟩
 rw [hn] at s4 hq ⊢
 rw [Int.toNat_natCast]
 have hn6 : n ≤ 6 := by omega
 generalize hT3 : i5 p.1 n (Y3 1 (min most 6) p.2) [] = T at *
 obtain ⟨dd, hdd⟩ : ∃ dd, Y3 1 (min most 6) p.2 = dd := ⟨_, rfl⟩
 rw [hdd] at s4 hT3 hd3
 have hdl : dd.list.length ≤ 4294967296 := by rw [hd3]; exact h
 obtain ⟨set, d4⟩ := p
 have hsl : 0 < set.length := hset.1
 have hsl2 : set.length ≤ 7 := hset7
 clear hn hT hT2 hq hd1 hd2 hd3 hset hdd
 simp only at s4 hT3
 generalize Q6 3 (x9 wordsL d) = t at *
 generalize v6 3 (x9 wordsL d) = d2 at *
 generalize x9 wordsL d = d1 at *
 generalize n0 wordsL d = a at *
 generalize n0 wordsU d2 = b at *
 generalize x9 wordsU d2 = d3 at *
 generalize hmm : min most 6 = mm at *
 have hw0 : y4 wordsL = .list [sV [97, 101, 115], sV [115, 104, 101, 116, 97], sV [115, 109, 105, 116, 121, 104, 97], sV [99, 104, 106, 97], sV [97, 110, 110, 101]] := rfl
 have hw1 : y4 wordsU = .list [sV [65, 69, 83], sV [88, 69, 84, 65], sV [83, 77, 73, 84, 89, 65], sV [67, 74, 65, 88], sV [65, 78, 78, 69]] := rfl
 rw [hw0] at s1
 rw [hw1] at s3
 clear hw0 hw1 hset7
 have hmi : zMk most 6 = mm := by rw [← hmm]; unfold zMk; omega
 clear hmm
 cases t
 ·have hp : (a, d2) = (set, d4) := hp
  cases hp
  clear s3
  refine q7 func25 rfl (fun E hE => ?_); simp only [go_sem, ntmps25]
  repeat' (first | (refine Qr rfl ?_; try intro _ hK; try simp only [go_sem, *]) | refine Qh rfl ?_ | (refine Qc rfl rfl ?_ ?_ <;> (intro hb; have hc := hb; try simp only [go_sem] at hc)) | refine q6 rfl ?_ | ((with_reducible apply And.intro); focus omega) | (refine z8 hK ?_; clear hK; simp only [go_sem, *]) | simp only [z7, z6, go_sem, *])
  refine c7 [0] [1] s1 rfl (by simp only [go_sem]) (by simp) ?_ ?_ (by simp [go_sem]) (by simp [go_sem]) ?_
  ·simp only [go_sem, *]
  ·simp only [go_sem, *]
  simp only [go_sem, w8, *]
  repeat' (first | (refine Qr rfl ?_; try intro _ hK; try simp only [go_sem, *]) | refine Qh rfl ?_ | (refine Qc rfl rfl ?_ ?_ <;> (intro hb; have hc := hb; try simp only [go_sem] at hc)) | refine q6 rfl ?_ | (refine w5 [0] (s2) ?_; simp only [go_sem, *]) | ((with_reducible apply And.intro); focus omega) | (refine z8 hK ?_; clear hK; simp only [go_sem, *]) | simp only [z7, z6, go_sem, *])
  all_goals try contradiction
  repeat' (first | (refine Qr rfl ?_; try intro _ hK; try simp only [go_sem, *]) | refine Qh rfl ?_ | (refine Qc rfl rfl ?_ ?_ <;> (intro hb; have hc := hb; try simp only [go_sem] at hc)) | refine q6 rfl ?_ | (refine w5 [0] (s4) ?_; simp only [go_sem, *]) | ((with_reducible apply And.intro); focus omega) | (refine z8 hK ?_; clear hK; simp only [go_sem, *]) | simp only [z7, z6, go_sem, *])
  all_goals try contradiction
  refine K1 rfl (n) (fun i (d' : Dice) (s : Str) => i5 set (n - i) d' s = T ∧ d'.list.length ≤ 4294967296 ∧ s.length ≤ i) 38 (fun i d' s => [(7, iV ((n - i : Nat) : Int)), (6, sV s), (5, sV set), (0, .ptr 0 0)]) (fun i d' s => [w9 d']) [some 0] [] (dd) ([]) (by exact ⟨hT3, hdl, by simp⟩) ?_; intro i d' s hi hP
  clear hT3 hdl s4 s2 s1
  obtain ⟨hP, hdl, hsi⟩ := hP
  by_cases hi2 : i < n
  ·rw [show n - i = (n - (i + 1)) + 1 by omega, zBv] at hP
   have st := X0 d' ((set.length : Int) - 1) hdl (by omega)
   have hle := f0 (n := (set.length : Int) - 1) (by omega) d'
   have hdl2 : (toD ((set.length : Int) - 1) d').list.length ≤ 4294967296 := by rw [r5]; exact hdl
   obtain ⟨k, hk0⟩ : ∃ k : Nat, toN ((set.length : Int) - 1) d' = k := ⟨_, (Int.toNat_of_nonneg hle.1).symm⟩
   rw [hk0] at st hle hP
   rw [Int.toNat_natCast] at hP
   have hkl : k < set.length := by omega
   have hw : IntKind.i64.wrap ((set.length : Int) - 1) = (set.length : Int) - 1 := wrap_i64 (by omega) (by omega)
   have hw1 : IntKind.i64.wrap ((k : Int) + 1) = ((k + 1 : Nat) : Int) := r6 (by omega)
   have hw2 : IntKind.i64.wrap (((n - i : Nat) : Int) - 1) = ((n - (i + 1) : Nat) : Int) := by rw [wrap_i64 (by omega) (by omega)]; omega
   have hj : (0 : Int) < ((n - i : Nat) : Int) := by omega
   have hdt := C0 hkl
   generalize toD ((set.length : Int) - 1) d' = d3 at *
   clear hk0 hle
   repeat' (first | (refine Qr rfl ?_; try intro _ hK; try simp only [go_sem, *]) | refine Qh rfl ?_ | (refine Qc rfl rfl ?_ ?_ <;> (intro hb; have hc := hb; try simp only [go_sem] at hc)) | refine q6 rfl ?_ | (refine w5 [0] (st) ?_; simp only [go_sem, *]) | ((with_reducible apply And.intro); focus omega) | (refine z8 hK ?_; clear hK; simp only [go_sem, *]) | simp only [z7, z6, go_sem, *])
   exact Q4 (i' := i + 1) [some 0] [] (d3) (s ++ [set.getD k 0]) (by exact ⟨hP, hdl2, by simp; omega⟩)
  ·rw [show n - i = 0 by omega] at hP
   have hP : (s, d') = T := hP
   subst hP
   have hj : ¬ (0 : Int) < ((n - i : Nat) : Int) := by omega
   repeat' (first | (refine Qr rfl ?_; try intro _ hK; try simp only [go_sem, *]) | refine Qh rfl ?_ | (refine Qc rfl rfl ?_ ?_ <;> (intro hb; have hc := hb; try simp only [go_sem] at hc)) | refine q6 rfl ?_ | ((with_reducible apply And.intro); focus omega) | (refine z8 hK ?_; clear hK; simp only [go_sem, *]) | simp only [z7, z6, go_sem, *])
   all_goals first | contradiction | omega | skip
   refine ⟨[_], [some 0], [], ⟨rfl, trivial⟩, ?_⟩
   simp only [go_sem, *]
 ·have hp : (b, d3) = (set, d4) := hp
  cases hp
  refine q7 func25 rfl (fun E hE => ?_); simp only [go_sem, ntmps25]
  repeat' (first | (refine Qr rfl ?_; try intro _ hK; try simp only [go_sem, *]) | refine Qh rfl ?_ | (refine Qc rfl rfl ?_ ?_ <;> (intro hb; have hc := hb; try simp only [go_sem] at hc)) | refine q6 rfl ?_ | ((with_reducible apply And.intro); focus omega) | (refine z8 hK ?_; clear hK; simp only [go_sem, *]) | simp only [z7, z6, go_sem, *])
  refine c7 [0] [1] s1 rfl (by simp only [go_sem]) (by simp) ?_ ?_ (by simp [go_sem]) (by simp [go_sem]) ?_
  ·simp only [go_sem, *]
  ·simp only [go_sem, *]
  simp only [go_sem, w8, *]
  repeat' (first | (refine Qr rfl ?_; try intro _ hK; try simp only [go_sem, *]) | refine Qh rfl ?_ | (refine Qc rfl rfl ?_ ?_ <;> (intro hb; have hc := hb; try simp only [go_sem] at hc)) | refine q6 rfl ?_ | (refine w5 [0] (s2) ?_; simp only [go_sem, *]) | ((with_reducible apply And.intro); focus omega) | (refine z8 hK ?_; clear hK; simp only [go_sem, *]) | simp only [z7, z6, go_sem, *])
  all_goals try contradiction
  refine c7 [0] [2] s3 rfl (by simp only [go_sem]) (by simp) ?_ ?_ (by simp [go_sem]) (by simp [go_sem]) ?_
  ·simp only [go_sem, *]
  ·simp only [go_sem, *]
  simp only [go_sem, w8, *]
  repeat' (first | (refine Qr rfl ?_; try intro _ hK; try simp only [go_sem, *]) | refine Qh rfl ?_ | (refine Qc rfl rfl ?_ ?_ <;> (intro hb; have hc := hb; try simp only [go_sem] at hc)) | refine q6 rfl ?_ | (refine w5 [0] (s4) ?_; simp only [go_sem, *]) | ((with_reducible apply And.intro); focus omega) | (refine z8 hK ?_; clear hK; simp only [go_sem, *]) | simp only [z7, z6, go_sem, *])
  all_goals try contradiction
  refine K1 rfl (n) (fun i (d' : Dice) (s : Str) => i5 set (n - i) d' s = T ∧ d'.list.length ≤ 4294967296 ∧ s.length ≤ i) 38 (fun i d' s => [(7, iV ((n - i : Nat) : Int)), (6, sV s), (5, sV set), (0, .ptr 0 0)]) (fun i d' s => [w9 d']) [some 0] [] (dd) ([]) (by exact ⟨hT3, hdl, by simp⟩) ?_; intro i d' s hi hP
  clear hT3 hdl s4 s3 s2 s1
  obtain ⟨hP, hdl, hsi⟩ := hP
  by_cases hi2 : i < n
  ·rw [show n - i = (n - (i + 1)) + 1 by omega, zBv] at hP
   have st := X0 d' ((set.length : Int) - 1) hdl (by omega)
   have hle := f0 (n := (set.length : Int) - 1) (by omega) d'
   have hdl2 : (toD ((set.length : Int) - 1) d').list.length ≤ 4294967296 := by rw [r5]; exact hdl
   obtain ⟨k, hk0⟩ : ∃ k : Nat, toN ((set.length : Int) - 1) d' = k := ⟨_, (Int.toNat_of_nonneg hle.1).symm⟩
   rw [hk0] at st hle hP
   rw [Int.toNat_natCast] at hP
   have hkl : k < set.length := by omega
   have hw : IntKind.i64.wrap ((set.length : Int) - 1) = (set.length : Int) - 1 := wrap_i64 (by omega) (by omega)
   have hw1 : IntKind.i64.wrap ((k : Int) + 1) = ((k + 1 : Nat) : Int) := r6 (by omega)
   have hw2 : IntKind.i64.wrap (((n - i : Nat) : Int) - 1) = ((n - (i + 1) : Nat) : Int) := by rw [wrap_i64 (by omega) (by omega)]; omega
   have hj : (0 : Int) < ((n - i : Nat) : Int) := by omega
   have hdt := C0 hkl
   generalize toD ((set.length : Int) - 1) d' = d3' at *
   clear hk0 hle
   repeat' (first | (refine Qr rfl ?_; try intro _ hK; try simp only [go_sem, *]) | refine Qh rfl ?_ | (refine Qc rfl rfl ?_ ?_ <;> (intro hb; have hc := hb; try simp only [go_sem] at hc)) | refine q6 rfl ?_ | (refine w5 [0] (st) ?_; simp only [go_sem, *]) | ((with_reducible apply And.intro); focus omega) | (refine z8 hK ?_; clear hK; simp only [go_sem, *]) | simp only [z7, z6, go_sem, *])
   exact Q4 (i' := i + 1) [some 0] [] (d3') (s ++ [set.getD k 0]) (by exact ⟨hP, hdl2, by simp; omega⟩)
  ·rw [show n - i = 0 by omega] at hP
   have hP : (s, d') = T := hP
   subst hP
   have hj : ¬ (0 : Int) < ((n - i : Nat) : Int) := by omega
   repeat' (first | (refine Qr rfl ?_; try intro _ hK; try simp only [go_sem, *]) | refine Qh rfl ?_ | (refine Qc rfl rfl ?_ ?_ <;> (intro hb; have hc := hb; try simp only [go_sem] at hc)) | refine q6 rfl ?_ | ((with_reducible apply And.intro); focus omega) | (refine z8 hK ?_; clear hK; simp only [go_sem, *]) | simp only [z7, z6, go_sem, *])
   all_goals first | contradiction | omega | skip
   refine ⟨[_], [some 0], [], ⟨rfl, trivial⟩, ?_⟩
   simp only [go_sem, *]
end Go.Abs

namespace Go.Abs
open Go Go.Proofs Tryz
attribute [local irreducible] y3 Hold y7
theorem zFt (most : Int) (n : Nat) (d : Dice) (out : List Str) : b8 most (n + 1) d out = b8 most n (c5 out (j1 d most)).2 (out ++ [(c5 out (j1 d most)).1]) := rfl
theorem zHG (d : Dice) (many most : Int) (h : d.list.length ≤ 4294967296) (hm : 0 ≤ many ∧ many ≤ 1000) (h1 : 1 ≤ most ∧ most ≤ 1000) :
  zLn prog 24 [.ptr 0 0, iV many, iV most] [w9 d] (.own 1 1 0 (V4 d many most).1.length) [w9 (V4 d many most).2, .row 1 ((V4 d many most).1.map sV)] := by
 have st := X0 d many h (by omega)
 have hle := f0 hm.1 d
 have hT : V4 d many most = b8 most (toN many d).toNat (toD many d) [] := rfl
 rw [hT]
 clear hT
 obtain ⟨n, hn⟩ : ∃ n : Nat, toN many d = n := ⟨_, (Int.toNat_of_nonneg hle.1).symm⟩
 rw [hn] at st hle ⊢
 rw [Int.toNat_natCast]
 have hn6 : n ≤ 1000 := by omega
 generalize hT3 : b8 most n (toD many d) [] = T at *
 have hdl : (toD many d).list.length ≤ 4294967296 := by rw [r5]; exact h
 generalize toD many d = dd at *
 clear hn hle h hm
 refine q7 func24 rfl (fun E hE => ?_); simp only [go_sem, ntmps24]
 repeat' (first | (refine Qr rfl ?_; try intro _ hK; try simp only [go_sem, *]) | (refine Qi rfl rfl rfl rfl ?_ ?_ <;> (intro hb; (try intro _ hK); have hc := hb; try simp only [go_sem] at hc; simp only [go_sem, *])) | refine Qh rfl ?_ | refine Qd rfl (by kernel_rfl) ?_ | (refine Qc rfl rfl ?_ ?_ <;> (intro hb; have hc := hb; try simp only [go_sem] at hc)) | refine q6 rfl ?_ | (refine Qb ?_ ?_; focus kernel_rfl) | (refine w5 [0] (st) ?_; simp only [go_sem, *]) | ((with_reducible apply And.intro); focus omega) | (refine z8 hK ?_; clear hK; simp only [go_sem, *]) | simp only [z7, z6, go_sem, *])
 all_goals try contradiction
 refine K1 rfl (n) (fun i (d' : Dice) (outs : List Str) => b8 most (n - i) d' outs = T ∧ d'.list.length ≤ 4294967296 ∧ outs.length = i ∧ ∀ s, s ∈ outs → X7 most s) 66 (fun i d' outs => [(8, iV ((n - i : Nat) : Int)), (7, .own 1 1 0 i), (0, .ptr 0 0), (2, iV most)]) (fun i d' outs => [w9 d', .row 1 (outs.map sV)]) [some 0, none] [] (dd) ([]) (by exact ⟨hT3, hdl, rfl, fun s hs => by cases hs⟩) ?_; intro i d' outs hi hP
 clear hT3 hdl st
 obtain ⟨hP, hdl, hlen, hok⟩ := hP
 by_cases hi2 : i < n
 ·rw [show n - i = (n - (i + 1)) + 1 by omega, zFt] at hP
  have sN := zCd d' most hdl h1
  have hN := zAE h1.1 (d := d')
  obtain ⟨x, d1, hx⟩ : ∃ x d1, j1 d' most = (x, d1) := ⟨_, _, rfl⟩
  rw [hx] at sN hN hP
  have hA := zAp hok (p := (x, d1)) ⟨hN.1, hN.2.1⟩
  simp only at sN hN hA
  have hd1 : d1.list.length ≤ 4294967296 := by rw [hN.2.2]; exact hdl
  have hxl : x.length ≤ 6 := hN.1.len
  have hw2 : IntKind.i64.wrap (((n - i : Nat) : Int) - 1) = ((n - (i + 1) : Nat) : Int) := by rw [wrap_i64 (by omega) (by omega)]; omega
  have hj : (0 : Int) < ((n - i : Nat) : Int) := by omega
  obtain ⟨y, d9, hq⟩ : ∃ y d9, c5 outs (x, d1) = (y, d9) := ⟨_, _, rfl⟩
  rw [hq] at hP hA
  have hnext : b8 most (n - (i + 1)) d9 (outs ++ [y]) = T ∧ d9.list.length ≤ 4294967296 ∧ (outs ++ [y]).length = i + 1 ∧ ∀ s, s ∈ outs ++ [y] → X7 most s :=
   ⟨hP, by rw [hA.2]; exact hd1, by simp [hlen], fun s hs => by
    rcases List.mem_append.1 hs with hs | hs
    ·exact hok s hs
    ·rw [List.mem_singleton.1 hs]; exact hA.1⟩
  clear hP hA hN hx
  by_cases h0 : 0 < outs.length
  ·have so := F9 d1 3 hd1 (by omega)
   have hd2 : (v6 3 d1).list.length ≤ 4294967296 := by unfold v6; rw [r5]; exact hd1
   unfold c5 at hq
   rw [if_pos h0] at hq
   have hq : E6 outs (x, d1) (Q6 3 d1) (v6 3 d1) = (y, d9) := hq
   have h0i : (0 : Int) < (i : Int) := by omega
   generalize v6 3 d1 = d2 at *
   generalize Q6 3 d1 = t at *
   cases t
   ·have hq : (x, d2) = (y, d9) := hq
    obtain ⟨e1, e2⟩ := Prod.mk.inj hq
    clear hq
    subst e1 e2
    clear hok
    repeat' (first | (refine Qr rfl ?_; try intro _ hK; try simp only [go_sem, *]) | (refine Qi rfl rfl rfl rfl ?_ ?_ <;> (intro hb; (try intro _ hK); have hc := hb; try simp only [go_sem] at hc; simp only [go_sem, *])) | refine Qh rfl ?_ | refine Qd rfl (by kernel_rfl) ?_ | (refine Qc rfl rfl ?_ ?_ <;> (intro hb; have hc := hb; try simp only [go_sem] at hc)) | refine q6 rfl ?_ | (refine Qb ?_ ?_; focus kernel_rfl) | (refine u9 [0] [] (sN) (by simp) ?_ ?_ (by simp) (.inl rfl) ?_ ?_ ?_; (iterate 2 (focus (simp only [go_sem, *]; done))); (iterate 2 (focus (first | (simp; done) | (simp [go_sem]; done)))); simp only [go_sem, *]) | (refine u9 [0] [] (so) (by simp) ?_ ?_ (by simp) (.inl rfl) ?_ ?_ ?_; (iterate 2 (focus (simp only [go_sem, *]; done))); (iterate 2 (focus (first | (simp; done) | (simp [go_sem]; done)))); simp only [go_sem, *]) | ((with_reducible apply And.intro); focus omega) | (refine z8 hK ?_; clear hK; simp only [go_sem, *]) | simp only [z7, z6, go_sem, *])
    all_goals first | contradiction | omega | skip
    exact Q4 (i' := i + 1) [some 0, some 3] [] (d2) (outs ++ [x]) (by exact hnext)
   ·have hq : U0 (O5 outs d2) (toD ((outs.length : Int) - 1) d2) = (y, d9) := hq
    have hpk0 : ∀ e : Int, O5 outs d2 = outs.getD (toN ((outs.length : Int) - 1) d2).toNat default := fun _ => rfl
    rw [hlen] at hq hpk0
    have st := X0 d2 ((i : Int) - 1) hd2 (by omega)
    have hle := f0 (n := (i : Int) - 1) (by omega) d2
    have hd3 : (toD ((i : Int) - 1) d2).list.length ≤ 4294967296 := by rw [r5]; exact hd2
    obtain ⟨k, hk0⟩ : ∃ k : Nat, toN ((i : Int) - 1) d2 = k := ⟨_, (Int.toNat_of_nonneg hle.1).symm⟩
    have hpk : O5 outs d2 = outs.getD k default := by rw [hpk0 0, hk0, Int.toNat_natCast]
    rw [hk0] at st hle
    rw [hpk] at hq
    have hkl : k < outs.length := by omega
    have hkli : k < i := by omega
    have hz := (hok _ (l4 hkl)).1
    have hw : IntKind.i64.wrap ((i : Int) - 1) = (i : Int) - 1 := wrap_i64 (by omega) (by omega)
    generalize toD ((i : Int) - 1) d2 = d3 at *
    have hz1 : 0 < (outs.getD k default).length := hz.ne
    have hz6 : (outs.getD k default).length ≤ 6 := hz.len
    clear hk0 hle hpk hpk0 hok hz
    generalize hzz : outs.getD k default = z at *
    by_cases hv : 97 ≤ (z.getD 0 0).toNat ∧ 1 < z.length
    ·have s2 := F9 d3 2 hd3 (by omega)
     have hd4 : (v6 2 d3).list.length ≤ 4294967296 := by unfold v6; rw [r5]; exact hd3
     unfold U0 at hq
     rw [if_pos hv] at hq
     generalize v6 2 d3 = d4 at *
     generalize Q6 2 d3 = t2 at *
     obtain ⟨hv1, hv2⟩ := hv
     cases t2
     ·have hq : (z, d4) = (y, d9) := hq
      obtain ⟨e1, e2⟩ := Prod.mk.inj hq
      clear hq
      subst e1 e2
      repeat' (first | (refine Qr rfl ?_; try intro _ hK; try simp only [go_sem, *]) | (refine Qi rfl rfl rfl rfl ?_ ?_ <;> (intro hb; (try intro _ hK); have hc := hb; try simp only [go_sem] at hc; simp only [go_sem, *])) | refine Qh rfl ?_ | refine Qd rfl (by kernel_rfl) ?_ | (refine Qc rfl rfl ?_ ?_ <;> (intro hb; have hc := hb; try simp only [go_sem] at hc)) | refine q6 rfl ?_ | (refine Qb ?_ ?_; focus kernel_rfl) | (refine u9 [0] [] (sN) (by simp) ?_ ?_ (by simp) (.inl rfl) ?_ ?_ ?_; (iterate 2 (focus (simp only [go_sem, *]; done))); (iterate 2 (focus (first | (simp; done) | (simp [go_sem]; done)))); simp only [go_sem, *]) | (refine u9 [0] [] (so) (by simp) ?_ ?_ (by simp) (.inl rfl) ?_ ?_ ?_; (iterate 2 (focus (simp only [go_sem, *]; done))); (iterate 2 (focus (first | (simp; done) | (simp [go_sem]; done)))); simp only [go_sem, *]) | (refine u9 [0] [] (s2) (by simp) ?_ ?_ (by simp) (.inl rfl) ?_ ?_ ?_; (iterate 2 (focus (simp only [go_sem, *]; done))); (iterate 2 (focus (first | (simp; done) | (simp [go_sem]; done)))); simp only [go_sem, *]) | (refine u9 [0] [] (st) (by simp) ?_ ?_ (by simp) (.inl rfl) ?_ ?_ ?_; (iterate 2 (focus (simp only [go_sem, *]; done))); (iterate 2 (focus (first | (simp; done) | (simp [go_sem]; done)))); simp only [go_sem, *]) | ((with_reducible apply And.intro); focus omega) | (refine z8 hK ?_; clear hK; simp only [go_sem, *]) | simp only [z7, z6, go_sem, *])
      all_goals first | contradiction | omega | skip
      exact Q4 (i' := i + 1) [some 0, some 3] [] (d4) (outs ++ [z]) (by exact hnext)
     ·have hq : (Z8 z (toN ((z.length : Int) - 1) d4).toNat, toD ((z.length : Int) - 1) d4) = (y, d9) := hq
      have s5 := X0 d4 ((z.length : Int) - 1) hd4 (by omega)
      have hle := f0 (n := (z.length : Int) - 1) (by omega) d4
      obtain ⟨m, hm0⟩ : ∃ m : Nat, toN ((z.length : Int) - 1) d4 = m := ⟨_, (Int.toNat_of_nonneg hle.1).symm⟩
      rw [hm0] at s5 hle hq
      rw [Int.toNat_natCast] at hq
      have hml : m < z.length := by omega
      have hwz : IntKind.i64.wrap ((z.length : Int) - 1) = (z.length : Int) - 1 := wrap_i64 (by omega) (by omega)
      have hwm : IntKind.i64.wrap ((m : Int) + 1) = ((m + 1 : Nat) : Int) := r6 (by omega)
      generalize toD ((z.length : Int) - 1) d4 = d5 at *
      obtain ⟨e1, e2⟩ := Prod.mk.inj hq
      clear hq hm0 hle
      subst e1 e2
      have hcut : List.take m z ++ List.drop (m + 1) z = Z8 z m := rfl
      repeat' (first | (refine Qr rfl ?_; try intro _ hK; try simp only [go_sem, *]) | (refine Qi rfl rfl rfl rfl ?_ ?_ <;> (intro hb; (try intro _ hK); have hc := hb; try simp only [go_sem] at hc; simp only [go_sem, *])) | refine Qh rfl ?_ | refine Qd rfl (by kernel_rfl) ?_ | (refine Qc rfl rfl ?_ ?_ <;> (intro hb; have hc := hb; try simp only [go_sem] at hc)) | refine q6 rfl ?_ | (refine Qb ?_ ?_; focus kernel_rfl) | (refine u9 [0] [] (sN) (by simp) ?_ ?_ (by simp) (.inl rfl) ?_ ?_ ?_; (iterate 2 (focus (simp only [go_sem, *]; done))); (iterate 2 (focus (first | (simp; done) | (simp [go_sem]; done)))); simp only [go_sem, *]) | (refine u9 [0] [] (so) (by simp) ?_ ?_ (by simp) (.inl rfl) ?_ ?_ ?_; (iterate 2 (focus (simp only [go_sem, *]; done))); (iterate 2 (focus (first | (simp; done) | (simp [go_sem]; done)))); simp only [go_sem, *]) | (refine u9 [0] [] (s2) (by simp) ?_ ?_ (by simp) (.inl rfl) ?_ ?_ ?_; (iterate 2 (focus (simp only [go_sem, *]; done))); (iterate 2 (focus (first | (simp; done) | (simp [go_sem]; done)))); simp only [go_sem, *]) | (refine u9 [0] [] (st) (by simp) ?_ ?_ (by simp) (.inl rfl) ?_ ?_ ?_; (iterate 2 (focus (simp only [go_sem, *]; done))); (iterate 2 (focus (first | (simp; done) | (simp [go_sem]; done)))); simp only [go_sem, *]) | (refine u9 [0] [] (s5) (by simp) ?_ ?_ (by simp) (.inl rfl) ?_ ?_ ?_; (iterate 2 (focus (simp only [go_sem, *]; done))); (iterate 2 (focus (first | (simp; done) | (simp [go_sem]; done)))); simp only [go_sem, *]) | ((with_reducible apply And.intro); focus omega) | (refine z8 hK ?_; clear hK; simp only [go_sem, *]) | simp only [z7, z6, go_sem, *])
      all_goals first | contradiction | omega | skip
      exact Q4 (i' := i + 1) [some 0, some 3] [] (d5) (outs ++ [Z8 z m]) (by exact hnext)
    ·unfold U0 at hq
     rw [if_neg hv] at hq
     obtain ⟨e1, e2⟩ := Prod.mk.inj hq
     clear hq
     subst e1 e2
     by_cases hv1 : 97 ≤ (z.getD 0 0).toNat
     ·have hv2 : ¬ 1 < z.length := fun h => hv ⟨hv1, h⟩
      clear hv
      repeat' (first | (refine Qr rfl ?_; try intro _ hK; try simp only [go_sem, *]) | (refine Qi rfl rfl rfl rfl ?_ ?_ <;> (intro hb; (try intro _ hK); have hc := hb; try simp only [go_sem] at hc; simp only [go_sem, *])) | refine Qh rfl ?_ | refine Qd rfl (by kernel_rfl) ?_ | (refine Qc rfl rfl ?_ ?_ <;> (intro hb; have hc := hb; try simp only [go_sem] at hc)) | refine q6 rfl ?_ | (refine Qb ?_ ?_; focus kernel_rfl) | (refine u9 [0] [] (sN) (by simp) ?_ ?_ (by simp) (.inl rfl) ?_ ?_ ?_; (iterate 2 (focus (simp only [go_sem, *]; done))); (iterate 2 (focus (first | (simp; done) | (simp [go_sem]; done)))); simp only [go_sem, *]) | (refine u9 [0] [] (so) (by simp) ?_ ?_ (by simp) (.inl rfl) ?_ ?_ ?_; (iterate 2 (focus (simp only [go_sem, *]; done))); (iterate 2 (focus (first | (simp; done) | (simp [go_sem]; done)))); simp only [go_sem, *]) | (refine u9 [0] [] (st) (by simp) ?_ ?_ (by simp) (.inl rfl) ?_ ?_ ?_; (iterate 2 (focus (simp only [go_sem, *]; done))); (iterate 2 (focus (first | (simp; done) | (simp [go_sem]; done)))); simp only [go_sem, *]) | ((with_reducible apply And.intro); focus omega) | (refine z8 hK ?_; clear hK; simp only [go_sem, *]) | simp only [z7, z6, go_sem, *])
      all_goals first | contradiction | omega | skip
      exact Q4 (i' := i + 1) [some 0, some 3] [] (d3) (outs ++ [z]) (by exact hnext)
     ·clear hv
      repeat' (first | (refine Qr rfl ?_; try intro _ hK; try simp only [go_sem, *]) | (refine Qi rfl rfl rfl rfl ?_ ?_ <;> (intro hb; (try intro _ hK); have hc := hb; try simp only [go_sem] at hc; simp only [go_sem, *])) | refine Qh rfl ?_ | refine Qd rfl (by kernel_rfl) ?_ | (refine Qc rfl rfl ?_ ?_ <;> (intro hb; have hc := hb; try simp only [go_sem] at hc)) | refine q6 rfl ?_ | (refine Qb ?_ ?_; focus kernel_rfl) | (refine u9 [0] [] (sN) (by simp) ?_ ?_ (by simp) (.inl rfl) ?_ ?_ ?_; (iterate 2 (focus (simp only [go_sem, *]; done))); (iterate 2 (focus (first | (simp; done) | (simp [go_sem]; done)))); simp only [go_sem, *]) | (refine u9 [0] [] (so) (by simp) ?_ ?_ (by simp) (.inl rfl) ?_ ?_ ?_; (iterate 2 (focus (simp only [go_sem, *]; done))); (iterate 2 (focus (first | (simp; done) | (simp [go_sem]; done)))); simp only [go_sem, *]) | (refine u9 [0] [] (st) (by simp) ?_ ?_ (by simp) (.inl rfl) ?_ ?_ ?_; (iterate 2 (focus (simp only [go_sem, *]; done))); (iterate 2 (focus (first | (simp; done) | (simp [go_sem]; done)))); simp only [go_sem, *]) | ((with_reducible apply And.intro); focus omega) | (refine z8 hK ?_; clear hK; simp only [go_sem, *]) | simp only [z7, z6, go_sem, *])
      all_goals first | contradiction | omega | skip
      exact Q4 (i' := i + 1) [some 0, some 3] [] (d3) (outs ++ [z]) (by exact hnext)
  ·unfold c5 at hq
   rw [if_neg h0] at hq
   obtain ⟨e1, e2⟩ := Prod.mk.inj hq
   clear hq
   subst e1 e2
   have h0i : ¬ (0 : Int) < (i : Int) := by omega
   clear hok
   repeat' (first | (refine Qr rfl ?_; try intro _ hK; try simp only [go_sem, *]) | (refine Qi rfl rfl rfl rfl ?_ ?_ <;> (intro hb; (try intro _ hK); have hc := hb; try simp only [go_sem] at hc; simp only [go_sem, *])) | refine Qh rfl ?_ | refine Qd rfl (by kernel_rfl) ?_ | (refine Qc rfl rfl ?_ ?_ <;> (intro hb; have hc := hb; try simp only [go_sem] at hc)) | refine q6 rfl ?_ | (refine Qb ?_ ?_; focus kernel_rfl) | (refine w5 [0] (sN) ?_; simp only [go_sem, *]) | ((with_reducible apply And.intro); focus omega) | (refine z8 hK ?_; clear hK; simp only [go_sem, *]) | simp only [z7, z6, go_sem, *])
   all_goals first | contradiction | omega | skip
   exact Q4 (i' := i + 1) [some 0, some 3] [] (d1) (outs ++ [x]) (by exact hnext)
 ·rw [show n - i = 0 by omega] at hP
  have hP : (outs, d') = T := hP
  subst hP
  have hj : ¬ (0 : Int) < ((n - i : Nat) : Int) := by omega
  clear hok
  repeat' (first | (refine Qr rfl ?_; try intro _ hK; try simp only [go_sem, *]) | (refine Qi rfl rfl rfl rfl ?_ ?_ <;> (intro hb; (try intro _ hK); have hc := hb; try simp only [go_sem] at hc; simp only [go_sem, *])) | refine Qh rfl ?_ | refine Qd rfl (by kernel_rfl) ?_ | (refine Qc rfl rfl ?_ ?_ <;> (intro hb; have hc := hb; try simp only [go_sem] at hc)) | refine q6 rfl ?_ | (refine Qb ?_ ?_; focus kernel_rfl) | ((with_reducible apply And.intro); focus omega) | (refine z8 hK ?_; clear hK; simp only [go_sem, *]) | simp only [z7, z6, go_sem, *])
  all_goals first | contradiction | omega | skip
  refine ⟨[_], [some 0, some 1], [], ⟨rfl, trivial⟩, ?_⟩
  simp only [go_sem, *]
end Go.Abs

namespace Go.Abs
open Go Go.Proofs Tryz
attribute [local irreducible] y3 Hold y7
theorem zGX (n : Nat) (d : Dice) (out : List Rule) : c0 (n + 1) d out = c0 n (x9 wordsT (x9 wordsF d)) (out ++ [⟨n0 wordsF d, n0 wordsT (x9 wordsF d)⟩]) := rfl
theorem zHI (d : Dice) (many : Int) (h : d.list.length ≤ 4294967296) (hm : 0 ≤ many ∧ many ≤ 1000) :
  zLn prog 35 [.ptr 0 0, iV many] [w9 d] (.own 1 2 0 (V7 d many).1.length) [w9 (V7 d many).2, .row 2 ((V7 d many).1.map Rule.enc)] := by
 have st := X0 d many h (by omega)
 have hle := f0 hm.1 d
 have hT : V7 d many = c0 (toN many d).toNat (toD many d) [] := rfl
 rw [hT]
 clear hT
 obtain ⟨n, hn⟩ : ∃ n : Nat, toN many d = n := ⟨_, (Int.toNat_of_nonneg hle.1).symm⟩
 rw [hn] at st hle ⊢
 rw [Int.toNat_natCast]
 have hn6 : n ≤ 1000 := by omega
 generalize hT3 : c0 n (toD many d) [] = T at *
 have hdl : (toD many d).list.length ≤ 4294967296 := by rw [r5]; exact h
 generalize toD many d = dd at *
 clear hn hle h hm
 refine q7 func35 rfl (fun E hE => ?_); simp only [go_sem, ntmps35]
 repeat' (first | (refine Qr rfl ?_; try intro _ hK; try simp only [go_sem, *]) | refine Qh rfl ?_ | (refine Qc rfl rfl ?_ ?_ <;> (intro hb; have hc := hb; try simp only [go_sem] at hc)) | refine q6 rfl ?_ | (refine w5 [0] (st) ?_; simp only [go_sem, *]) | ((with_reducible apply And.intro); focus omega) | (refine z8 hK ?_; clear hK; simp only [go_sem, *]) | simp only [z7, z6, go_sem, *])
 all_goals try contradiction
 refine K1 rfl (n) (fun i (d' : Dice) (outs : List Rule) => c0 (n - i) d' outs = T ∧ d'.list.length ≤ 4294967296 ∧ outs.length = i) 27 (fun i d' outs => [(6, iV ((n - i : Nat) : Int)), (5, .own 1 2 0 i), (0, .ptr 0 0)]) (fun i d' outs => [w9 d', .row 2 (outs.map Rule.enc)]) [some 0, none] [] (dd) ([]) (by exact ⟨hT3, hdl, rfl⟩) ?_; intro i d' outs hi hP
 clear hT3 hdl st
 obtain ⟨hP, hdl, hlen⟩ := hP
 by_cases hi2 : i < n
 ·rw [show n - i = (n - (i + 1)) + 1 by omega, zGX] at hP
  have s1 := E0 d' wordsF hdl (by decide) (by decide)
  have hd1 : (x9 wordsF d').list.length ≤ 4294967296 := by unfold x9; rw [r5]; exact hdl
  have s2 := E0 (x9 wordsF d') wordsT hd1 (by decide) (by decide)
  have hd2 : (x9 wordsT (x9 wordsF d')).list.length ≤ 4294967296 := by unfold x9; rw [r5]; exact hd1
  generalize x9 wordsF d' = d1 at *
  generalize x9 wordsT d1 = d2 at *
  generalize n0 wordsF d' = u at *
  generalize n0 wordsT d1 = v at *
  have hw2 : IntKind.i64.wrap (((n - i : Nat) : Int) - 1) = ((n - (i + 1) : Nat) : Int) := by rw [wrap_i64 (by omega) (by omega)]; omega
  have hj : (0 : Int) < ((n - i : Nat) : Int) := by omega
  have hnext : c0 (n - (i + 1)) d2 (outs ++ [⟨u, v⟩]) = T ∧ d2.list.length ≤ 4294967296 ∧ (outs ++ [(⟨u, v⟩ : Rule)]).length = i + 1 := ⟨hP, hd2, by simp [hlen]⟩
  have hw0 : y4 wordsF = .list [sV [101], sV [121], sV [115, 104], sV [97], sV [110, 110], sV [116, 104], sV [109]] := rfl
  have hw1 : y4 wordsT = .list [sV [], sV [105], sV [115], sV [116], sV [97, 101], sV [106], sV [110]] := rfl
  rw [hw0] at s1
  rw [hw1] at s2
  clear hw0 hw1 hP
  repeat' (first | (refine Qr rfl ?_; try intro _ hK; try simp only [go_sem, *]) | refine Qh rfl ?_ | (refine Qc rfl rfl ?_ ?_ <;> (intro hb; have hc := hb; try simp only [go_sem] at hc)) | refine q6 rfl ?_ | ((with_reducible apply And.intro); focus omega) | (refine z8 hK ?_; clear hK; simp only [go_sem, *]) | simp only [z7, z6, go_sem, *])
  refine c7 [0] [2] s1 rfl (by simp only [go_sem]) (by simp) ?_ ?_ (by simp [go_sem]) (by simp [go_sem]) ?_
  ·simp only [go_sem, *]
  ·simp only [go_sem, *]
  simp only [go_sem, w8, *]
  repeat' (first | (refine Qr rfl ?_; try intro _ hK; try simp only [go_sem, *]) | refine Qh rfl ?_ | (refine Qc rfl rfl ?_ ?_ <;> (intro hb; have hc := hb; try simp only [go_sem] at hc)) | refine q6 rfl ?_ | ((with_reducible apply And.intro); focus omega) | (refine z8 hK ?_; clear hK; simp only [go_sem, *]) | simp only [z7, z6, go_sem, *])
  refine c7 [0] [3] s2 rfl (by simp only [go_sem]) (by simp) ?_ ?_ (by simp [go_sem]) (by simp [go_sem]) ?_
  ·simp only [go_sem, *]
  ·simp only [go_sem, *]
  simp only [go_sem, w8, *]
  repeat' (first | (refine Qr rfl ?_; try intro _ hK; try simp only [go_sem, *]) | refine Qh rfl ?_ | (refine Qc rfl rfl ?_ ?_ <;> (intro hb; have hc := hb; try simp only [go_sem] at hc)) | refine q6 rfl ?_ | ((with_reducible apply And.intro); focus omega) | (refine z8 hK ?_; clear hK; simp only [go_sem, *]) | simp only [z7, z6, go_sem, *])
  all_goals first | contradiction | omega | skip
  exact Q4 (i' := i + 1) [some 0, some 6] [] (d2) (outs ++ [(⟨u, v⟩ : Rule)]) (by exact hnext)
 ·rw [show n - i = 0 by omega] at hP
  have hP : (outs, d') = T := hP
  subst hP
  have hj : ¬ (0 : Int) < ((n - i : Nat) : Int) := by omega
  repeat' (first | (refine Qr rfl ?_; try intro _ hK; try simp only [go_sem, *]) | refine Qh rfl ?_ | (refine Qc rfl rfl ?_ ?_ <;> (intro hb; have hc := hb; try simp only [go_sem] at hc)) | refine q6 rfl ?_ | ((with_reducible apply And.intro); focus omega) | (refine z8 hK ?_; clear hK; simp only [go_sem, *]) | simp only [z7, z6, go_sem, *])
  all_goals first | contradiction | omega | skip
  refine ⟨[_], [some 0, some 1], [], ⟨rfl, trivial⟩, ?_⟩
  simp only [go_sem, *]
end Go.Abs

namespace Go.Abs
open Go
theorem M9 {α : Type} (cmp : α → α → Int) : ∀ (xs ys : List α) (b : Option α), y9 cmp b (xs ++ ys) = y9 cmp (y9 cmp b xs) ys
 | [], ys, b => by rw [List.nil_append]; cases b <;> rfl
 | x :: r, ys, none => by
  rw [List.cons_append, y9, y9]; exact M9 cmp r ys _
 | x :: r, ys, some y => by
  rw [List.cons_append, y9, y9]
  split
  ·exact M9 cmp r ys _
  ·exact M9 cmp r ys _
theorem zBI {α : Type} (cmp : α → α → Int) (x : α) : ∀ b : Option α, y9 cmp b [x] = match b with
  | none => some x
  | some y => if cmp x y < 0 then some x else some y
 | none => rfl
 | some y => by
  rw [y9]
  by_cases h : cmp x y < 0
  ·simp only [if_pos h, y9]
  ·simp only [if_neg h, y9]
def b9 (l : List Rule) (to : Str) (n : Nat) (pre : List Str) (S : List Str × Option (List Str)) (s : Str) : List Str × Option (List Str) :=
 if s ∈ S.1 then S else (S.1 ++ [s], y9 zLp S.2 (p5 l to n s pre))
theorem B0 (l : List Rule) (to : Str) (n : Nat) (pre : List Str) : ∀ (L m m' : List Str) (B : Option (List Str)), (∀ x, x ∈ m ↔ x ∈ m') →
  (L.foldl (b9 l to n pre) (m, B)).2 = y9 zLp B ((Y2 m' L).flatMap fun s => p5 l to n s pre)
 | [], m, m', B, _ => by
  simp only [List.foldl_nil, Y2, List.flatMap_nil]
  cases B <;> rfl
 | x :: r, m, m', B, h => by
  rw [List.foldl_cons, Y2]
  by_cases hx : x ∈ m'
  ·rw [if_pos hx, b9, if_pos ((h x).2 hx)]
   exact B0 l to n pre r m m' B h
  ·rw [if_neg hx, b9, if_neg (fun k => hx ((h x).1 k)), List.flatMap_cons, M9]
   exact B0 l to n pre r _ _ _ (fun y => by simp only [List.mem_append, List.mem_cons, List.not_mem_nil, or_false, h y]; exact or_comm)
theorem zEn (l : List Rule) (to : Str) (n : Nat) (now : Str) (pre : List Str) (B : Option (List Str)) :
  ((p4 l now).foldl (b9 l to n (pre ++ [now])) ([], B)).2 = y9 zLp B (p5 l to (n + 1) now pre) := by
 rw [B0 l to n (pre ++ [now]) (p4 l now) [] [] B (fun _ => Iff.rfl), p5, H2]
def zL9 (m : List Str) (x : Str) : List Str := if x ∈ m then m else m ++ [x]
theorem zFo {m : List Str} {x y : Str} : y ∈ zL9 m x ↔ y ∈ m ∨ y = x := by
 unfold zL9
 split
 ·rename_i h
  constructor
  ·exact .inl
  ·rintro (h2 | rfl)
   ·exact h2
   ·exact h
 ·rw [List.mem_append, List.mem_singleton]
def zL5 (k : Str) (m : List Str) (now : Str) : List Str := if now.length < k.length then zL9 m now else m
def goC (k : Str) : Nat → List Str → Str → Nat → List Str
 | 0, m, now, _ => zL5 k m now
 | n + 1, m, now, at_ => (List.range' at_ (k.length - at_)).foldl (fun m i => goC k n m (now ++ [k.getD i 0]) (i + 1)) (zL5 k m now)
def Z0 (k : Str) (n : Nat) (m : List Str) (now : Str) (i : Nat) : List Str := (List.range' i (k.length - i)).foldl (fun m i => goC k n m (now ++ [k.getD i 0]) (i + 1)) m
theorem B6 (k : Str) (n : Nat) (m : List Str) (now : Str) (i : Nat) : goC k (n + 1) m now i = Z0 k n (zL5 k m now) now i := rfl
theorem H6 {k : Str} {n : Nat} {m : List Str} {now : Str} {i : Nat} (h : k.length ≤ i) : Z0 k n m now i = m := by
 unfold Z0
 rw [show k.length - i = 0 by omega]; rfl
theorem B5 {k : Str} {n : Nat} {m : List Str} {now : Str} {i : Nat} (h : i < k.length) : Z0 k n m now i = Z0 k n (goC k n m (now ++ [k.getD i 0]) (i + 1)) now (i + 1) := by
 unfold Z0
 rw [show k.length - i = (k.length - (i + 1)) + 1 by omega, List.range'_succ, List.foldl_cons]
theorem mem_metC {k : Str} {m : List Str} {now x : Str} : x ∈ zL5 k m now ↔ x ∈ m ∨ (x = now ∧ x.length < k.length) := by
 unfold zL5
 split
 ·rename_i h
  rw [zFo]
  constructor
  ·rintro (h1 | rfl)
   ·exact .inl h1
   ·exact .inr ⟨rfl, h⟩
  ·rintro (h1 | ⟨rfl, _⟩)
   ·exact .inl h1
   ·exact .inr rfl
 ·rename_i h
  constructor
  ·exact .inl
  ·rintro (h1 | ⟨rfl, h1⟩)
   ·exact h1
   ·exact absurd h1 h
theorem zAC {k : Str} : ∀ {n : Nat} {m : List Str} {now : Str} {i : Nat} {x : Str}, k.length - i ≤ n → (x ∈ goC k n m now i ↔ x ∈ m ∨ ∃ t : Str, t.Sublist (k.drop i) ∧ x = now ++ t ∧ x.length < k.length)
 | 0, m, now, i, x, h => by
  rw [goC, mem_metC, List.drop_eq_nil_of_le (by omega)]
  constructor
  ·rintro (h1 | ⟨rfl, h1⟩)
   ·exact .inl h1
   ·exact .inr ⟨[], List.Sublist.refl _, by simp, h1⟩
  ·rintro (h1 | ⟨t, ht, rfl, h1⟩)
   ·exact .inl h1
   ·rw [List.sublist_nil.1 ht] at h1 ⊢
    exact .inr ⟨by simp, h1⟩
 | n + 1, m, now, i, x, h => by
  have key : ∀ (d i : Nat) (m : List Str), k.length - i = d → d ≤ n + 1 → (x ∈ Z0 k n m now i ↔ x ∈ m ∨ ∃ t : Str, t ≠ [] ∧ t.Sublist (k.drop i) ∧ x = now ++ t ∧ x.length < k.length) := by
   intro d
   induction d with
   | zero =>
    intro i m hi _
    rw [H6 (by omega), List.drop_eq_nil_of_le (by omega)]
    constructor
    ·exact .inl
    ·rintro (h1 | ⟨t, hn, ht, _⟩)
     ·exact h1
     ·exact absurd (List.sublist_nil.1 ht) hn
   | succ d ih =>
    intro i m hi hd
    have hlt : i < k.length := by omega
    rw [B5 hlt, ih (i + 1) _ (by omega) (by omega), zAC (by omega)]
    have hdr : k.drop i = k.getD i 0 :: k.drop (i + 1) := by
     rw [List.drop_eq_getElem_cons hlt]; simp [List.getD, hlt]
    rw [hdr]
    constructor
    ·rintro ((h1 | ⟨t, ht, rfl, h1⟩) | ⟨t, hn, ht, rfl, h1⟩)
     ·exact .inl h1
     ·exact .inr ⟨k.getD i 0 :: t, by simp, ht.cons_cons _, by simp, h1⟩
     ·exact .inr ⟨t, hn, ht.cons _, rfl, h1⟩
    ·rintro (h1 | ⟨t, hn, ht, rfl, h1⟩)
     ·exact .inl (.inl h1)
     ·cases ht with
      | cons _ ht => exact .inr ⟨t, hn, ht, rfl, h1⟩
      | cons_cons _ ht => exact .inl (.inr ⟨_, ht, by simp, h1⟩)
  rw [B6, key _ i _ rfl (by omega), mem_metC]
  constructor
  ·rintro ((h1 | ⟨rfl, h1⟩) | ⟨t, _, h2⟩)
   ·exact .inl h1
   ·exact .inr ⟨[], List.nil_sublist _, by simp, h1⟩
   ·exact .inr ⟨t, h2⟩
  ·rintro (h1 | ⟨t, ht, rfl, h1⟩)
   ·exact .inl (.inl h1)
   ·by_cases hn : t = []
    ·subst hn
     exact .inl (.inr ⟨by simp, h1⟩)
    ·exact .inr ⟨t, hn, ht, rfl, h1⟩
def W3 (k : Str) : List Str := goC k k.length [] (k.take 1) 1
theorem zB4 {k x : Str} : x ∈ W3 k ↔ Q9 k x := by
 unfold W3 Q9
 rw [zAC (by omega)]
 simp
end Go.Abs

namespace Go.Abs
open Go Go.Proofs Tryz
attribute [local irreducible] y3 Hold y7
theorem zBm : Maps.Keyed prog 90 := Maps.Keyed.of_law (WideMaps.string_law (by kernel_rfl))
abbrev zLv (s : Str) : Value := .string ⟨s.toArray⟩
theorem H8 (s : Str) (hs : s.length ≤ 1000) : zMG prog 90 (zLv s) := by
 have hu : prog.underlying 90 = some .string := by kernel_rfl
 unfold zMG keyOf
 rw [hu]
 simp [mapKey, hu, maxLen]
 omega
theorem sKey_inj {a b : Str} : zLv a = zLv b ↔ a = b := by simp [zLv]
theorem B7 (h : Str) : ∀ hs : List Str, zL2 (zLv h) (hs.map zLv) = if h ∈ hs then some (hs.idxOf h) else none
 | [] => by simp [zL2]
 | x :: r => by
  have ih := B7 h r
  rw [List.map_cons]
  unfold zL2
  by_cases e : x = h
  ·subst e; simp
  ·have e' : ¬ zLv x = zLv h := fun k => e (sKey_inj.1 k)
   rw [if_neg e', ih]
   by_cases hm : h ∈ r
   ·rw [if_pos hm, if_pos (by simp [hm])]
    have hb : (x == h) = false := by simpa using e
    simp [List.idxOf_cons, hb]
   ·rw [if_neg hm, if_neg (by simp only [List.mem_cons, not_or]; exact ⟨fun k => e k.symm, hm⟩)]; rfl
theorem zFe (m : List Str) (s : Str) : Z3 (m.map zLv) (m.map fun _ => bV true) (zLv s) (bV false) = bV (decide (s ∈ m)) := by
 unfold Z3; rw [B7]
 by_cases hm : s ∈ m
 ·rw [if_pos hm]
  have hlt := List.idxOf_lt_length_of_mem hm
  simp [hlt, hm]
 ·rw [if_neg hm]; simp [hm]
theorem zGI (m : List Str) (s : Str) : zMZ (m.map zLv) (zLv s) = (zL9 m s).map zLv ∧ zMa (m.map zLv) (m.map fun _ => bV true) (zLv s) (bV true) = (zL9 m s).map fun _ => bV true := by
 unfold zMZ zMa zL9
 rw [B7]
 by_cases hm : s ∈ m
 ·rw [if_pos hm, if_pos hm]
  refine ⟨rfl, ?_⟩
  have hlt := List.idxOf_lt_length_of_mem hm
  apply List.ext_getElem (by simp)
  intro i h1 h2
  simp [List.getElem_set]
 ·rw [if_neg hm, if_neg hm]
  simp
theorem zB6 : zMN prog 155 = some (90, 4) := by kernel_rfl
theorem zB1 {m : List Str} {s : Str} {o : Nat} {H : Nat → AObj} {K : Cont} (hm : ∀ x, x ∈ m → x.length ≤ 1000) (hs : s.length ≤ 1000) (ho : H o = .mapo (m.map zLv) (m.map fun _ => bV true)) (hk : K (bV (decide (s ∈ m))) [o] []) : Y5 prog 155 (.mp o) (sV s) false H K := by
 have hz : zeroT prog 4 = some (.bool false) := by kernel_rfl
 unfold Y5
 rw [zB6]
 simp only [zMT, hz, ho]
 refine ⟨zBm, H8 s hs, by simp [Value.cells, Value.oneCell'], fun q hq => ?_, ?_⟩
 ·obtain ⟨k, hk, rfl⟩ := List.mem_map.1 hq; exact H8 k (hm k hk)
 ·have e : zAV (.bool false) = bV false := rfl
  rw [e, zFe]; simpa using hk
theorem zAf {m : List Str} {s : Str} {o : Nat} {H : Nat → AObj} {K : Cont} (hm : ∀ x, x ∈ m → x.length ≤ 1000) (hs : s.length ≤ 1000) (ho : H o = .mapo (m.map zLv) (m.map fun _ => bV true)) (hk : K (.tup []) [o] [(o, .mapo ((zL9 m s).map zLv) ((zL9 m s).map fun _ => bV true))]) : Q2 prog 155 (.mp o) (sV s) (bV true) H K := by
 unfold Q2
 rw [zB6]
 simp only [zMT, ho]
 obtain ⟨h1, h2⟩ := zGI m s
 refine ⟨zBm, H8 s hs, fun q hq => ?_, .raw _, rfl, ?_⟩
 ·obtain ⟨k, hk, rfl⟩ := List.mem_map.1 hq; exact H8 k (hm k hk)
 ·have e : zLo H 3 (bV true) = (bV true, []) := rfl
  rw [e, h1, h2]; simpa [w8] using hk
theorem zAU (l : List Str) (h1 : l.length ≤ 4294967296) : zLn prog 148 [y4 l] [] (.own 0 1 0 l.length) [.row 1 (l.map sV)] := by
 cases l with
 | nil =>
  refine zH0 (fun a c => ?_)
  refine q7 func148 rfl (fun E hE => ?_); simp only [go_sem, ntmps148]
  repeat' (first | (refine Qr rfl ?_; try intro _ hK; try simp only [go_sem, *]) | refine Qh rfl ?_ | (refine Qc rfl rfl ?_ ?_ <;> (intro hb; have hc := hb; try simp only [go_sem] at hc)) | refine q6 rfl ?_ | ((with_reducible apply And.intro); focus omega) | (refine z8 hK ?_; clear hK; simp only [go_sem, *]) | simp only [z7, z6, go_sem, *])
  ·refine ⟨[_], [none], [], ⟨rfl, trivial⟩, ?_⟩
   simp only [go_sem, *]
   simp
  ·refine ⟨[_], [some 1], [], ⟨rfl, trivial⟩, ?_⟩
   simp only [go_sem, *]
 | cons x r =>
  have h2 : r.length + 1 ≤ 4294967296 := by simpa using h1
  refine q7 func148 rfl (fun E hE => ?_); simp only [go_sem, ntmps148]
  repeat' (first | (refine Qr rfl ?_; try intro _ hK; try simp only [go_sem, *]) | refine Qh rfl ?_ | (refine Qc rfl rfl ?_ ?_ <;> (intro hb; have hc := hb; try simp only [go_sem] at hc)) | refine q6 rfl ?_ | ((with_reducible apply And.intro); focus omega) | (refine z8 hK ?_; clear hK; simp only [go_sem, *]) | simp only [z7, z6, go_sem, *])
  all_goals try contradiction
  refine ⟨fun y hy => ?_, fun y hy => ?_, by omega, by omega, ?_⟩
  ·obtain ⟨z, _, rfl⟩ := List.mem_map.1 hy
   simp [go_sem]
  ·obtain ⟨z, _, rfl⟩ := List.mem_map.1 hy
   simp [go_sem]
  ·repeat' (first | (refine Qr rfl ?_; try intro _ hK; try simp only [go_sem, *]) | refine Qh rfl ?_ | (refine Qc rfl rfl ?_ ?_ <;> (intro hb; have hc := hb; try simp only [go_sem] at hc)) | refine q6 rfl ?_ | ((with_reducible apply And.intro); focus omega) | (refine z8 hK ?_; clear hK; simp only [go_sem, *]) | simp only [z7, z6, go_sem, *])
   refine ⟨[_], [some 1], [], ⟨rfl, trivial⟩, ?_⟩
   simp only [go_sem, *]
end Go.Abs

namespace Go.Abs
open Go Go.Proofs Tryz
attribute [local irreducible] y3 Hold y7
noncomputable def zBG : Code := sub [0, 1, 0, 1, 1, 1] (X8 Tryz.f124)
noncomputable def j6 (fn : FuncId) : LoopK := ⟨fn, #[10], O9 zBG, N0 zBG, 23⟩
def r7 : Option (List Str) → AV
 | none => .raw (.slice none 0 0)
 | some c => y4 c
@[go_sem] theorem zJC : r7 none = .raw (.slice none 0 0) := rfl
@[go_sem] theorem zDR (c : List Str) : r7 (some c) = .list (c.map sV) := rfl
@[go_sem] theorem zIi (H : Nat → AObj) (m : List (Option Nat)) (ex : List Nat) (B : Option (List Str)) : XpF H m ex (r7 B) (r7 B) ↔ True := by cases B <;> simp [r7, XpF]
@[go_sem] theorem zLF (f : Nat → Nat) (B : Option (List Str)) : AV.ren f (r7 B) = r7 B := by cases B <;> simp [r7, AV.ren]
@[go_sem] theorem zJM (B : Option (List Str)) : (r7 B).cells = [r7 B] := by cases B <;> rfl
@[go_sem] theorem zKs (B : Option (List Str)) : (r7 B).one = true := by cases B <;> rfl
@[go_sem] theorem zJX (B : Option (List Str)) : (r7 B).flat = true := by cases B <;> rfl
@[go_sem] theorem zLV (B : Option (List Str)) : (r7 B).sized = true := by cases B <;> rfl
abbrev c8 : AV := fnV 126
abbrev zJN (c : List Str) : Prop := c.length ≤ 1000
theorem zIU (fn : FuncId) (c : List Str) : i4 prog [y4 c] [.loopo (j6 fn) [(3, .ptr 1 0), (6, .ptr 2 0), (7, .ptr 3 0)] (some none), .box [c8], .box [.raw (.slice none 0 0)], .box [bV false]] (bV true)
  [.loopo (j6 fn) [(3, .ptr 1 0), (6, .ptr 2 0), (7, .ptr 3 0)] (some none), .box [c8], .box [y4 c], .box [bV true]] := by
 refine S5 (L := j6 fn) (env := [(3, .ptr 1 0), (6, .ptr 2 0), (7, .ptr 3 0)]) (j := none) rfl rfl (fun E l hE => ?_)
 refine o8 rfl ?_
 simp only [j6, i9, go_sem]
 repeat' (first | (refine Qr (ops := _ :: _) rfl ?_; try intro _ hK; try simp only [go_sem, *]) | (refine Qi rfl rfl rfl rfl ?_ ?_ <;> (intro hb; (try intro _ hK); have hc := hb; try simp only [go_sem] at hc; simp only [go_sem, *])) | (refine Qb ?_ ?_; focus kernel_rfl) | ((with_reducible apply And.intro); focus omega) | (refine z8 hK ?_; clear hK; simp only [go_sem, *]) | simp only [z7, z6, go_sem, *])
 refine r4 ?_
 refine ⟨by simp only [go_sem], ?_⟩
 refine T6 (id := 1) rfl ?_
 refine Z5 rfl ?_
 refine o8 rfl ?_
 simp only [go_sem]
 repeat' (first | (refine Qr (ops := _ :: _) rfl ?_; try intro _ hK; try simp only [go_sem, *]) | (refine Qi rfl rfl rfl rfl ?_ ?_ <;> (intro hb; (try intro _ hK); have hc := hb; try simp only [go_sem] at hc; simp only [go_sem, *])) | (refine Qb ?_ ?_; focus kernel_rfl) | ((with_reducible apply And.intro); focus omega) | (refine z8 hK ?_; clear hK; simp only [go_sem, *]) | simp only [z7, z6, go_sem, *])
 refine r4 ?_
 refine V6 (t := true) rfl (by simp only [go_sem]) (fun _ => ?_) (fun h => by cases h)
 refine o8 rfl ?_
 simp only [go_sem]
 repeat' (first | (refine Qr (ops := _ :: _) rfl ?_; try intro _ hK; try simp only [go_sem, *]) | (refine Qi rfl rfl rfl rfl ?_ ?_ <;> (intro hb; (try intro _ hK); have hc := hb; try simp only [go_sem] at hc; simp only [go_sem, *])) | (refine Qb ?_ ?_; focus kernel_rfl) | ((with_reducible apply And.intro); focus omega) | (refine z8 hK ?_; clear hK; simp only [go_sem, *]) | simp only [z7, z6, go_sem, *])
 refine r4 ?_
 simp only [z6, go_sem]
 refine ⟨rfl, [some 0, some 1, some 2, some 3], [], ?_⟩
 simp only [go_sem, *]
theorem zIV (fn : FuncId) (b c : List Str) (hb1 : b.length ≤ 1000) (hc1 : c.length ≤ 1000) : i4 prog [y4 c] [.loopo (j6 fn) [(3, .ptr 1 0), (6, .ptr 2 0), (7, .ptr 3 0)] (some none), .box [c8], .box [y4 b], .box [bV true]] (bV true)
  [.loopo (j6 fn) [(3, .ptr 1 0), (6, .ptr 2 0), (7, .ptr 3 0)] (some none), .box [c8], .box [y4 (if zLp c b < 0 then c else b)], .box [bV true]] := by
 have hca : t8 prog 126 = true := by kernel_rfl
 have sc := zG6 c b (by omega) (by omega)
 refine S5 (L := j6 fn) (env := [(3, .ptr 1 0), (6, .ptr 2 0), (7, .ptr 3 0)]) (j := none) rfl rfl (fun E l hE => ?_)
 refine o8 rfl ?_
 simp only [j6, i9, go_sem]
 repeat' (first | (refine Qr (ops := _ :: _) rfl ?_; try intro _ hK; try simp only [go_sem, *]) | (refine Qi rfl rfl rfl rfl ?_ ?_ <;> (intro hb; (try intro _ hK); have hc := hb; try simp only [go_sem] at hc; simp only [go_sem, *])) | (refine Qb ?_ ?_; focus kernel_rfl) | ((with_reducible apply And.intro); focus omega) | (refine z8 hK ?_; clear hK; simp only [go_sem, *]) | simp only [z7, z6, go_sem, *])
 refine r4 ?_
 refine ⟨by simp only [go_sem], ?_⟩
 refine T6 (id := 1) rfl ?_
 refine Z5 rfl ?_
 refine o8 rfl ?_
 simp only [go_sem]
 repeat' (first | (refine Qr (ops := _ :: _) rfl ?_; try intro _ hK; try simp only [go_sem, *]) | (refine Qi rfl rfl rfl rfl ?_ ?_ <;> (intro hb; (try intro _ hK); have hc := hb; try simp only [go_sem] at hc; simp only [go_sem, *])) | (refine Qb ?_ ?_; focus kernel_rfl) | ((with_reducible apply And.intro); focus omega) | (refine z8 hK ?_; clear hK; simp only [go_sem, *]) | simp only [z7, z6, go_sem, *])
 refine q9 sc ?_
 simp only [go_sem]
 repeat' (first | (refine Qr (ops := _ :: _) rfl ?_; try intro _ hK; try simp only [go_sem, *]) | (refine Qi rfl rfl rfl rfl ?_ ?_ <;> (intro hb; (try intro _ hK); have hc := hb; try simp only [go_sem] at hc; simp only [go_sem, *])) | (refine Qb ?_ ?_; focus kernel_rfl) | ((with_reducible apply And.intro); focus omega) | (refine z8 hK ?_; clear hK; simp only [go_sem, *]) | simp only [z7, z6, go_sem, *])
 refine r4 ?_
 refine V6 (t := decide (zLp c b < 0)) rfl (by simp only [go_sem]) (fun h => ?_) (fun h => ?_)
 ·rw [if_pos (by simpa using h)]
  refine o8 rfl ?_
  simp only [go_sem]
  repeat' (first | (refine Qr (ops := _ :: _) rfl ?_; try intro _ hK; try simp only [go_sem, *]) | (refine Qi rfl rfl rfl rfl ?_ ?_ <;> (intro hb; (try intro _ hK); have hc := hb; try simp only [go_sem] at hc; simp only [go_sem, *])) | (refine Qb ?_ ?_; focus kernel_rfl) | ((with_reducible apply And.intro); focus omega) | (refine z8 hK ?_; clear hK; simp only [go_sem, *]) | simp only [z7, z6, go_sem, *])
  refine r4 ?_
  simp only [z6, go_sem]
  refine ⟨rfl, [some 0, some 1, some 2, some 3], [], ?_⟩
  simp only [go_sem, *]
 ·rw [if_neg (by simpa using h)]
  refine J0 rfl ?_
  simp only [z6, go_sem]
  refine ⟨rfl, [some 0, some 1, some 2, some 3], [], ?_⟩
  simp only [go_sem, *]
theorem zIT (fn : FuncId) (B : Option (List Str)) (c : List Str) (hb1 : ∀ b, B = some b → b.length ≤ 1000) (hc1 : c.length ≤ 1000) : i4 prog [y4 c] [.loopo (j6 fn) [(3, .ptr 1 0), (6, .ptr 2 0), (7, .ptr 3 0)] (some none), .box [c8], .box [r7 B], .box [bV B.isSome]] (bV true)
  [.loopo (j6 fn) [(3, .ptr 1 0), (6, .ptr 2 0), (7, .ptr 3 0)] (some none), .box [c8], .box [r7 (y9 zLp B [c])], .box [bV (y9 zLp B [c]).isSome]] := by
 cases B with
 | none => exact zIU fn c
 | some b =>
  have := zIV fn b c (hb1 b rfl) hc1
  rw [zBI]
  by_cases h : zLp c b < 0
  ·simp only [if_pos h] at this ⊢; exact this
  ·simp only [if_neg h] at this ⊢; exact this
end Go.Abs

namespace Go.Abs
open Go Go.Proofs Tryz
attribute [local irreducible] y3 Hold y7
noncomputable def zBU : Code := sub [0, 1, 0, 1, 1, 1, 1] (X8 Tryz.f147)
noncomputable def P2 (fn : FuncId) : LoopK := ⟨fn, #[34], O9 zBU, N0 zBU, 45⟩
abbrev CS := List Str × Option (List Str)
structure ChainD where
 many : Int
 to : Str
 l : List Rule
 fnG : FuncId
 fnF : FuncId
noncomputable def o5 (o : Nat) (D : ChainD) (chain : List Str) (S : CS) : List AObj :=
 [.loopo (P2 D.fnG) [(11, .ptr (o + 11) 0), (10, .ptr (o + 10) 0), (6, .ptr (o + 5) 0), (9, .ptr (o + 13) 0)] (some none), .box [iV D.many], .box [sV D.to], .box [.yld (o + 6)], .box [x4 D.l],
  .box [.fn 147 [.ptr (o + 1) 0, .ptr (o + 2) 0, .ptr (o + 3) 0, .ptr (o + 4) 0, .ptr (o + 5) 0]],
  .loopo (j6 D.fnF) [(3, .ptr (o + 7) 0), (6, .ptr (o + 8) 0), (7, .ptr (o + 9) 0)] (some none), .box [c8], .box [r7 S.2], .box [bV S.2.isSome], .box [y4 chain], .box [.mp (o + 12)], .mapo (S.1.map zLv) (S.1.map fun _ => bV true), .box [bV false]]
structure UsesD where
 k : Str
 u : Str
 v : Str
 i : Nat
 j : Nat
 l : List Rule
 fnU : FuncId
abbrev zAJ (u v : Str) : List AV := [.agg [sV u, sV v], .agg [sV v, sV u]]
noncomputable def zC0 : Code := sub [0, 1, 1, 0, 0, 1, 1, 0, 0, 1, 1, 0, 0, 1, 1, 0, 0, 1, 1] (X8 Tryz.f170)
noncomputable def E3 (fn : FuncId) : LoopK := ⟨fn, #[37], O9 zC0, N0 zC0, 44⟩
noncomputable def X4 (D : ChainD) (chain : List Str) (U : UsesD) (S : CS) : List AObj :=
 .loopo (E3 U.fnU) [(3, .ptr 15 0), (2, .ptr 16 0), (25, .own 17 2 0 2), (27, iV U.j), (26, iV 2), (11, iV U.i), (10, iV U.l.length), (9, x4 U.l)] (some none) :: (o5 1 D chain S ++ [.box [.yld 1], .box [sV U.k], .row 2 (zAJ U.u U.v)])
attribute [go_sem] o5 X4
theorem zGO {k a b : Str} {i : Nat} (h : i ≤ k.length) : Y8 k a b i = (if a.isPrefixOf (k.drop i) = true ∧ x7 (k.take i ++ b ++ k.drop (i + a.length)) 1 12 = true then [k.take i ++ b ++ k.drop (i + a.length)] else []) ++ Y8 k a b (i + 1) := by
 unfold Y8
 rw [show k.length + 1 - i = (k.length + 1 - (i + 1)) + 1 by omega, List.range'_succ, List.flatMap_cons]
theorem zGN {k a b : Str} {i : Nat} (h : k.length < i) : Y8 k a b i = [] := by
 unfold Y8
 rw [show k.length + 1 - i = 0 by omega]; rfl
theorem zAL {a x : Str} (h : a.isPrefixOf x = true) : a.length ≤ x.length := (List.isPrefixOf_iff_prefix.1 h).length_le
theorem zHo (D : ChainD) (chain : List Str) (U : UsesD) (zLy : CS → Prop) (step : CS → Str → CS)
  (hy : ∀ S s, zLy S → x7 s 1 12 = true → i4 prog [sV s] (X4 D chain U S) (bV true) (X4 D chain U (step S s))) (hg : ∀ S s, zLy S → x7 s 1 12 = true → zLy (step S s))
  (k a b : Str) (hk1 : k.length ≤ 1000) (ha : a.length ≤ 1000) (hb1 : b.length ≤ 1000) (S0 : CS) (hS : zLy S0) :
  zLn prog 190 [.yld 0, .ptr 18 0, .ptr 19 0, .ptr 20 0] (X4 D chain U S0 ++ [.box [sV k], .box [sV a], .box [sV b]]) (.tup []) (X4 D chain U ((l5 k a b).foldl step S0) ++ [.box [sV k], .box [sV a], .box [sV b]]) := by
 obtain ⟨T, hT⟩ : ∃ T, (l5 k a b).foldl step S0 = T := ⟨_, rfl⟩
 rw [hT]
 have h0 : (Y8 k a b 0).foldl step S0 = T := hT
 clear hT
 simp only [X4, o5, List.cons_append, List.nil_append]
 refine q7 func190 rfl (fun E hE => ?_); simp only [go_sem, ntmps190]
 repeat' (first | (refine Qr rfl ?_; try intro _ hK; try simp only [go_sem, *]) | (refine Qi rfl rfl rfl rfl ?_ ?_ <;> (intro hb; (try intro _ hK); have hc := hb; try simp only [go_sem] at hc; simp only [go_sem, *])) | refine Qh rfl ?_ | (refine Qc rfl rfl ?_ ?_ <;> (intro hb; have hc := hb; try simp only [go_sem] at hc)) | refine q6 rfl ?_ | (refine Qb ?_ ?_; focus kernel_rfl) | ((with_reducible apply And.intro); focus omega) | (refine z8 hK ?_; clear hK; simp only [go_sem, *]) | simp only [z7, z6, go_sem, *])
 refine b6 rfl (k.length + 1) (fun i (S : CS) => (Y8 k a b i).foldl step S = T ∧ zLy S) 40 (fun i S => [(10, iV i), (9, iV ((k.length + 1 : Nat) : Int)), (0, .yld 0), (1, .ptr 18 0), (2, .ptr 19 0), (3, .ptr 20 0)]) (fun i S => X4 D chain U S ++ [.box [sV k], .box [sV a], .box [sV b]]) [some 0, some 1, some 2, some 3, some 4, some 5, some 6, some 7, some 8, some 9, some 10, some 11, some 12, some 13, some 14, some 15, some 16, some 17, some 18, some 19, some 20] [] (S0) (by exact ⟨h0, hS⟩) ?_; intro i S hi hP
 obtain ⟨hP, hG⟩ := hP
 by_cases hi2 : i ≤ k.length
 ·have hp := zCZ (k.drop i) a (by simp; omega) (by omega)
  rw [zGO hi2] at hP
  by_cases q : a.isPrefixOf (k.drop i) = true
  ·rw [q] at hp
   have hle := zAL q
   have hil : i + a.length ≤ k.length := by simp at hle; omega
   have hwl : IntKind.i64.wrap ((i : Int) + (a.length : Int)) = ((i + a.length : Nat) : Int) := by rw [wrap_i64 (by omega) (by omega)]; omega
   obtain ⟨t, ht⟩ : ∃ t, k.take i ++ b ++ k.drop (i + a.length) = t := ⟨_, rfl⟩
   have htl : t.length ≤ 3000 := by rw [← ht]; simp; omega
   have sl := zAY t 1 12 (by omega)
   rw [ht] at hP
   by_cases ql : x7 t 1 12 = true
   ·rw [if_pos ⟨q, ql⟩] at hP
    have hstep := hP
    rw [List.foldl_append] at hstep
    have hyt := hy S t hG ql
    have hgt := hg S t hG ql
    rw [ql] at sl
    clear q hle hP hg hy
    repeat' (first | ((refine J5 5 rfl rfl rfl ?_; simp only [List.take_succ_cons, List.take_zero, List.drop_succ_cons, List.drop_zero])) | (refine Qr rfl ?_; try intro _ hK; try simp only [go_sem, *]) | (refine Qi rfl rfl rfl rfl ?_ ?_ <;> (intro hb; (try intro _ hK); have hc := hb; try simp only [go_sem] at hc; simp only [go_sem, *])) | refine Qh rfl ?_ | refine Qd rfl (by kernel_rfl) ?_ | (refine Qc rfl rfl ?_ ?_ <;> (intro hb; have hc := hb; try simp only [go_sem] at hc)) | refine q6 rfl ?_ | (refine Qb ?_ ?_; focus kernel_rfl) | ((first | refine q9 (hp) ?_ | refine q9 (sl) ?_); simp only [go_sem, *]) | ((with_reducible apply And.intro); focus omega) | (refine z8 hK ?_; clear hK; simp only [go_sem, *]) | simp only [z7, z6, go_sem, *])
    all_goals first | contradiction | omega | skip
    refine zBX rfl rfl (by simp only [go_sem]) ?_
    refine E4 [0, 1, 2, 3, 4, 5, 6, 7, 8, 9, 10, 11, 12, 13, 14, 15, 16, 17] [] hyt rfl rfl (by simp) (by simp only [go_sem]) (by simp only [go_sem]) (by simp) (.inl rfl) (by simp [go_sem]) (by simp [go_sem]) ?_
    simp only [go_sem]
    repeat' (first | (refine Qr rfl ?_; try intro _ hK; try simp only [go_sem, *]) | (refine Qi rfl rfl rfl rfl ?_ ?_ <;> (intro hb; (try intro _ hK); have hc := hb; try simp only [go_sem] at hc; simp only [go_sem, *])) | refine Qh rfl ?_ | refine Qd rfl (by kernel_rfl) ?_ | (refine Qc rfl rfl ?_ ?_ <;> (intro hb; have hc := hb; try simp only [go_sem] at hc)) | refine q6 rfl ?_ | (refine Qb ?_ ?_; focus kernel_rfl) | ((with_reducible apply And.intro); focus omega) | (refine z8 hK ?_; clear hK; simp only [go_sem, *]) | simp only [z7, z6, go_sem, *])
    all_goals first | contradiction | omega | skip
    exact o3 (i' := i + 1) [some 0, some 1, some 2, some 3, some 4, some 5, some 6, some 7, some 8, some 9, some 10, some 11, some 12, some 13, some 14, some 15, some 16, some 17, some 18, some 19, some 20] [] (step S t) (by exact ⟨hstep, hgt⟩)
   ·have ql2 : x7 t 1 12 = false := (Bool.not_eq_true _).mp ql
    rw [if_neg (fun h => ql h.2), List.nil_append] at hP
    rw [ql2] at sl
    clear q hle hg hy ql ql2
    repeat' (first | ((refine J5 5 rfl rfl rfl ?_; simp only [List.take_succ_cons, List.take_zero, List.drop_succ_cons, List.drop_zero])) | (refine Qr rfl ?_; try intro _ hK; try simp only [go_sem, *]) | (refine Qi rfl rfl rfl rfl ?_ ?_ <;> (intro hb; (try intro _ hK); have hc := hb; try simp only [go_sem] at hc; simp only [go_sem, *])) | refine Qh rfl ?_ | refine Qd rfl (by kernel_rfl) ?_ | (refine Qc rfl rfl ?_ ?_ <;> (intro hb; have hc := hb; try simp only [go_sem] at hc)) | refine q6 rfl ?_ | (refine Qb ?_ ?_; focus kernel_rfl) | ((first | refine q9 (hp) ?_ | refine q9 (sl) ?_); simp only [go_sem, *]) | ((with_reducible apply And.intro); focus omega) | (refine z8 hK ?_; clear hK; simp only [go_sem, *]) | simp only [z7, z6, go_sem, *])
    all_goals first | contradiction | omega | skip
    refine zBV rfl rfl (by simp only [go_sem]) ?_
    repeat' (first | (refine Qr rfl ?_; try intro _ hK; try simp only [go_sem, *]) | (refine Qi rfl rfl rfl rfl ?_ ?_ <;> (intro hb; (try intro _ hK); have hc := hb; try simp only [go_sem] at hc; simp only [go_sem, *])) | refine Qh rfl ?_ | refine Qd rfl (by kernel_rfl) ?_ | (refine Qc rfl rfl ?_ ?_ <;> (intro hb; have hc := hb; try simp only [go_sem] at hc)) | refine q6 rfl ?_ | (refine Qb ?_ ?_; focus kernel_rfl) | ((with_reducible apply And.intro); focus omega) | (refine z8 hK ?_; clear hK; simp only [go_sem, *]) | simp only [z7, z6, go_sem, *])
    all_goals first | contradiction | omega | skip
    exact o3 (i' := i + 1) [some 0, some 1, some 2, some 3, some 4, some 5, some 6, some 7, some 8, some 9, some 10, some 11, some 12, some 13, some 14, some 15, some 16, some 17, some 18, some 19, some 20] [] (S) (by exact ⟨hP, hG⟩)
  ·have q2 : a.isPrefixOf (k.drop i) = false := (Bool.not_eq_true _).mp q
   rw [if_neg (fun h => q h.1), List.nil_append] at hP
   rw [q2] at hp
   clear q q2
   repeat' (first | (refine Qr rfl ?_; try intro _ hK; try simp only [go_sem, *]) | (refine Qi rfl rfl rfl rfl ?_ ?_ <;> (intro hb; (try intro _ hK); have hc := hb; try simp only [go_sem] at hc; simp only [go_sem, *])) | refine Qh rfl ?_ | refine Qd rfl (by kernel_rfl) ?_ | (refine Qc rfl rfl ?_ ?_ <;> (intro hb; have hc := hb; try simp only [go_sem] at hc)) | refine q6 rfl ?_ | (refine Qb ?_ ?_; focus kernel_rfl) | (refine q9 (hp) ?_; simp only [go_sem, *]) | ((with_reducible apply And.intro); focus omega) | (refine z8 hK ?_; clear hK; simp only [go_sem, *]) | simp only [z7, z6, go_sem, *])
   all_goals first | contradiction | omega | skip
   exact o3 (i' := i + 1) [some 0, some 1, some 2, some 3, some 4, some 5, some 6, some 7, some 8, some 9, some 10, some 11, some 12, some 13, some 14, some 15, some 16, some 17, some 18, some 19, some 20] [] (S) (by exact ⟨hP, hG⟩)
 ·rw [zGN (by omega)] at hP
  have hP : S = T := hP
  subst hP
  repeat' (first | (refine Qr rfl ?_; try intro _ hK; try simp only [go_sem, *]) | (refine Qi rfl rfl rfl rfl ?_ ?_ <;> (intro hb; (try intro _ hK); have hc := hb; try simp only [go_sem] at hc; simp only [go_sem, *])) | refine Qh rfl ?_ | refine Qd rfl (by kernel_rfl) ?_ | (refine Qc rfl rfl ?_ ?_ <;> (intro hb; have hc := hb; try simp only [go_sem] at hc)) | refine q6 rfl ?_ | (refine Qb ?_ ?_; focus kernel_rfl) | ((with_reducible apply And.intro); focus omega) | (refine z8 hK ?_; clear hK; simp only [go_sem, *]) | simp only [z7, z6, go_sem, *])
  all_goals first | contradiction | omega | skip
  refine ⟨[], [some 0, some 1, some 2, some 3, some 4, some 5, some 6, some 7, some 8, some 9, some 10, some 11, some 12, some 13, some 14, some 15, some 16, some 17, some 18, some 19, some 20], [], trivial, ?_⟩
  simp only [go_sem, j8, *]
end Go.Abs

namespace Go.Abs
open Go Go.Proofs Tryz
attribute [local irreducible] y3 Hold y7
theorem zHn (k a b : Str) : zLn prog 171 [sV k, sV a, sV b] [] (.fn 190 [.ptr 0 0, .ptr 1 0, .ptr 2 0]) [.box [sV k], .box [sV a], .box [sV b]] := by
 refine q7 func171 rfl (fun E hE => ?_); simp only [go_sem, ntmps171]
 repeat' (first | (refine Qr rfl ?_; try intro _ hK; try simp only [go_sem, *]) | refine Qh rfl ?_ | (refine Qc rfl rfl ?_ ?_ <;> (intro hb; have hc := hb; try simp only [go_sem] at hc)) | refine q6 rfl ?_ | ((with_reducible apply And.intro); focus omega) | (refine z8 hK ?_; clear hK; simp only [go_sem, *]) | simp only [z7, z6, go_sem, *])
 refine ⟨[_], [some 0, some 1, some 2], [], ⟨rfl, trivial⟩, ?_⟩
 simp only [go_sem, *]
theorem zHw (k : Str) (l : List Rule) : zLn prog 149 [sV k, x4 l] [] (.fn 170 [.ptr 0 0, .ptr 1 0]) [.box [x4 l], .box [sV k]] := by
 refine q7 func149 rfl (fun E hE => ?_); simp only [go_sem, ntmps149]
 repeat' (first | (refine Qr rfl ?_; try intro _ hK; try simp only [go_sem, *]) | refine Qh rfl ?_ | (refine Qc rfl rfl ?_ ?_ <;> (intro hb; have hc := hb; try simp only [go_sem] at hc)) | refine q6 rfl ?_ | ((with_reducible apply And.intro); focus omega) | (refine z8 hK ?_; clear hK; simp only [go_sem, *]) | simp only [z7, z6, go_sem, *])
 refine ⟨[_], [some 1, some 0], [], ⟨rfl, trivial⟩, ?_⟩
 simp only [go_sem, *]
theorem zIb (D : ChainD) (chain : List Str) (U : UsesD) (S S' : CS) (s : Str) (hyG : i4 prog [sV s] (o5 0 D chain S) (bV true) (o5 0 D chain S')) : i4 prog [sV s] (X4 D chain U S) (bV true) (X4 D chain U S') := by
 refine S5 (L := E3 U.fnU) (env := [(3, .ptr 15 0), (2, .ptr 16 0), (25, .own 17 2 0 2), (27, iV U.j), (26, iV 2), (11, iV U.i), (10, iV U.l.length), (9, x4 U.l)]) (j := none) rfl rfl (fun E l hE => ?_)
 refine o8 rfl ?_
 simp only [E3, i9, go_sem]
 repeat' (first | (refine Qr (ops := _ :: _) rfl ?_; try intro _ hK; try simp only [go_sem, *]) | (refine Qi rfl rfl rfl rfl ?_ ?_ <;> (intro hb; (try intro _ hK); have hc := hb; try simp only [go_sem] at hc; simp only [go_sem, *])) | (refine Qb ?_ ?_; focus kernel_rfl) | ((with_reducible apply And.intro); focus omega) | (refine z8 hK ?_; clear hK; simp only [go_sem, *]) | simp only [z7, z6, go_sem, *])
 refine r4 ?_
 refine ⟨by simp only [go_sem], ?_⟩
 refine T6 (id := 5) rfl ?_
 refine Z5 rfl ?_
 refine zGK 2 rfl rfl rfl ?_
 simp only [List.take_succ_cons, List.take_zero, List.drop_succ_cons, List.drop_zero, go_sem]
 repeat' (first | (refine Qr (ops := _ :: _) rfl ?_; try intro _ hK; try simp only [go_sem, *]) | (refine Qi rfl rfl rfl rfl ?_ ?_ <;> (intro hb; (try intro _ hK); have hc := hb; try simp only [go_sem] at hc; simp only [go_sem, *])) | (refine Qb ?_ ?_; focus kernel_rfl) | ((with_reducible apply And.intro); focus omega) | (refine z8 hK ?_; clear hK; simp only [go_sem, *]) | simp only [z7, z6, go_sem, *])
 refine r4 ?_
 refine zBW rfl ?_
 refine ⟨by show 40 < 44; omega, ?_⟩
 simp only [go_sem]
 refine E4 [1, 2, 3, 4, 5, 6, 7, 8, 9, 10, 11, 12, 13, 14] [] hyG rfl rfl (by simp) (by simp only [go_sem]) (by simp only [go_sem]) (by simp) (.inl rfl) (by simp [go_sem]) (by simp [go_sem]) ?_
 simp only [go_sem]
 repeat' (first | (refine Qr (ops := _ :: _) rfl ?_; try intro _ hK; try simp only [go_sem, *]) | (refine Qi rfl rfl rfl rfl ?_ ?_ <;> (intro hb; (try intro _ hK); have hc := hb; try simp only [go_sem] at hc; simp only [go_sem, *])) | (refine Qb ?_ ?_; focus kernel_rfl) | ((with_reducible apply And.intro); focus omega) | (refine z8 hK ?_; clear hK; simp only [go_sem, *]) | simp only [z7, z6, go_sem, *])
 refine r4 ?_
 refine V6 (t := false) rfl (by simp only [go_sem]) (fun h => by cases h) (fun _ => ?_)
 refine J0 rfl ?_
 simp only [z6, go_sem]
 refine ⟨rfl, [some 0, some 1, some 2, some 3, some 4, some 5, some 6, some 7, some 8, some 9, some 10, some 11, some 12, some 13, some 14, some 15, some 16, some 17], [], ?_⟩
 simp only [go_sem, *]
theorem zID {l : List Rule} {k : Str} {i : Nat} (h : i < l.length) : p4 (l.drop i) k = (l5 k (l.getD i default).src (l.getD i default).dst ++ l5 k (l.getD i default).dst (l.getD i default).src) ++ p4 (l.drop (i + 1)) k := by
 rw [l8 h]; rfl
def O3 (k u v : Str) : Nat → List Str
 | 0 => l5 k u v ++ l5 k v u
 | 1 => l5 k v u
 | _ => []
theorem zGD (k u v : Str) {j : Nat} (h : j < 2) : ∃ x y : Str, ([.agg [sV u, sV v], .agg [sV v, sV u]] : List AV).getD j .any = .agg [sV x, sV y] ∧ O3 k u v j = l5 k x y ++ O3 k u v (j + 1) ∧ (x = u ∧ y = v ∨ x = v ∧ y = u) := by
 rcases (by omega : j = 0 ∨ j = 1) with rfl | rfl
 ·exact ⟨u, v, rfl, rfl, .inl ⟨rfl, rfl⟩⟩
 ·exact ⟨v, u, rfl, by simp [O3], .inr ⟨rfl, rfl⟩⟩
theorem zBT {zLy : CS → Prop} {step : CS → Str → CS} (hg : ∀ S s, zLy S → x7 s 1 12 = true → zLy (step S s)) : ∀ (L : List Str) (S : CS), (∀ s, s ∈ L → x7 s 1 12 = true) → zLy S → zLy (L.foldl step S)
 | [], _, _, h => h
 | x :: r, S, hl, h => zBT hg r _ (fun s hs => hl s (by simp [hs])) (hg S x h (hl x (by simp)))
theorem zGP {k a b s : Str} (h : s ∈ l5 k a b) : x7 s 1 12 = true := by
 obtain ⟨_, _, _, h, _⟩ := mem_replacedN.1 h; exact h
theorem zHx (D : ChainD) (chain : List Str) (zLy : CS → Prop) (step : CS → Str → CS)
    (hy : ∀ S s, zLy S → x7 s 1 12 = true → i4 prog [sV s] (o5 0 D chain S) (bV true) (o5 0 D chain (step S s))) (hg : ∀ S s, zLy S → x7 s 1 12 = true → zLy (step S s))
    (k : Str) (l : List Rule) (hk1 : k.length ≤ 1000) (hl : l.length ≤ 1000) (hr : ∀ r, r ∈ l → r.src.length ≤ 1000 ∧ r.dst.length ≤ 1000) (S0 : CS) (hS : zLy S0) :
    zLn prog 170 [.yld 0, .ptr 14 0, .ptr 15 0] (o5 0 D chain S0 ++ [.box [x4 l], .box [sV k]]) (.tup []) (o5 0 D chain ((p4 l k).foldl step S0) ++ [.box [x4 l], .box [sV k]]) := by
  obtain ⟨T, hT⟩ : ∃ T, (p4 l k).foldl step S0 = T := ⟨_, rfl⟩
  rw [hT]
  have h0 : (p4 (l.drop 0) k).foldl step S0 = T := hT
  clear hT
  simp only [o5, List.cons_append, List.nil_append]
  refine q7 func170 rfl (fun E hE => ?_); simp only [go_sem, ntmps170]
  repeat' (first | (refine Qr rfl ?_; try intro _ hK; try simp only [go_sem, *]) | refine Qh rfl ?_ | (refine Qc rfl rfl ?_ ?_ <;> (intro hb; have hc := hb; try simp only [go_sem] at hc)) | refine q6 rfl ?_ | ((with_reducible apply And.intro); focus omega) | (refine z8 hK ?_; clear hK; simp only [go_sem, *]) | simp only [z7, z6, go_sem, *])
  refine b6 rfl (l.length) (fun i (S : CS) => (p4 (l.drop i) k).foldl step S = T ∧ zLy S) 44 (fun i S => [(11, iV i), (10, iV l.length), (9, x4 l), (3, .ptr 16 0), (2, .ptr 15 0)]) (fun i S => o5 0 D chain S ++ [.box [x4 l], .box [sV k], .box [.yld 0]]) [some 0, some 1, some 2, some 3, some 4, some 5, some 6, some 7, some 8, some 9, some 10, some 11, some 12, some 13, some 14, some 15, some 16] [] (S0) (by exact ⟨h0, hS⟩) ?_; intro i S hi hP
  obtain ⟨hP, hG⟩ := hP
  by_cases hi2 : i < l.length
  · have hrl := hr _ (l4 hi2)
    rw [zID hi2] at hP
    generalize hsu : (l.getD i default).src = u at *
    generalize hsv : (l.getD i default).dst = v at *
    rw [List.foldl_append] at hP
    have hQ0 : (p4 (l.drop (i + 1)) k).foldl step ((O3 k u v 0).foldl step S) = T := hP
    clear hP hr
    repeat' (first | (refine Qr rfl ?_; try intro _ hK; try simp only [go_sem, *]) | refine Qh rfl ?_ | (refine Qc rfl rfl ?_ ?_ <;> (intro hb; have hc := hb; try simp only [go_sem] at hc)) | refine q6 rfl ?_ | ((with_reducible apply And.intro); focus omega) | (refine z8 hK ?_; clear hK; simp only [go_sem, *]) | simp only [z7, z6, go_sem, *])
    refine b6 rfl (2) (fun j (S2 : CS) => (p4 (l.drop (i + 1)) k).foldl step ((O3 k u v j).foldl step S2) = T ∧ zLy S2) 44 (fun j S2 => [(27, iV j), (26, iV 2), (25, .own 17 2 0 2), (11, iV i), (10, iV l.length), (9, x4 l), (3, .ptr 16 0), (2, .ptr 15 0)]) (fun j S2 => o5 0 D chain S2 ++ [.box [x4 l], .box [sV k], .box [.yld 0], .row 2 (zAJ u v)]) [some 0, some 1, some 2, some 3, some 4, some 5, some 6, some 7, some 8, some 9, some 10, some 11, some 12, some 13, some 14, some 15, some 16, some 18] [] (S) (by exact ⟨hQ0, hG⟩) ?_; intro j S2 hj hQ
    obtain ⟨hQ, hG2⟩ := hQ
    by_cases hj2 : j < 2
    · obtain ⟨x, y, hxy, hst, hlen⟩ := zGD k u v hj2
      rw [hst, List.foldl_append] at hQ
      have sr := zHn k x y
      have hxl : x.length ≤ 1000 ∧ y.length ≤ 1000 := by
        rcases hlen with ⟨rfl, rfl⟩ | ⟨rfl, rfl⟩
        · exact hrl
        · exact ⟨hrl.2, hrl.1⟩
      have s1 := fun fn => zHo D chain ⟨k, u, v, i, j, l, fn⟩ zLy step (fun S s h1 h2 => zIb D chain _ S _ s (hy S s h1 h2)) hg k x y hk1 hxl.1 hxl.2 S2 hG2
      have hG3 := zBT hg (l5 k x y) S2 (fun s hs => zGP hs) hG2
      obtain ⟨S3, hS3⟩ : ∃ S3, (l5 k x y).foldl step S2 = S3 := ⟨_, rfl⟩
      rw [hS3] at hQ hG3
      simp only [hS3] at s1
      clear hlen hst hS3 hy hg hrl hxl hG2
      repeat' (first | (refine Qr rfl ?_; try intro _ hK; try simp only [go_sem, *]) | refine Qh rfl ?_ | (refine Qc rfl rfl ?_ ?_ <;> (intro hb; have hc := hb; try simp only [go_sem] at hc)) | refine q6 rfl ?_ | ((with_reducible apply And.intro); focus omega) | (refine z8 hK ?_; clear hK; simp only [go_sem, *]) | simp only [z7, z6, go_sem, *])
      refine o9 sr ?_ (hu := by (intro j hj; simp only [List.length_cons, List.length_nil] at hj; (obtain rfl | rfl | rfl : j = 0 ∨ j = 1 ∨ j = 2 := by omega) <;> simp [go_sem]))
      simp only [go_sem, *]
      repeat' (first | (refine Qr rfl ?_; try intro _ hK; try simp only [go_sem, *]) | refine Qh rfl ?_ | (refine Qc rfl rfl ?_ ?_ <;> (intro hb; have hc := hb; try simp only [go_sem] at hc)) | refine q6 rfl ?_ | ((with_reducible apply And.intro); focus omega) | (refine z8 hK ?_; clear hK; simp only [go_sem, *]) | simp only [z7, z6, go_sem, *])
      refine T0 (N := 44) (env := [(36, .fn 190 [.ptr 18 0, .ptr 19 0, .ptr 20 0]), (27, iV j), (26, iV 2), (25, .own 17 2 0 2), (11, iV i), (10, iV l.length), (9, x4 l), (3, .ptr 16 0), (2, .ptr 15 0)]) (As := o5 0 D chain S2 ++ [.box [x4 l], .box [sV k], .box [.yld 0], .row 2 (zAJ u v), .box [sV k], .box [sV x], .box [sV y]]) [some 0, some 1, some 2, some 3, some 4, some 5, some 6, some 7, some 8, some 9, some 10, some 11, some 12, some 13, some 14, some 15, some 16, some 17, some 19, some 20, some 21] [] (by (simp only [Weak, go_sem, List.map_append, List.map_set, *] <;> (try simp (disch := omega) only [r6]) <;> (try simp) <;> (try omega))) ?_
      refine F5 (f := 190) (caps := [.ptr 18 0, .ptr 19 0, .ptr 20 0]) rfl (by simp only [go_sem]) (by kernel_rfl) (nx := 21) (by simp only [go_sem]) (fun fn => ⟨22, ?_⟩)
      refine u9 [21, 0, 1, 2, 3, 4, 5, 6, 7, 8, 9, 10, 11, 12, 13, 16, 15, 17, 18, 19, 20] [] (s1 fn) (by simp) (by simp only [go_sem]) ?_ (by simp) (.inl rfl) (by simp [go_sem]) (by simp [go_sem]) ?_
      · simp only [go_sem, *]
        rfl
      · simp only [go_sem, *]
        refine ⟨E3 fn, [(3, .ptr 16 0), (2, .ptr 15 0), (25, .own 17 2 0 2), (27, iV j), (26, iV 2), (11, iV i), (10, iV l.length), (9, x4 l)], none, by simp only [go_sem], ?_⟩
        simp only [go_sem]
        repeat' (first | (refine Qr rfl ?_; try intro _ hK; try simp only [go_sem, *]) | refine Qh rfl ?_ | (refine Qc rfl rfl ?_ ?_ <;> (intro hb; have hc := hb; try simp only [go_sem] at hc)) | refine q6 rfl ?_ | ((with_reducible apply And.intro); focus omega) | (refine z8 hK ?_; clear hK; simp only [go_sem, *]) | simp only [z7, z6, go_sem, *])
        all_goals first | contradiction | omega | skip
        exact o3 (i' := j + 1) [some 0, some 1, some 2, some 3, some 4, some 5, some 6, some 7, some 8, some 9, some 10, some 11, some 12, some 13, some 14, some 15, some 16, some 17] [] (S3) (by exact ⟨hQ, hG3⟩)
    · have e2 : O3 k u v j = [] := by
        rcases (by omega : j = 2) with rfl
        rfl
      rw [e2] at hQ
      have hQ : (p4 (l.drop (i + 1)) k).foldl step S2 = T := hQ
      repeat' (first | (refine Qr rfl ?_; try intro _ hK; try simp only [go_sem, *]) | refine Qh rfl ?_ | (refine Qc rfl rfl ?_ ?_ <;> (intro hb; have hc := hb; try simp only [go_sem] at hc)) | refine q6 rfl ?_ | ((with_reducible apply And.intro); focus omega) | (refine z8 hK ?_; clear hK; simp only [go_sem, *]) | simp only [z7, z6, go_sem, *])
      all_goals first | contradiction | omega | skip
      exact o3 (i' := i + 1) [some 0, some 1, some 2, some 3, some 4, some 5, some 6, some 7, some 8, some 9, some 10, some 11, some 12, some 13, some 14, some 15, some 16] [] (S2) (by exact ⟨hQ, hG2⟩)
  · have e : l.drop i = [] := c9 (by omega)
    rw [e] at hP
    have hP : S = T := hP
    subst hP
    repeat' (first | (refine Qr rfl ?_; try intro _ hK; try simp only [go_sem, *]) | refine Qh rfl ?_ | (refine Qc rfl rfl ?_ ?_ <;> (intro hb; have hc := hb; try simp only [go_sem] at hc)) | refine q6 rfl ?_ | ((with_reducible apply And.intro); focus omega) | (refine z8 hK ?_; clear hK; simp only [go_sem, *]) | simp only [z7, z6, go_sem, *])
    all_goals first | contradiction | omega | skip
    refine ⟨[], [some 0, some 1, some 2, some 3, some 4, some 5, some 6, some 7, some 8, some 9, some 10, some 11, some 12, some 13, some 14, some 15], [], trivial, ?_⟩
    simp only [go_sem, j8, *]
end Go.Abs

namespace Go.Abs
open Go Go.Proofs Tryz
attribute [local irreducible] y3 Hold y7
noncomputable def j5 (o : Nat) (D : ChainD) (B : Option (List Str)) : List AObj :=
 [.box [iV D.many], .box [sV D.to], .box [.yld (o + 5)], .box [x4 D.l],
  .box [.fn 147 [.ptr o 0, .ptr (o + 1) 0, .ptr (o + 2) 0, .ptr (o + 3) 0, .ptr (o + 4) 0]],
  .loopo (j6 D.fnF) [(3, .ptr (o + 6) 0), (6, .ptr (o + 7) 0), (7, .ptr (o + 8) 0)] (some none), .box [c8], .box [r7 B], .box [bV B.isSome]]
attribute [go_sem] j5
abbrev P1 (s : Str) (chain : List Str) : List AV := [sV s, y4 chain, .ptr 0 0, .ptr 1 0, .ptr 2 0, .ptr 3 0, .ptr 4 0]
theorem zIa (D : ChainD) (chain : List Str) (S : CS) (s : Str) (hm : ∀ x, x ∈ S.1 → x.length ≤ 1000) (hs : s.length ≤ 1000) (h : s ∈ S.1) :
  i4 prog [sV s] (o5 0 D chain S) (bV true) (o5 0 D chain S) := by
 refine S5 (L := P2 D.fnG) (env := [(11, .ptr 11 0), (10, .ptr 10 0), (6, .ptr 5 0), (9, .ptr 13 0)]) (j := none) rfl rfl (fun E l hE => ?_)
 refine o8 rfl ?_
 simp only [P2, i9, go_sem]
 repeat' (first | (refine Qr (ops := _ :: _) rfl ?_; try intro _ hK; try simp only [go_sem, *]) | (refine Qi rfl rfl rfl rfl ?_ ?_ <;> (intro hb; (try intro _ hK); have hc := hb; try simp only [go_sem] at hc; simp only [go_sem, *])) | (refine Qb ?_ ?_; focus kernel_rfl) | ((with_reducible apply And.intro); focus omega) | (refine z8 hK ?_; clear hK; simp only [go_sem, *]) | simp only [z7, z6, go_sem, *])
 refine r4 ?_
 refine ⟨by simp only [go_sem], ?_⟩
 refine T6 (id := 1) rfl ?_
 refine Z5 rfl ?_
 refine Z5 rfl ?_
 refine o8 rfl ?_
 simp only [go_sem]
 repeat' (first | (refine Qr (ops := _ :: _) rfl ?_; try intro _ hK; try simp only [go_sem, *]) | (refine Qi rfl rfl rfl rfl ?_ ?_ <;> (intro hb; (try intro _ hK); have hc := hb; try simp only [go_sem] at hc; simp only [go_sem, *])) | (refine Qb ?_ ?_; focus kernel_rfl) | ((with_reducible apply And.intro); focus omega) | (refine z8 hK ?_; clear hK; simp only [go_sem, *]) | simp only [z7, z6, go_sem, *])
 refine zB1 hm hs (by simp only [go_sem]) ?_
 simp only [go_sem, *]
 repeat' (first | (refine Qr (ops := _ :: _) rfl ?_; try intro _ hK; try simp only [go_sem, *]) | (refine Qi rfl rfl rfl rfl ?_ ?_ <;> (intro hb; (try intro _ hK); have hc := hb; try simp only [go_sem] at hc; simp only [go_sem, *])) | (refine Qb ?_ ?_; focus kernel_rfl) | ((with_reducible apply And.intro); focus omega) | (refine z8 hK ?_; clear hK; simp only [go_sem, *]) | simp only [z7, z6, go_sem, *])
 refine r4 ?_
 refine V6 (t := true) rfl (by simp only [go_sem]) (fun _ => ?_) (fun h => by cases h)
 refine zGJ rfl ?_
 simp only [z7, z6, go_sem]
 refine ⟨rfl, [some 0, some 1, some 2, some 3, some 4, some 5, some 6, some 7, some 8, some 9, some 10, some 11, some 12, some 13], [], ?_⟩
 simp only [go_sem, *]
theorem zIZ (D : ChainD) (chain : List Str) (S : CS) (B' : Option (List Str)) (s : Str) (hm : ∀ x, x ∈ S.1 → x.length ≤ 1000) (hs : s.length ≤ 1000) (h : s ∉ S.1)
  (sg : zLn prog 147 (P1 s chain) (j5 0 D S.2) (bV true) (j5 0 D B')) :
  i4 prog [sV s] (o5 0 D chain S) (bV true) (o5 0 D chain (S.1 ++ [s], B')) := by
 have hca : t8 prog 147 = true := by kernel_rfl
 have hput : zL9 S.1 s = S.1 ++ [s] := by unfold zL9; rw [if_neg h]
 refine S5 (L := P2 D.fnG) (env := [(11, .ptr 11 0), (10, .ptr 10 0), (6, .ptr 5 0), (9, .ptr 13 0)]) (j := none) rfl rfl (fun E l hE => ?_)
 refine o8 rfl ?_
 simp only [P2, i9, go_sem]
 repeat' (first | (refine Qr (ops := _ :: _) rfl ?_; try intro _ hK; try simp only [go_sem, *]) | (refine Qi rfl rfl rfl rfl ?_ ?_ <;> (intro hb; (try intro _ hK); have hc := hb; try simp only [go_sem] at hc; simp only [go_sem, *])) | (refine Qb ?_ ?_; focus kernel_rfl) | ((with_reducible apply And.intro); focus omega) | (refine z8 hK ?_; clear hK; simp only [go_sem, *]) | simp only [z7, z6, go_sem, *])
 refine r4 ?_
 refine ⟨by simp only [go_sem], ?_⟩
 refine T6 (id := 1) rfl ?_
 refine Z5 rfl ?_
 refine Z5 rfl ?_
 refine o8 rfl ?_
 try simp only [go_sem]
 repeat' (first | (refine Qr (ops := _ :: _) rfl ?_; try intro _ hK; try simp only [go_sem, *]) | (refine Qi rfl rfl rfl rfl ?_ ?_ <;> (intro hb; (try intro _ hK); have hc := hb; try simp only [go_sem] at hc; simp only [go_sem, *])) | (refine Qb ?_ ?_; focus kernel_rfl) | ((with_reducible apply And.intro); focus omega) | (refine z8 hK ?_; clear hK; simp only [go_sem, *]) | simp only [z7, z6, go_sem, *])
 refine zB1 hm hs (by simp only [go_sem]) ?_
 simp only [go_sem, *]
 repeat' (first | (refine Qr (ops := _ :: _) rfl ?_; try intro _ hK; try simp only [go_sem, *]) | (refine Qi rfl rfl rfl rfl ?_ ?_ <;> (intro hb; (try intro _ hK); have hc := hb; try simp only [go_sem] at hc; simp only [go_sem, *])) | (refine Qb ?_ ?_; focus kernel_rfl) | ((with_reducible apply And.intro); focus omega) | (refine z8 hK ?_; clear hK; simp only [go_sem, *]) | simp only [z7, z6, go_sem, *])
 refine r4 ?_
 refine V6 (t := false) rfl (by simp only [go_sem]) (fun h => by cases h) (fun _ => ?_)
 refine J0 rfl ?_
 refine Z5 rfl ?_
 refine o8 rfl ?_
 try simp only [go_sem]
 repeat' (first | (refine Qr (ops := _ :: _) rfl ?_; try intro _ hK; try simp only [go_sem, *]) | (refine Qi rfl rfl rfl rfl ?_ ?_ <;> (intro hb; (try intro _ hK); have hc := hb; try simp only [go_sem] at hc; simp only [go_sem, *])) | (refine Qb ?_ ?_; focus kernel_rfl) | ((with_reducible apply And.intro); focus omega) | (refine z8 hK ?_; clear hK; simp only [go_sem, *]) | simp only [z7, z6, go_sem, *])
 refine zAf hm hs (by simp only [go_sem]) ?_
 rw [hput]
 repeat' (first | (refine Qr (ops := _ :: _) rfl ?_; try intro _ hK; try simp only [go_sem, *]) | (refine Qi rfl rfl rfl rfl ?_ ?_ <;> (intro hb; (try intro _ hK); have hc := hb; try simp only [go_sem] at hc; simp only [go_sem, *])) | (refine Qb ?_ ?_; focus kernel_rfl) | ((with_reducible apply And.intro); focus omega) | (refine z8 hK ?_; clear hK; simp only [go_sem, *]) | simp only [z7, z6, go_sem, *])
 refine r4 ?_
 refine Z5 rfl ?_
 refine o8 rfl ?_
 try simp only [go_sem]
 repeat' (first | (refine Qr (ops := _ :: _) rfl ?_; try intro _ hK; try simp only [go_sem, *]) | (refine Qi rfl rfl rfl rfl ?_ ?_ <;> (intro hb; (try intro _ hK); have hc := hb; try simp only [go_sem] at hc; simp only [go_sem, *])) | (refine Qb ?_ ?_; focus kernel_rfl) | ((with_reducible apply And.intro); focus omega) | (refine z8 hK ?_; clear hK; simp only [go_sem, *]) | simp only [z7, z6, go_sem, *])
 refine w5 [1, 2, 3, 4, 5, 6, 7, 8, 9] sg ?_
 simp only [go_sem, *]
 repeat' (first | (refine Qr (ops := _ :: _) rfl ?_; try intro _ hK; try simp only [go_sem, *]) | (refine Qi rfl rfl rfl rfl ?_ ?_ <;> (intro hb; (try intro _ hK); have hc := hb; try simp only [go_sem] at hc; simp only [go_sem, *])) | (refine Qb ?_ ?_; focus kernel_rfl) | ((with_reducible apply And.intro); focus omega) | (refine z8 hK ?_; clear hK; simp only [go_sem, *]) | simp only [z7, z6, go_sem, *])
 refine r4 ?_
 refine V6 (t := false) rfl (by simp only [go_sem]) (fun h => by cases h) (fun _ => ?_)
 refine J0 rfl ?_
 simp only [z6, go_sem]
 refine ⟨rfl, [some 0, some 1, some 2, some 3, some 4, some 5, some 6, some 7, some 8, some 9, some 10, some 11, some 12, some 13], [], ?_⟩
 simp only [go_sem, *]
end Go.Abs

namespace Go.Abs
open Go Go.Proofs Tryz
attribute [local irreducible] y3 Hold y7
theorem L0 {α : Type} {cmp : α → α → Int} : ∀ {L : List α} {B : Option α} {b : α}, y9 cmp B L = some b → B = some b ∨ b ∈ L
 | [], B, b, h => by cases B <;> exact .inl h
 | x :: r, none, b, h => by
  rw [y9] at h
  rcases L0 h with h | h
  ·cases h; exact .inr (by simp)
  ·exact .inr (by simp [h])
 | x :: r, some y, b, h => by
  rw [y9] at h
  split at h
  ·rcases L0 h with h | h
   ·cases h; exact .inr (by simp)
   ·exact .inr (by simp [h])
  ·rcases L0 h with h | h
   ·exact .inl h
   ·exact .inr (by simp [h])
@[go_sem] theorem zLg (pre : List Str) (x : AV) : List.take (pre.length + 1) (List.map sV pre ++ [x]) = List.map sV pre ++ [x] := List.take_of_length_le (by simp)
def X5 (B : Option (List Str)) : Prop := ∀ b, B = some b → b.length ≤ 1000
theorem zDS {l : List Rule} {to now : Str} {n : Nat} {pre : List Str} {B : Option (List Str)} (h : pre.length + n ≤ 900) (hB : X5 B) : X5 (y9 zLp B (p5 l to n now pre)) := fun b hb => by
 rcases L0 hb with h1 | h1
 ·exact hB b h1
 ·obtain ⟨d, rfl, hd⟩ := mem_chainsN.1 h1
  have := zA1 hd
  rw [List.length_append]; omega
theorem zHX (D : ChainD) (now : Str) (pre : List Str) (B : Option (List Str)) (hm : (pre.length : Int) = D.many) (hp : pre.length ≤ 100) (q : ¬ now = D.to) :
  zLn prog 147 (P1 now pre) (j5 0 D B) (bV true) (j5 0 D B) := by
 have sc := zAU pre (by omega)
 have g : D.many < ((pre.length + 1 : Nat) : Int) := by omega
 have hq : (now == D.to) = false := by simpa using q
 refine q7 func147 rfl (fun E hE => ?_); simp only [go_sem, ntmps147]
 repeat' (first | (refine Qr rfl ?_; try intro _ hK; try simp only [go_sem, *]) | (refine Qi rfl rfl rfl rfl ?_ ?_ <;> (intro hb; (try intro _ hK); have hc := hb; try simp only [go_sem] at hc; simp only [go_sem, *])) | refine Qh rfl ?_ | (refine o9 (sc) ?_; simp only [go_sem, *]) | ((with_reducible apply And.intro); focus omega) | (refine z8 hK ?_; clear hK; simp only [go_sem, *]) | simp only [z7, z6, go_sem, *])
 refine F4 rfl ⟨true, by simp only [go_sem, *], fun _ => ?_, fun e => by cases e⟩
 refine F6 rfl ?_
 refine J5 6 rfl rfl rfl ?_
 simp only [List.take_succ_cons, List.take_zero, List.drop_succ_cons, List.drop_zero]
 repeat' (first | (refine Qr (ops := _ :: _) rfl ?_; try intro _ hK; try simp only [go_sem, *]) | (refine Qi rfl rfl rfl rfl ?_ ?_ <;> (intro hb; (try intro _ hK); have hc := hb; try simp only [go_sem] at hc; simp only [go_sem, *])) | ((with_reducible apply And.intro); focus omega) | (refine z8 hK ?_; clear hK; simp only [go_sem, *]) | simp only [z7, z6, go_sem, *])
 refine r4 ?_
 refine zBV rfl rfl (by simp only [go_sem, *]) ?_
 refine ⟨by show 28 < 45; omega, ?_⟩
 simp only [go_sem, *]
 repeat' (first | (refine Qr rfl ?_; try intro _ hK; try simp only [go_sem, *]) | (refine Qi rfl rfl rfl rfl ?_ ?_ <;> (intro hb; (try intro _ hK); have hc := hb; try simp only [go_sem] at hc; simp only [go_sem, *])) | refine Qh rfl ?_ | (refine Qc rfl rfl ?_ ?_ <;> (intro hb; have hc := hb; try simp only [go_sem] at hc)) | refine q6 rfl ?_ | ((with_reducible apply And.intro); focus omega) | (refine z8 hK ?_; clear hK; simp only [go_sem, *]) | simp only [z7, z6, go_sem, *])
 refine ⟨[bV true], [some 0, some 1, some 2, some 3, some 4, some 5, some 6, some 7, some 8], [], ⟨by simp only [T7, go_sem], trivial⟩, ?_⟩
 simp only [go_sem, *]
theorem zHY (D : ChainD) (now : Str) (pre : List Str) (B : Option (List Str)) (hm : (pre.length : Int) = D.many) (hp : pre.length ≤ 100) (q : now = D.to) (hB : X5 B) :
  zLn prog 147 (P1 now pre) (j5 0 D B) (bV true) (j5 0 D (y9 zLp B [pre ++ [now]])) := by
 have sc := zAU pre (by omega)
 have g : D.many < ((pre.length + 1 : Nat) : Int) := by omega
 have hq : (now == D.to) = true := by simpa using q
 have sy := zIT D.fnF B (pre ++ [now]) hB (by simp; omega)
 generalize y9 zLp B [pre ++ [now]] = B' at *
 clear q
 refine q7 func147 rfl (fun E hE => ?_); simp only [go_sem, ntmps147]
 repeat' (first | (refine Qr rfl ?_; try intro _ hK; try simp only [go_sem, *]) | (refine Qi rfl rfl rfl rfl ?_ ?_ <;> (intro hb; (try intro _ hK); have hc := hb; try simp only [go_sem] at hc; simp only [go_sem, *])) | refine Qh rfl ?_ | (refine o9 (sc) ?_; simp only [go_sem, *]) | ((with_reducible apply And.intro); focus omega) | (refine z8 hK ?_; clear hK; simp only [go_sem, *]) | simp only [z7, z6, go_sem, *])
 refine T0 (N := 45) (env := [(21, bV true), (0, sV now), (3, .ptr 1 0), (4, .ptr 2 0), (10, .ptr 10 0), (9, .ptr 9 0)]) (As := j5 0 D B ++ [.box [bV false], .box [y4 (pre ++ [now])]]) [some 0, some 1, some 2, some 3, some 4, some 5, some 6, some 7, some 8, some 9, some 13] [12] (by (simp only [Weak, go_sem, List.map_append, List.map_set, *] <;> (try simp (disch := omega) only [r6]) <;> (try simp) <;> (try omega))) ?_
 refine F4 rfl ⟨true, by simp only [go_sem, *], fun _ => ?_, fun e => by cases e⟩
 refine F6 rfl ?_
 refine J5 6 rfl rfl rfl ?_
 simp only [List.take_succ_cons, List.take_zero, List.drop_succ_cons, List.drop_zero, go_sem]
 repeat' (first | (refine Qr (ops := _ :: _) rfl ?_; try intro _ hK; try simp only [go_sem, *]) | (refine Qi rfl rfl rfl rfl ?_ ?_ <;> (intro hb; (try intro _ hK); have hc := hb; try simp only [go_sem] at hc; simp only [go_sem, *])) | ((with_reducible apply And.intro); focus omega) | (refine z8 hK ?_; clear hK; simp only [go_sem, *]) | simp only [z7, z6, go_sem, *])
 refine r4 ?_
 refine zBX rfl rfl (by simp only [go_sem, *]) ?_
 refine ⟨by show 28 < 45; omega, ?_⟩
 simp only [go_sem]
 refine E4 [5, 6, 7, 8] [] sy rfl rfl (by simp) (by simp only [go_sem]) (by simp only [go_sem]) (by simp) (.inl rfl) (by simp [go_sem]) (by simp [go_sem]) ?_
 simp only [go_sem]
 repeat' (first | (refine Qr rfl ?_; try intro _ hK; try simp only [go_sem, *]) | (refine Qi rfl rfl rfl rfl ?_ ?_ <;> (intro hb; (try intro _ hK); have hc := hb; try simp only [go_sem] at hc; simp only [go_sem, *])) | refine Qh rfl ?_ | (refine Qc rfl rfl ?_ ?_ <;> (intro hb; have hc := hb; try simp only [go_sem] at hc)) | refine q6 rfl ?_ | ((with_reducible apply And.intro); focus omega) | (refine z8 hK ?_; clear hK; simp only [go_sem, *]) | simp only [z7, z6, go_sem, *])
 refine ⟨[bV true], [some 0, some 1, some 2, some 3, some 4, some 5, some 6, some 7, some 8], [], ⟨by simp only [T7, go_sem], trivial⟩, ?_⟩
 simp only [go_sem, *]
theorem zHZ (D : ChainD) (n : Nat) (IH : ∀ (D : ChainD) (now : Str) (pre : List Str) (B : Option (List Str)), (pre.length : Int) + n = D.many → pre.length + n ≤ 100 → x7 now 1 12 = true → X5 B → D.l.length ≤ 1000 → (∀ r, r ∈ D.l → r.src.length ≤ 1000 ∧ r.dst.length ≤ 1000) →
      zLn prog 147 (P1 now pre) (j5 0 D B) (bV true) (j5 0 D (y9 zLp B (p5 D.l D.to n now pre))))
    (now : Str) (pre : List Str) (B : Option (List Str)) (hm : (pre.length : Int) + (n + 1 : Nat) = D.many) (hp : pre.length + (n + 1) ≤ 100) (hn : x7 now 1 12 = true) (hB : X5 B) (hl : D.l.length ≤ 1000) (hr : ∀ r, r ∈ D.l → r.src.length ≤ 1000 ∧ r.dst.length ≤ 1000) :
    zLn prog 147 (P1 now pre) (j5 0 D B) (bV true) (j5 0 D (y9 zLp B (p5 D.l D.to (n + 1) now pre))) := by
  have sc := zAU pre (by omega)
  have su := zHw now D.l
  have g : ¬ D.many < ((pre.length + 1 : Nat) : Int) := by omega
  have hnl : now.length ≤ 1000 := by
    unfold x7 at hn
    simp only [Bool.and_eq_true, decide_eq_true_eq] at hn
    omega
  have s1 : ∀ fn, zLn prog 170 [.yld 0, .ptr 14 0, .ptr 15 0] (o5 0 { D with fnG := fn } (pre ++ [now]) ([], B) ++ [.box [x4 D.l], .box [sV now]]) (.tup []) (o5 0 { D with fnG := fn } (pre ++ [now]) ((p4 D.l now).foldl (b9 D.l D.to n (pre ++ [now])) ([], B)) ++ [.box [x4 D.l], .box [sV now]]) := fun fn =>
    zHx { D with fnG := fn } (pre ++ [now]) (fun S => (∀ x, x ∈ S.1 → x.length ≤ 1000) ∧ X5 S.2) (b9 D.l D.to n (pre ++ [now]))
      (fun S s hG hs => by
        have hsl : s.length ≤ 1000 := by
          unfold x7 at hs
          simp only [Bool.and_eq_true, decide_eq_true_eq] at hs
          omega
        by_cases h : s ∈ S.1
        · have e : b9 D.l D.to n (pre ++ [now]) S s = S := by unfold b9; rw [if_pos h]
          rw [e]; exact zIa _ _ S s hG.1 hsl h
        · have e : b9 D.l D.to n (pre ++ [now]) S s = (S.1 ++ [s], y9 zLp S.2 (p5 D.l D.to n s (pre ++ [now]))) := by unfold b9; rw [if_neg h]
          rw [e]
          exact zIZ _ _ S _ s hG.1 hsl h (IH { D with fnG := fn } s (pre ++ [now]) S.2 (by simp; omega) (by simp; omega) hs hG.2 hl hr))
      (fun S s hG hs => by
        have hsl : s.length ≤ 1000 := by
          unfold x7 at hs
          simp only [Bool.and_eq_true, decide_eq_true_eq] at hs
          omega
        unfold b9
        split
        · exact hG
        · refine ⟨fun x hx => ?_, zDS (by simp; omega) hG.2⟩
          rcases List.mem_append.1 hx with hx | hx
          · exact hG.1 x hx
          · rw [List.mem_singleton.1 hx]; exact hsl)
      now D.l hnl hl hr ([], B) ⟨fun x hx => (by cases hx), hB⟩
  have e := zEn D.l D.to n now pre B
  obtain ⟨S', hS'⟩ : ∃ S', (p4 D.l now).foldl (b9 D.l D.to n (pre ++ [now])) ([], B) = S' := ⟨_, rfl⟩
  rw [hS'] at e
  simp only [hS'] at s1
  rw [← e]
  clear e hS' IH hn hnl hr hB
  refine q7 func147 rfl (fun E hE => ?_); simp only [go_sem, ntmps147]
  repeat' (first | (refine Qr rfl ?_; try intro _ hK; try simp only [go_sem, *]) | (refine Qi rfl rfl rfl rfl ?_ ?_ <;> (intro hb; (try intro _ hK); have hc := hb; try simp only [go_sem] at hc; simp only [go_sem, *])) | refine Qh rfl ?_ | (refine o9 (sc) ?_; simp only [go_sem, *]) | ((with_reducible apply And.intro); focus omega) | (refine z8 hK ?_; clear hK; simp only [go_sem, *]) | simp only [z7, z6, go_sem, *])
  refine F4 rfl ⟨false, by simp only [go_sem, *], fun e => (by cases e), fun _ => ?_⟩
  repeat' (first | (refine Qr rfl ?_; try intro _ hK; try simp only [go_sem, *]) | (refine Qi rfl rfl rfl rfl ?_ ?_ <;> (intro hb; (try intro _ hK); have hc := hb; try simp only [go_sem] at hc; simp only [go_sem, *])) | refine Qh rfl ?_ | (refine Qc rfl rfl ?_ ?_ <;> (intro hb; have hc := hb; try simp only [go_sem] at hc)) | refine q6 rfl ?_ | ((with_reducible apply And.intro); focus omega) | (refine z8 hK ?_; clear hK; simp only [go_sem, *]) | simp only [z7, z6, go_sem, *])
  refine o9 su ?_ (hu := by (intro j hj; simp only [List.length_cons, List.length_nil] at hj; (obtain rfl | rfl : j = 0 ∨ j = 1 := by omega) <;> simp [go_sem]))
  simp only [go_sem, *]
  repeat' (first | (refine Qr rfl ?_; try intro _ hK; try simp only [go_sem, *]) | (refine Qi rfl rfl rfl rfl ?_ ?_ <;> (intro hb; (try intro _ hK); have hc := hb; try simp only [go_sem] at hc; simp only [go_sem, *])) | refine Qh rfl ?_ | (refine Qc rfl rfl ?_ ?_ <;> (intro hb; have hc := hb; try simp only [go_sem] at hc)) | refine q6 rfl ?_ | ((with_reducible apply And.intro); focus omega) | (refine z8 hK ?_; clear hK; simp only [go_sem, *]) | simp only [z7, z6, go_sem, *])
  refine T0 (N := 45) (env := [(33, .fn 170 [.ptr 13 0, .ptr 14 0]), (11, .ptr 11 0), (10, .ptr 10 0), (6, .ptr 4 0), (9, .ptr 9 0)]) (As := j5 0 D B ++ [.box [bV false], .box [y4 (pre ++ [now])], .box [.mp 12], .mapo [] [], .box [x4 D.l], .box [sV now]]) [some 0, some 1, some 2, some 3, some 4, some 5, some 6, some 7, some 8, some 9, some 13, some 15, some 14, some 16, some 17] [12] (by (simp only [Weak, go_sem, List.map_append, List.map_set, *] <;> (try simp (disch := omega) only [r6]) <;> (try simp) <;> (try omega))) ?_
  refine F5 (f := 170) (caps := [.ptr 13 0, .ptr 14 0]) rfl (by simp only [go_sem]) (by kernel_rfl) (nx := 15) (by simp only [go_sem]) (fun fn => ⟨16, ?_⟩)
  refine u9 [15, 0, 1, 2, 3, 4, 5, 6, 7, 8, 10, 11, 12, 9, 13, 14] [] (s1 fn) (by simp) (by simp only [go_sem]) ?_ (by simp) (.inl rfl) (by simp [go_sem]) (by simp [go_sem]) ?_
  · simp only [go_sem, *]
    rfl
  · simp only [go_sem, *]
    refine ⟨P2 fn, [(11, .ptr 11 0), (10, .ptr 10 0), (6, .ptr 4 0), (9, .ptr 9 0)], none, by simp only [go_sem], ?_⟩
    simp only [go_sem]
    repeat' (first | (refine Qr rfl ?_; try intro _ hK; try simp only [go_sem, *]) | (refine Qi rfl rfl rfl rfl ?_ ?_ <;> (intro hb; (try intro _ hK); have hc := hb; try simp only [go_sem] at hc; simp only [go_sem, *])) | refine Qh rfl ?_ | (refine Qc rfl rfl ?_ ?_ <;> (intro hb; have hc := hb; try simp only [go_sem] at hc)) | refine q6 rfl ?_ | ((with_reducible apply And.intro); focus omega) | (refine z8 hK ?_; clear hK; simp only [go_sem, *]) | simp only [z7, z6, go_sem, *])
    refine ⟨[bV true], [some 0, some 1, some 2, some 3, some 4, some 5, some 6, some 7, some 8], [], ⟨by simp only [T7, go_sem], trivial⟩, ?_⟩
    simp only [go_sem, *]
end Go.Abs

namespace Go.Abs
open Go Go.Proofs Tryz
attribute [local irreducible] y3 Hold y7
theorem zEG {α : Type} (cmp : α → α → Int) (B : Option α) : y9 cmp B [] = B := by cases B <;> rfl
theorem zCj : ∀ (n : Nat) (D : ChainD) (now : Str) (pre : List Str) (B : Option (List Str)), (pre.length : Int) + n = D.many → pre.length + n ≤ 100 → x7 now 1 12 = true → X5 B → D.l.length ≤ 1000 → (∀ r, r ∈ D.l → r.src.length ≤ 1000 ∧ r.dst.length ≤ 1000) →
  zLn prog 147 (P1 now pre) (j5 0 D B) (bV true) (j5 0 D (y9 zLp B (p5 D.l D.to n now pre)))
 | 0, D, now, pre, B, hm, hp, hn, hB, hl, hr => by
  rw [p5]
  by_cases q : now = D.to
  ·rw [if_pos q]; exact zHY D now pre B (by simpa using hm) (by omega) q hB
  ·rw [if_neg q, zEG]; exact zHX D now pre B (by simpa using hm) (by omega) q
 | n + 1, D, now, pre, B, hm, hp, hn, hB, hl, hr => zHZ D n (zCj n) now pre B hm hp hn hB hl hr
theorem zHS (D : ChainD) (k : Str) (n : Nat) (B : Option (List Str)) (hm : (n : Int) = D.many) (hp : n ≤ 100) (hk1 : x7 k 1 12 = true) (hB : X5 B) (hl : D.l.length ≤ 1000) (hr : ∀ r, r ∈ D.l → r.src.length ≤ 1000 ∧ r.dst.length ≤ 1000) :
  zLn prog 146 [.yld 0, .ptr 4 0, .ptr 5 0, .ptr 6 0, .ptr 7 0] [.loopo (j6 D.fnF) [(3, .ptr 1 0), (6, .ptr 2 0), (7, .ptr 3 0)] (some none), .box [c8], .box [r7 B], .box [bV B.isSome], .box [iV D.many], .box [sV D.to], .box [x4 D.l], .box [sV k]] (.tup [])
   [.loopo (j6 D.fnF) [(3, .ptr 1 0), (6, .ptr 2 0), (7, .ptr 3 0)] (some none), .box [c8], .box [r7 (y9 zLp B (p5 D.l D.to n k []))], .box [bV (y9 zLp B (p5 D.l D.to n k [])).isSome], .box [iV D.many], .box [sV D.to], .box [x4 D.l], .box [sV k]] := by
 have hca : t8 prog 147 = true := by kernel_rfl
 have sg := zCj n D k [] B (by simpa using hm) (by simpa using hp) hk1 hB hl hr
 generalize y9 zLp B (p5 D.l D.to n k []) = B' at *
 clear hr
 refine q7 func146 rfl (fun E hE => ?_); simp only [go_sem, ntmps146]
 repeat' (first | (refine Qr rfl ?_; try intro _ hK; try simp only [go_sem, *]) | refine Qh rfl ?_ | (refine Qc rfl rfl ?_ ?_ <;> (intro hb; have hc := hb; try simp only [go_sem] at hc)) | refine q6 rfl ?_ | ((with_reducible apply And.intro); focus omega) | (refine z8 hK ?_; clear hK; simp only [go_sem, *]) | simp only [z7, z6, go_sem, *])
 refine w5 [4, 5, 8, 6, 9, 0, 1, 2, 3] sg ?_
 simp only [go_sem, *]
 repeat' (first | (refine Qr rfl ?_; try intro _ hK; try simp only [go_sem, *]) | refine Qh rfl ?_ | (refine Qc rfl rfl ?_ ?_ <;> (intro hb; have hc := hb; try simp only [go_sem] at hc)) | refine q6 rfl ?_ | ((with_reducible apply And.intro); focus omega) | (refine z8 hK ?_; clear hK; simp only [go_sem, *]) | simp only [z7, z6, go_sem, *])
 refine ⟨[], [some 0, some 1, some 2, some 3, some 4, some 5, some 6, some 7], [], trivial, ?_⟩
 simp only [go_sem, j8, *]
theorem zHR (k : Str) (l : List Rule) (to : Str) (many : Int) : zLn prog 125 [sV k, x4 l, sV to, iV many] [] (.fn 146 [.ptr 0 0, .ptr 1 0, .ptr 2 0, .ptr 3 0]) [.box [iV many], .box [sV to], .box [x4 l], .box [sV k]] := by
 refine q7 func125 rfl (fun E hE => ?_); simp only [go_sem, ntmps125]
 repeat' (first | (refine Qr rfl ?_; try intro _ hK; try simp only [go_sem, *]) | refine Qh rfl ?_ | (refine Qc rfl rfl ?_ ?_ <;> (intro hb; have hc := hb; try simp only [go_sem] at hc)) | refine q6 rfl ?_ | ((with_reducible apply And.intro); focus omega) | (refine z8 hK ?_; clear hK; simp only [go_sem, *]) | simp only [z7, z6, go_sem, *])
 refine ⟨[_], [some 3, some 2, some 1, some 0], [], ⟨rfl, trivial⟩, ?_⟩
 simp only [go_sem, *]
theorem zHV (k : Str) (l : List Rule) (to : Str) (n : Nat) (hp : n ≤ 100) (hk1 : x7 k 1 12 = true) (hl : l.length ≤ 1000) (hr : ∀ r, r ∈ l → r.src.length ≤ 1000 ∧ r.dst.length ≤ 1000) :
  zLn prog 124 [.fn 146 [.ptr 0 0, .ptr 1 0, .ptr 2 0, .ptr 3 0], c8] [.box [iV n], .box [sV to], .box [x4 l], .box [sV k]] (.tup [r7 (e7 l n k to), bV (e7 l n k to).isSome]) [.box [iV n], .box [sV to], .box [x4 l], .box [sV k]] := by
 have s1 := fun fn => zHS ⟨n, to, l, 0, fn⟩ k n none rfl hp hk1 (fun b h => by cases h) hl hr
 have e : e7 l n k to = y9 zLp none (p5 l to n k []) := rfl
 rw [e]
 simp only at s1
 generalize y9 zLp none (p5 l to n k []) = B at *
 clear hr e
 refine q7 func124 rfl (fun E hE => ?_); simp only [go_sem, ntmps124]
 repeat' (first | (refine Qr rfl ?_; try intro _ hK; try simp only [go_sem, *]) | refine Qh rfl ?_ | refine Qd rfl (by kernel_rfl) ?_ | (refine Qc rfl rfl ?_ ?_ <;> (intro hb; have hc := hb; try simp only [go_sem] at hc)) | refine q6 rfl ?_ | (refine Qb ?_ ?_; focus kernel_rfl) | ((with_reducible apply And.intro); focus omega) | (refine z8 hK ?_; clear hK; simp only [go_sem, *]) | simp only [z7, z6, go_sem, *])
 refine T0 (N := 23) (env := [(9, .fn 146 [.ptr 0 0, .ptr 1 0, .ptr 2 0, .ptr 3 0]), (3, .ptr 4 0), (6, .ptr 5 0), (7, .ptr 6 0)]) (As := [.box [iV n], .box [sV to], .box [x4 l], .box [sV k], .box [c8], .box [r7 none], .box [bV false]]) [some 0, some 1, some 2, some 3, some 4, some 5, some 6] [] (by (simp only [Weak, go_sem, List.map_append, List.map_set, *] <;> (try simp (disch := omega) only [r6]) <;> (try simp) <;> (try omega))) ?_
 refine F5 (f := 146) (caps := [.ptr 0 0, .ptr 1 0, .ptr 2 0, .ptr 3 0]) rfl (by simp only [go_sem]) (by kernel_rfl) (nx := 7) (by simp only [go_sem]) (fun fn => ⟨8, ?_⟩)
 refine u9 [7, 4, 5, 6, 0, 1, 2, 3] [] (s1 fn) (by simp) (by simp only [go_sem]) ?_ (by simp) (.inl rfl) (by simp [go_sem]) (by simp [go_sem]) ?_
 ·simp only [go_sem, *]
  first | rfl | exact ⟨rfl, rfl⟩
 ·simp only [go_sem, *]
  refine ⟨j6 fn, [(3, .ptr 4 0), (6, .ptr 5 0), (7, .ptr 6 0)], none, by simp only [go_sem], ?_⟩
  simp only [go_sem]
  repeat' (first | (refine Qr rfl ?_; try intro _ hK; try simp only [go_sem, *]) | refine Qh rfl ?_ | refine Qd rfl (by kernel_rfl) ?_ | (refine Qc rfl rfl ?_ ?_ <;> (intro hb; have hc := hb; try simp only [go_sem] at hc)) | refine q6 rfl ?_ | (refine Qb ?_ ?_; focus kernel_rfl) | ((with_reducible apply And.intro); focus omega) | (refine z8 hK ?_; clear hK; simp only [go_sem, *]) | simp only [z7, z6, go_sem, *])
  refine ⟨[_, _], [some 0, some 1, some 2, some 3], [], ⟨rfl, rfl, trivial⟩, ?_⟩
  simp only [go_sem, *]
end Go.Abs

namespace Go.Abs
open Go
theorem zF4 {c : UInt8} (hc : w6 c = true) : y6 c = false := by
 unfold w6 at hc
 unfold y6
 rw [Bool.and_eq_true, Bool.and_eq_true, decide_eq_true_eq, decide_eq_true_eq] at hc
 simp; omega
theorem ValidN.mem0 {s : Str} (v : ValidN s) : s.getD 0 0 ∈ s := by
 cases s with
 | nil => have := v.ne; simp at this
 | cons c r => simp
theorem ValidN.latin {s : Str} (v : ValidN s) (h : y6 (s.getD 0 0) = true) : s.all y6 = true := by
 have hf := v.form
 unfold o0 at hf
 rw [Bool.or_eq_true] at hf
 rcases hf with hf | hf
 ·exact hf
 ·have := zF4 (List.all_eq_true.1 hf _ v.mem0)
  rw [h] at this; cases this
theorem ValidN.other {s : Str} (v : ValidN s) (h : y6 (s.getD 0 0) = false) : s.all w6 = true := by
 have hf := v.form
 unfold o0 at hf
 rw [Bool.or_eq_true] at hf
 rcases hf with hf | hf
 ·have := List.all_eq_true.1 hf _ v.mem0
  rw [h] at this; cases this
 ·exact hf
theorem ValidN.check {s : Str} (v : ValidN s) : x6 s = 0 := checkN_zero.2 v
theorem zKu {s : Str} (v : ValidN s) : T4 s = 0 ∨ T4 s = 11 := by
 unfold T4
 rw [if_pos v.check]
 split <;> simp
theorem zKt {s : Str} (v : ValidN s) (h : T4 s = 0) : ValidN (O1 s) ∧ (O1 s).all w6 = true ∧ zLm (O1 s) = zLm s := by
 unfold T4 at h
 unfold O1
 rw [if_pos v.check] at h ⊢
 cases e : P0 (zLm s) with
 | none => rw [e] at h; simp at h
 | some o =>
  obtain ⟨h1, h2⟩ := zEp e
  have hlen : 0 < o.length ∧ o.length ≤ 6 := by
   have k1 := T2 o
   have k2 := T2 s
   rw [h2] at k1
   have hne := v.ne
   have h6 := v.len
   by_cases hl : y6 (s.getD 0 0) = true
   ·have := L6 (v.latin hl)
    rw [this] at k1
    omega
   ·have ho := v.other (by simpa using hl)
    have := zEo ho
    rw [this] at e
    cases e
    omega
  refine ⟨⟨hlen.1, hlen.2, ?_⟩, h1, h2⟩
  unfold o0
  simp only [Option.getD_some]
  rw [h1]; simp
theorem zJR {a b : Str} (h : w7 (zLm a) (zLm b) = true) : w3 a b = -1 := by
 unfold w3 orI
 have h1 := cmpS_neg.2 h
 have : zLq (zLm a) (zLm b) = -1 := by unfold zLq; rw [if_pos h]
 rw [this]; rfl
theorem zJQ {a b : Str} (va : ValidN a) (vb : ValidN b) (hk : zLm a = zLm b) (h : w3 a b = -1) : y6 (a.getD 0 0) = true := by
 have := (zDq va vb).1 (by omega)
 unfold M3 at this
 rw [if_pos hk, Bool.and_eq_true] at this
 exact this.1
theorem zJS {a b c : Str} (h1 : w3 a b < 0) (h2 : w3 b c < 0) : w3 a c < 0 := by
 apply Decidable.of_not_not
 intro h
 have h3 : ¬ w3 c b < 0 := by have := D8 b c; omega
 have := zBR h h3
 exact this h1
theorem zDh {r : List Rule} {a b : Str} (hr : u7 r = 0) (va : ValidN a) (vb : ValidN b) : j3 r a b = 0 := by
 unfold j3
 rw [if_pos hr, if_pos va.check, vb.check]
theorem zDg {r : List Rule} {a b : Str} (hr : u7 r = 0) (va : ValidN a) (vb : ValidN b) : (u0 r a b = 0 ∧ f6 r a b = zLs r a b ∧ zLs r a b ≤ 2 ∧ 0 ≤ zLs r a b) ∨ (u0 r a b = 11 ∧ f6 r a b = 0 ∧ zLs r a b = 9) := by
 have hp := zDh hr va vb
 unfold f6 u0 M6 zLs
 rw [if_pos hp, if_pos hp]
 cases h : a7 r a b with
 | none => exact .inr ⟨by simp, by simp, rfl⟩
 | some c =>
  obtain ⟨m, h1, h2, _⟩ := I9 h
  refine .inl ⟨by simp, by simp, ?_, ?_⟩
  ·simp only; omega
  ·simp only; omega
end Go.Abs

