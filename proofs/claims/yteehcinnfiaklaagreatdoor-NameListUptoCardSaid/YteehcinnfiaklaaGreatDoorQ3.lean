/-
  WHAT THE PROOF STANDS ON, PART 3: contracts of the program's functions and the logic that they are proved in. No condition.
-/
import Derived.Test.YteehcinnfiaklaaGreatDoorRows
import Derived.ProofKit
import Derived.OpenShut
import Derived.JoinedCond
import Derived.ChangeSlices
import Derived.Carry
import Derived.KernelRfl
import Derived.Shelf.Strings.OnBuilder
import Derived.Shelf.Strings.Runes
import Derived.Test.YteehcinnfiaklaaGreatDoorProg
import Derived.Test.YteehcinnfiaklaaGreatDoorCards
import Derived.Deep.DeepHandedRow
import Derived.Deep.DeepWitnessRowRef
import Derived.Lib.LaidCaseMet
import Derived.Maps.Keyed
import Derived.DeepKeys3
import Derived.Test.YteehcinnfiaklaaGreatDoorQ2
set_option maxRecDepth 100000
set_option maxHeartbeats 4000000
set_option linter.unusedVariables false
set_option linter.unusedSimpArgs false
set_option linter.unusedSectionVars false
namespace Go.Abs
open Go Go.Proofs Go.Proofs.YteehcinnfiaklaaGreatDoor Go.ChangeShapes Go.WideShapes Go.ChangeAt Go.RowKit
theorem zME : ownKnob Tryz.prog.godebug = none := by kernel_rfl
theorem zJK : laidOutB Tryz.prog = true := by kernel_rfl
abbrev zLa (w : World) : Nat → Prop := fun b => b < w.heap.size
theorem zHD (w : World) : SR (j7 w (zLa w) 0 (fun _ => .un)) (zLa w) (fun _ => .un) (hs []) X6 w :=
 ⟨.nil, rfl, fun t => .pure (.any _), fun o => rfl, fun o o' b c c' h => by simp [hs, zKx, AS.obj, lkO, AObj.live] at h, fun b hb => hb, fun o b c h => by simp [hs, zKx, AS.obj, lkO, AObj.live] at h,
  ⟨rfl, rfl, rfl, Nat.le_refl _, fun b _ _ => rfl, fun _ => Nat.le_refl _, fun p hp => by simp [A2] at hp⟩, fun b hb => hb, fun b hb => .inl hb, fun k hk => absurd hk (Nat.not_lt_zero k)⟩
theorem zIV {f : FuncId} {args : List AV} (sp : zKq Tryz.prog f args [] (bV true) []) (w : World) (vs : Array Value) (hl : vs.size = args.length) (hv : ∀ i (h : i < args.length) (h' : i < vs.size), PR w (zLa w) args[i] vs[i]) :
  Calls Tryz.prog f vs w fun e w' => e = .returned (.bool true) ∧ Below w.heap.size w w' := by
 refine (sp w (zLa w) (fun _ => .un) vs (zHD w) hl (fun i h h' => .pure (hv i h h'))).mono ?_
 rintro e w' ⟨v, I', loc', rfl, hp⟩
 have hr := hp.val.raw_eq
 subst hr
 have fr := hp.sr.fr
 exact ⟨rfl, fr.os, fr.tape, fr.output, fr.size, fun k hk => fr.block k hk (fun ⟨j, c, hj, _⟩ => absurd hj (Nat.not_lt_zero j))⟩
theorem zFK {H : Type} (d : DataW H) : 1 ≤ Rows.uptoBulk d := by
 cases d with
 | lit l => cases l <;> simp [Rows.uptoBulk]
 | _ => simp [Rows.uptoBulk]
theorem length_le {H : Type} (l : List (DataW H)) : l.length ≤ Rows.uptoBulkAll l := by
 induction l with
 | nil => simp [Rows.uptoBulkAll]
 | cons x r ih => have := zFK x; simp only [Rows.uptoBulkAll, List.length_cons]; omega
theorem zHo {H : Type} {enc : TypeId × Value → H} {W : World} {v : Value} {d : DataW H} {ps : List MemPlace} (hval : Value.okWide Tryz.prog W .any 0 23 v ∨ ∃ base, Value.okWide Tryz.prog W .any base 23 v)
    (h : DataW.Trod enc Tryz.prog W 0 (fun _ => true) true 23 v d ps) (hk : Rows.uptoBulk d ≤ 1048576) : ∃ l : List Int, PR W (zLa W) (.list (l.map iV)) v ∧ l.length ≤ 1048576 := by
  have hsl : ∃ a len cap, v = .slice a len cap := by
    rcases hval with hval | ⟨base, hval⟩
    · exact okWide_slice Tryz.underlying23 hval
    · exact okWide_slice Tryz.underlying23 hval
  obtain ⟨a, len, cap, rfl⟩ := hsl
  obtain ⟨fuel, hf⟩ := h
  have hc : Tryz.prog.cellsOf 3 = 1 := by kernel_rfl
  rcases open_ints Tryz.underlying23 Tryz.underlying3 hc hf with ⟨hcs, _⟩ | ⟨a0, len0, cap0, zs, hcs, _, hle, hm, hz, hx, hcell, hwz⟩
  · have e : Value.slice a len cap = .slice none 0 0 := by simpa [Value.cells] using hcs
    rw [e]
    exact ⟨[], .nil _ _, by simp⟩
  · have e : Value.slice a len cap = .slice (some a0) len0 cap0 := by simpa [Value.cells] using hcs
    rw [e]
    simp only [if_true] at hz
    have hd := congrArg Prod.fst hx
    simp only at hd
    subst hd
    have hlen : (zs.take len0).length = len0 := by simp; omega
    refine ⟨zs.take len0, ?_, ?_⟩
    · by_cases h0 : len0 = 0
      · subst h0; exact .nil _ _
      · have h1 := hcell 0 (by omega)
        have hspot : a0.spot = none := by
          unfold World.cell? at h1
          split at h1
          · split at h1
            · cases h1
            · rename_i hs
              simpa [Addr.add] using hs
          · cases h1
        have hblk : a0.block < W.heap.size := by
          unfold World.cell? at h1
          split at h1
          · rename_i hb
            have := (Array.getElem?_eq_some_iff.1 hb).1
            simpa [Addr.add] using this
          · cases h1
        obtain ⟨b, off, sp⟩ := a0
        simp only at hspot hblk
        subst hspot
        have key := PR.list (w := W) (I := zLa W) b off cap0 1 ((zs.take len0).map iV) (fun i _ => .int .i64 (zs.getD i 0)) hblk (by omega) (by simp; omega) (fun i hi => by simp [AV.cells])
          (fun i j hi hj => by
            have hi' : i < zs.length := by simp at hi; omega
            have := hcell i hi'
            have hj0 : j = 0 := by omega
            subst hj0
            have ea : (⟨b, off, none⟩ : Addr).add i = ⟨b, off + i * 1 + 0, none⟩ := by
              unfold Addr.add
              split
              · rename_i h; subst h; simp
              · simp
            rw [ea] at this; exact this)
          (fun i hi j hj => by
            have hi' : i < zs.length := by simp at hi; omega
            have hj0 : j = 0 := by simp [AV.cells] at hj; omega
            subst hj0
            have e2 : (((zs.take len0).map iV)[i]).cells[0] = iV (zs.getD i 0) := by simp [AV.cells, List.getD, hi']
            rw [e2]
            exact .raw _ rfl)
        rw [List.length_map, hlen] at key
        exact key
    · have h1 : (zs.take len0).length ≤ Rows.uptoBulkAll (H := H) (lits .i64 (zs.take len0)) := by
        have := length_le (H := H) (lits .i64 (zs.take len0))
        simpa [lits] using this
      simp only [Rows.uptoBulk] at hk
      omega
end Go.Abs

namespace Go.Abs
open Go
theorem Plate.lt_iff (a b : Plate) : a.lt b = true ↔ a.number < b.number ∨ (a.number = b.number ∧ a.letter < b.letter) := by simp [Plate.lt]
theorem House.lt_iff (a b : House) : a.lt b = true ↔ a.street < b.street ∨ (a.street = b.street ∧ (a.plate.number < b.plate.number ∨ (a.plate.number = b.plate.number ∧ a.plate.letter < b.plate.letter))) := by simp [House.lt, Plate.lt]
theorem Plate.lt_irrefl (a : Plate) : ¬ a.lt a = true := by rw [Plate.lt_iff]; omega
theorem House.lt_irrefl (a : House) : ¬ a.lt a = true := by rw [House.lt_iff]; omega
abbrev Strict (l : List House) : Prop := l.Pairwise (fun a b => a.lt b = true)
theorem Strict.nodup {l : List House} (h : Strict l) : l.Nodup := h.imp (fun {a b} hab e => by subst e; exact House.lt_irrefl _ hab)
theorem Valid.row {p : zK1} (v : Valid p) (s : Int) : Sound (V3 p s) := by
 unfold V3
 by_cases h : s.toNat < p.length
 ·exact v.rows _ (l9 h)
 ·simp only [List.getD_eq_getElem?_getD, List.getElem?_eq_none (Nat.le_of_not_lt h), Option.getD_none]
  show Sound []
  exact ⟨by simp, fun x hx => by simp at hx, List.Pairwise.nil⟩
end Go.Abs

namespace Go.Abs
open Go
structure Fit (p : zK1) (c : Change) : Prop where
 kind : 1 ≤ c.kind ∧ c.kind ≤ 7
 street : 0 ≤ c.street ∧ c.street < p.length
 other : c.kind = 4 ∨ c.kind = 7 → 0 ≤ c.other ∧ c.other < p.length ∧ c.other ≠ c.street
 fits : zAX p c = 0
theorem Sound.nodup {l : List Plate} (h : Sound l) : l.Nodup := h.sorted.imp (fun {a b} hab e => by subst e; exact Plate.lt_irrefl _ hab)
section
variable {p : zK1} {c : Change} {x : Plate}
end
end Go.Abs

namespace Go.Abs
open Go
end Go.Abs

namespace Go.Abs
open Go
abbrev x9 (a b : Str) : Bool := Op.bytesLess a b
theorem B0 (a b : UInt8) (x y : Str) : x9 (a :: x) (b :: y) = (decide (a < b) || (a == b && x9 x y)) := rfl
theorem B1 : ∀ a : Str, x9 a a = false
 | [] => rfl
 | a :: x => by rw [B0, B1 x]; simp
theorem B2 : ∀ {a b c : Str}, x9 a b = true → x9 b c = true → x9 a c = true
 | [], [], _, h, _ => by cases h
 | [], _ :: _, [], _, h => by cases h
 | [], _ :: _, _ :: _, _, _ => rfl
 | _ :: _, [], _, h, _ => by cases h
 | _ :: _, _ :: _, [], _, h => by cases h
 | a :: x, b :: y, c :: z, h1, h2 => by
  rw [B0, Bool.or_eq_true, Bool.and_eq_true, decide_eq_true_eq, beq_iff_eq] at h1 h2 ⊢
  rw [UInt8.lt_iff_toNat_lt] at h1 h2 ⊢
  rcases h1 with h1 | ⟨rfl, h1⟩
  ·rcases h2 with h2 | ⟨rfl, h2⟩
   ·exact .inl (by omega)
   ·exact .inl h1
  ·rcases h2 with h2 | ⟨rfl, h2⟩
   ·exact .inl h2
   ·exact .inr ⟨rfl, B2 h1 h2⟩
theorem R7 : ∀ {a b : Str}, x9 a b = false → x9 b a = false → a = b
 | [], [], _, _ => rfl
 | [], _ :: _, h, _ => by cases h
 | _ :: _, [], _, h => by cases h
 | a :: x, b :: y, h1, h2 => by
  rw [B0, Bool.or_eq_false_iff] at h1 h2
  have e1 : ¬ a < b := by simpa using h1.1
  have e2 : ¬ b < a := by simpa using h2.1
  rw [UInt8.lt_iff_toNat_lt] at e1 e2
  have e : a = b := UInt8.toNat_inj.1 (by omega)
  subst e
  have g1 : x9 x y = false := by simpa using h1.2
  have g2 : x9 y x = false := by simpa using h2.2
  rw [R7 g1 g2]
theorem C9 {a b : Str} (h : x9 a b = true) : x9 b a = false := by
 cases e : x9 b a with
 | false => rfl
 | true => have := B2 h e; rw [B1] at this; cases this
def zKv (a b : Str) : Int := if x9 a b = true then -1 else if x9 b a = true then 1 else 0
theorem cmpS_neg {a b : Str} : zKv a b < 0 ↔ x9 a b = true := by
 unfold zKv
 by_cases h : x9 a b = true
 ·rw [if_pos h]; simp [h]
 ·rw [if_neg h]
  split <;> simp [h]
theorem cmpS_zero {a b : Str} : zKv a b = 0 ↔ a = b := by
 unfold zKv
 constructor
 ·intro h
  by_cases h1 : x9 a b = true
  ·rw [if_pos h1] at h; cases h
  ·rw [if_neg h1] at h
   by_cases h2 : x9 b a = true
   ·rw [if_pos h2] at h; cases h
   ·exact R7 (by simpa using h1) (by simpa using h2)
 ·rintro rfl
  simp [B1]
def y6 (c : UInt8) : Bool := decide (97 ≤ c.toNat) && decide (c.toNat ≤ 122)
def e7 (c : UInt8) : Bool := decide (65 ≤ c.toNat) && decide (c.toNat ≤ 90) && !(c == 72 || c == 81 || c == 87)
def x7 (c : UInt8) : Int := if y6 c = true then 1 else if e7 c = true then 2 else 0
def w7 (c : UInt8) : Str := if c = 67 then [99, 104] else if c = 74 then [106, 117] else if c = 88 then [115, 104] else if c = 89 then [106, 97] else if 65 ≤ c.toNat ∧ c.toNat ≤ 90 then [UInt8.ofNat (c.toNat + 32)] else [c]
def zKs (s : Str) : Str := s.flatMap w7
def o3 (s : Str) : Bool := s.all y6 || s.all e7
def y9 (s : Str) : Int := if s.length = 0 then 7 else if 6 < s.length then 10 else if o3 s = true then 0 else 2
structure ValidN (s : Str) : Prop where
 ne : 0 < s.length
 len : s.length ≤ 6
 form : o3 s = true
theorem checkN_zero {s : Str} : y9 s = 0 ↔ ValidN s := by
 unfold y9
 constructor
 ·intro h
  split at h
  ·cases h
  ·split at h
   ·cases h
   ·split at h
    ·rename_i h1 h2 h3; exact ⟨by omega, by omega, h3⟩
    ·cases h
 ·intro v
  have h1 := v.ne
  have h2 := v.len
  rw [if_neg (by omega), if_neg (by omega), if_pos v.form]
theorem zF5 {c : UInt8} (h : y6 c = true) : w7 c = [c] := by
 unfold y6 at h
 rw [Bool.and_eq_true, decide_eq_true_eq, decide_eq_true_eq] at h
 have ne : ∀ d : UInt8, d.toNat < 97 → ¬ c = d := fun d hd e => by subst e; omega
 unfold w7
 rw [if_neg (ne 67 (by decide)), if_neg (ne 74 (by decide)), if_neg (ne 88 (by decide)), if_neg (ne 89 (by decide)), if_neg (by omega)]
theorem zA0 : ∀ {s : Str}, s.all y6 = true → zKs s = s
 | [], _ => rfl
 | c :: r, h => by
  rw [List.all_cons, Bool.and_eq_true] at h
  show w7 c ++ zKs r = _
  rw [zF5 h.1, zA0 h.2]; rfl
theorem zBs (c : UInt8) : 1 ≤ (w7 c).length ∧ (w7 c).length ≤ 2 := by
 unfold w7
 repeat' split
 all_goals simp
theorem E1 : ∀ s : Str, s.length ≤ (zKs s).length ∧ (zKs s).length ≤ 2 * s.length
 | [] => by simp [zKs]
 | c :: r => by
  have h1 := zBs c
  have h2 := E1 r
  have e : zKs (c :: r) = w7 c ++ zKs r := rfl
  rw [e, List.length_append, List.length_cons]
  omega
theorem zF6 {c : UInt8} (h : e7 c = true) : ∀ d, d ∈ w7 c → y6 d = true := by
 unfold e7 at h
 rw [Bool.and_eq_true, Bool.and_eq_true, decide_eq_true_eq, decide_eq_true_eq] at h
 obtain ⟨⟨h1, h2⟩, _⟩ := h
 unfold w7
 split
 ·decide
 ·split
  ·decide
  ·split
   ·decide
   ·split
    ·decide
    ·rw [if_pos ⟨h1, h2⟩]
     intro d hd
     rw [List.mem_singleton.1 hd]
     unfold y6
     have : (UInt8.ofNat (c.toNat + 32)).toNat = c.toNat + 32 := UInt8.toNat_ofNat_of_lt' (by show c.toNat + 32 < 256; omega)
     rw [this]
     simp; omega
theorem zEi {s : Str} (h : o3 s = true) : (zKs s).all y6 = true := by
 unfold o3 at h
 rw [Bool.or_eq_true] at h
 rcases h with h | h
 ·rw [zA0 h]; exact h
 ·rw [List.all_eq_true] at h ⊢
  intro d hd
  obtain ⟨c, hc, hd⟩ := List.mem_flatMap.1 hd
  exact zF6 (h c hc) d hd
def p4 (s : Str) : Int := x7 (s.getD 0 0)
def r8 (a b : Str) : Int := orI (zKv (zKs a) (zKs b)) (zK4 (p4 a) (p4 b))
def A9 (a b : Str) : Bool := if zKs a = zKs b then y6 (a.getD 0 0) && !y6 (b.getD 0 0) else x9 (zKs a) (zKs b)
end Go.Abs

namespace Go.Abs
open Go
structure Rule where
 src : Str
 dst : Str
 deriving DecidableEq, Inhabited
@[reducible] def Rule.enc (r : Rule) : AV := .agg [sV r.src, sV r.dst]
def y8 (s : Str) (lo hi : Nat) : Bool := decide (lo ≤ s.length) && (decide (s.length ≤ hi) && s.all y6)
def Rule.ok (r : Rule) : Bool := y8 r.src 1 2 && (y8 r.dst 0 2 && !(decide (r.src = r.dst)))
def p7 (l : List Rule) : Int := if 4 < l.length then 6 else if l.all Rule.ok = true then 0 else 2
def v8 : List Str → Int
 | [] => 0
 | s :: r => if y9 s = 0 then v8 r else y9 s
def u3 (l : List Str) : Int := if 6 < l.length then 6 else v8 l
def Q3 (k a b : Str) (i : Nat) : List Str := (List.range' i (k.length + 1 - i)).flatMap fun i => if a.isPrefixOf (k.drop i) = true ∧ y8 (k.take i ++ b ++ k.drop (i + a.length)) 1 12 = true then [k.take i ++ b ++ k.drop (i + a.length)] else []
def p6 (k a b : Str) : List Str := Q3 k a b 0
def u5 (l : List Rule) (k : Str) : List Str := l.flatMap fun r => p6 k r.src r.dst ++ p6 k r.dst r.src
def Z5 (met : List Str) : List Str → List Str
 | [] => []
 | x :: r => if x ∈ met then Z5 met r else x :: Z5 (x :: met) r
theorem D2 : ∀ (l met : List Str) (x : Str), x ∈ Z5 met l ↔ x ∈ l ∧ x ∉ met
 | [], met, x => by simp [Z5]
 | y :: r, met, x => by
  rw [Z5]
  split
  ·rename_i h
   rw [D2 r met x]
   constructor
   ·rintro ⟨h1, h2⟩; exact ⟨by simp [h1], h2⟩
   ·rintro ⟨h1, h2⟩
    refine ⟨?_, h2⟩
    rcases List.mem_cons.1 h1 with rfl | h1
    ·exact absurd h h2
    ·exact h1
  ·rename_i h
   rw [List.mem_cons, D2 r _ x]
   simp only [List.mem_cons, not_or]
   constructor
   ·rintro (rfl | ⟨h1, h2, h3⟩)
    ·exact ⟨.inl rfl, h⟩
    ·exact ⟨.inr h1, h3⟩
   ·rintro ⟨h1, h2⟩
    by_cases e : x = y
    ·exact .inl e
    ·exact .inr ⟨h1.resolve_left e, e, h2⟩
def L9 (l : List Str) : List Str := Z5 [] l
theorem mem_dedupN {l : List Str} {x : Str} : x ∈ L9 l ↔ x ∈ l := by unfold L9; rw [D2]; simp
def u6 (l : List Rule) (to : Str) : Nat → Str → List Str → List (List Str)
 | 0, now, pre => if now = to then [pre ++ [now]] else []
 | n + 1, now, pre => (L9 (u5 l now)).flatMap fun s => u6 l to n s (pre ++ [now])
inductive IsChain (l : List Rule) (to : Str) : Nat → Str → List Str → Prop
 | nil : IsChain l to 0 to [to]
 | cons {n : Nat} {s s' : Str} {c : List Str} : s' ∈ u5 l s → IsChain l to n s' c → IsChain l to (n + 1) s (s :: c)
theorem mem_chainsN {l : List Rule} {to : Str} : ∀ {n : Nat} {s : Str} {pre c : List Str}, c ∈ u6 l to n s pre ↔ ∃ d, c = pre ++ d ∧ IsChain l to n s d
 | 0, s, pre, c => by
  rw [u6]
  constructor
  ·intro h
   split at h
   ·rename_i e
    subst e
    exact ⟨[s], List.mem_singleton.1 h, .nil⟩
   ·cases h
  ·rintro ⟨d, rfl, h⟩
   cases h
   simp
 | n + 1, s, pre, c => by
  rw [u6, List.mem_flatMap]
  constructor
  ·rintro ⟨s', h1, h2⟩
   obtain ⟨d, rfl, h⟩ := mem_chainsN.1 h2
   exact ⟨s :: d, by simp, .cons (mem_dedupN.1 h1) h⟩
  ·rintro ⟨d, rfl, h⟩
   cases h with
   | cons h1 h2 => exact ⟨_, mem_dedupN.2 h1, mem_chainsN.2 ⟨_, by simp, h2⟩⟩
def zKw : List Str → List Str → Int
 | [], [] => 0
 | [], _ :: _ => -1
 | _ :: _, [] => 1
 | a :: x, b :: y => if zKv a b = 0 then zKw x y else zKv a b
theorem L8 (a b : Str) : zKv b a = -zKv a b := by
 unfold zKv
 cases h : x9 a b with
 | true => rw [C9 h]; simp
 | false => cases h2 : x9 b a <;> simp
def y4 {α : Type} (cmp : α → α → Int) : Option α → List α → Option α
 | b, [] => b
 | none, x :: r => y4 cmp (some x) r
 | some y, x :: r => if cmp x y < 0 then y4 cmp (some x) r else y4 cmp (some y) r
def j8 {α : Type} (cmp : α → α → Int) (l : List α) : Option α := y4 cmp none l
def V9 {α : Type} (cmp : α → α → Int) (S : α → Prop) (b : α) : Prop := S b ∧ ∀ x, S x → ¬ cmp x b < 0
section
variable {α : Type} {cmp : α → α → Int} (tr : ∀ x y z, ¬ cmp x y < 0 → ¬ cmp y z < 0 → ¬ cmp x z < 0) (asy : ∀ x y, cmp x y < 0 → ¬ cmp y x < 0)
include tr asy
theorem G8 : ∀ (l : List α) (y : α), ∃ b, y4 cmp (some y) l = some b ∧ V9 cmp (fun x => x = y ∨ x ∈ l) b
 | [], y => ⟨y, rfl, .inl rfl, fun x hx => by
  rcases hx with rfl | hx
  ·exact fun h => asy _ _ h h
  ·cases hx⟩
 | x :: r, y => by
  rw [y4]
  split
  ·rename_i h
   obtain ⟨b, h1, h2, h3⟩ := G8 r x
   refine ⟨b, h1, ?_, fun z hz => ?_⟩
   ·rcases h2 with h2 | h2
    ·exact .inr (by simp [h2])
    ·exact .inr (by simp [h2])
   ·rcases hz with rfl | hz
    ·exact tr _ _ _ (asy _ _ h) (h3 x (.inl rfl))
    ·rcases List.mem_cons.1 hz with rfl | hz
     ·exact h3 _ (.inl rfl)
     ·exact h3 _ (.inr hz)
  ·rename_i h
   obtain ⟨b, h1, h2, h3⟩ := G8 r y
   refine ⟨b, h1, ?_, fun z hz => ?_⟩
   ·rcases h2 with h2 | h2
    ·exact .inl h2
    ·exact .inr (by simp [h2])
   ·rcases hz with rfl | hz
    ·exact h3 _ (.inl rfl)
    ·rcases List.mem_cons.1 hz with rfl | hz
     ·exact tr _ _ _ h (h3 y (.inl rfl))
     ·exact h3 _ (.inr hz)
theorem K1 {l : List α} (hl : l ≠ []) : ∃ b, j8 cmp l = some b ∧ V9 cmp (· ∈ l) b := by
 cases l with
 | nil => exact absurd rfl hl
 | cons x r =>
  obtain ⟨b, h1, h2, h3⟩ := G8 tr asy r x
  refine ⟨b, h1, ?_, fun z hz => h3 z ?_⟩
  ·rcases h2 with rfl | h2
   ·simp
   ·simp [h2]
  ·exact List.mem_cons.1 hz
end
theorem zDZ {α : Type} {cmp : α → α → Int} : j8 cmp ([] : List α) = none := rfl
theorem zL0 {x y z : Str} (h1 : ¬ zKv x y < 0) (h2 : ¬ zKv y z < 0) : ¬ zKv x z < 0 := by
 rw [cmpS_neg] at *
 intro h
 by_cases e : x9 y x = true
 ·exact h2 (B2 e h)
 ·have : x = y := R7 (by simpa using h1) (by simpa using e)
  subst this; exact h2 h
def Z4 (l : List Rule) (n : Nat) (k to : Str) : Option (List Str) := j8 zKw (u6 l to n k [])
def zCi (s : Str) : Option (List Str) → Str → Option (List Str) → Option (List Str)
 | best, _, none => best
 | none, _, some rest => some (s :: rest)
 | some b, x, some rest => if x9 x (b.getD 1 []) = true then some (s :: rest) else some b
def zCy (l : List Rule) (to : Str) : Nat → Str → Option (List Str)
 | 0, s => if s = to then some [s] else none
 | n + 1, s => (u5 l s).foldl (fun best x => zCi s best x (zCy l to n x)) none
theorem IsChain.head {l : List Rule} {to : Str} {n : Nat} {s : Str} {c : List Str} (h : IsChain l to n s c) : ∃ r, c = s :: r := by
 cases h with
 | nil => exact ⟨_, rfl⟩
 | cons _ _ => exact ⟨_, rfl⟩
def zL9 (l : List Rule) (to : Str) (n : Nat) (s : Str) (xs : List Str) (c : List Str) : Prop := ∃ x r, x ∈ xs ∧ c = s :: r ∧ IsChain l to n x r
end Go.Abs

namespace Go.Abs
open Go
def zLM : Str → Str → Bool
 | [], _ => true
 | _ :: _, [] => false
 | a :: x, b :: y => if a = b then zLM x y else zLM (a :: x) y
def c5 (k whole : Str) : Bool := decide (k.length < whole.length) && (k.getD 0 0 == whole.getD 0 0 && zLM k whole)
def t8 (k : Str) (l : List Str) (own : Str) : Bool := l.any fun s => !(decide (zKs s = own)) && c5 k (zKs s)
def R9 : Str → List Str
 | [] => [[]]
 | a :: r => (R9 r).map (a :: ·) ++ R9 r
theorem mem_subsL : ∀ {k s : Str}, s ∈ R9 k ↔ s.Sublist k
 | [], s => by simp [R9]
 | a :: r, s => by
  rw [R9, List.mem_append, List.mem_map]
  constructor
  ·rintro (⟨t, ht, rfl⟩ | h)
   ·exact (mem_subsL.1 ht).cons_cons a
   ·exact (mem_subsL.1 h).cons a
  ·intro h
   cases h with
   | cons _ h => exact .inr (mem_subsL.2 h)
   | cons_cons _ h => exact .inl ⟨_, mem_subsL.2 h, rfl⟩
def Z1 (k s : Str) : Prop := ∃ t : Str, t.Sublist (k.drop 1) ∧ s = k.take 1 ++ t ∧ s.length < k.length
def b4 (k : Str) : List Str := ((R9 (k.drop 1)).map (k.take 1 ++ ·)).filter fun s => decide (s.length < k.length)
theorem zE6 {k s : Str} : s ∈ b4 k ↔ Z1 k s := by
 unfold b4 Z1
 rw [List.mem_filter, List.mem_map, decide_eq_true_eq]
 constructor
 ·rintro ⟨⟨t, ht, rfl⟩, h⟩; exact ⟨t, mem_subsL.1 ht, rfl, h⟩
 ·rintro ⟨t, ht, rfl, h⟩; exact ⟨⟨t, mem_subsL.2 ht, rfl⟩, h⟩
def zKu (up : Bool) (a b : Str) : Int := orI (if up = true then (a.length : Int) - b.length else (b.length : Int) - a.length) (zKv a b)
theorem L7 {up : Bool} {a b : Str} : zKu up a b < 0 ↔ (if up = true then a.length < b.length else b.length < a.length) ∨ (a.length = b.length ∧ x9 a b = true) := by
 unfold zKu orI
 cases up
 ·simp only [Bool.false_eq_true, if_false]
  by_cases h : (b.length : Int) - a.length = 0
  ·rw [if_pos h, cmpS_neg]
   constructor
   ·intro k; exact .inr ⟨by omega, k⟩
   ·rintro (k | k)
    ·omega
    ·exact k.2
  ·rw [if_neg h]
   constructor
   ·intro k; exact .inl (by omega)
   ·rintro (k | k)
    ·omega
    ·omega
 ·simp only [if_true]
  by_cases h : (a.length : Int) - b.length = 0
  ·rw [if_pos h, cmpS_neg]
   constructor
   ·intro k; exact .inr ⟨by omega, k⟩
   ·rintro (k | k)
    ·omega
    ·exact k.2
  ·rw [if_neg h]
   constructor
   ·intro k; exact .inl (by omega)
   ·rintro (k | k)
    ·omega
    ·omega
theorem zCD {x y z : Str} (h1 : ¬ x9 x y = true) (h2 : ¬ x9 y z = true) : ¬ x9 x z = true := by
 rw [← cmpS_neg] at *; exact zL0 h1 h2
theorem zLm {up : Bool} {x y z : Str} (h1 : ¬ zKu up x y < 0) (h2 : ¬ zKu up y z < 0) : ¬ zKu up x z < 0 := by
 rw [L7] at *
 cases up
 ·simp only [Bool.false_eq_true, if_false, not_or, not_and] at *
  refine ⟨by omega, fun e => ?_⟩
  exact zCD (h1.2 (by omega)) (h2.2 (by omega))
 ·simp only [if_true, not_or, not_and] at *
  refine ⟨by omega, fun e => ?_⟩
  exact zCD (h1.2 (by omega)) (h2.2 (by omega))
theorem L3 {up : Bool} (x y : Str) (h : zKu up x y < 0) : ¬ zKu up y x < 0 := by
 rw [L7] at *
 cases up
 ·simp only [Bool.false_eq_true, if_false, not_or, not_and] at *
  rcases h with h | h
  ·exact ⟨by omega, fun e => by omega⟩
  ·exact ⟨by omega, fun _ => by rw [C9 h.2]; simp⟩
 ·simp only [if_true, not_or, not_and] at *
  rcases h with h | h
  ·exact ⟨by omega, fun e => by omega⟩
  ·exact ⟨by omega, fun _ => by rw [C9 h.2]; simp⟩
theorem zA5 {up : Bool} {S : Str → Prop} {a b : Str} (ha : V9 (zKu up) S a) (hb : V9 (zKu up) S b) : a = b := by
 have h1 := ha.2 b hb.1
 have h2 := hb.2 a ha.1
 rw [L7] at h1 h2
 have hl : a.length = b.length := by
  cases up
  ·simp only [Bool.false_eq_true, if_false, not_or] at h1 h2; omega
  ·simp only [if_true, not_or] at h1 h2; omega
 simp only [not_or, not_and] at h1 h2
 exact R7 (by simpa using h2.2 hl) (by simpa using h1.2 hl.symm)
def Z3 (l : List Str) (own : Str) (most : Int) (s : Str) : Prop := Z1 own s ∧ (s.length : Int) ≤ most ∧ t8 s l own = false
def zKy (l : List Str) (own : Str) (most : Int) (up : Bool) : Option Str := j8 (zKu up) ((b4 own).filter fun s => decide ((s.length : Int) ≤ most) && !t8 s l own)
theorem mem_ok {l : List Str} {own : Str} {most : Int} {s : Str} : s ∈ (b4 own).filter (fun s => decide ((s.length : Int) ≤ most) && !t8 s l own) ↔ Z3 l own most s := by
 unfold Z3
 rw [List.mem_filter, zE6, Bool.and_eq_true, decide_eq_true_eq, Bool.not_eq_true']
theorem zDH {l : List Str} {own : Str} {most : Int} {up : Bool} {L : List Str} (h : ∀ s, s ∈ L ↔ Z3 l own most s) : j8 (zKu up) L = zKy l own most up := by
  have hm : ∀ s, s ∈ L ↔ s ∈ (b4 own).filter (fun s => decide ((s.length : Int) ≤ most) && !t8 s l own) := fun s => (h s).trans mem_ok.symm
  unfold zKy
  by_cases e : L = []
  · have e2 : (b4 own).filter (fun s => decide ((s.length : Int) ≤ most) && !t8 s l own) = [] := by
      rw [List.eq_nil_iff_forall_not_mem]
      intro x hx
      have := (hm x).2 hx
      rw [e] at this; cases this
    rw [e, e2]
  · have e2 : (b4 own).filter (fun s => decide ((s.length : Int) ≤ most) && !t8 s l own) ≠ [] := fun k => e (by
      rw [List.eq_nil_iff_forall_not_mem]
      intro x hx
      have := (hm x).1 hx
      rw [k] at this; cases this)
    obtain ⟨a, a1, a2⟩ := K1 (cmp := zKu up) (fun _ _ _ => zLm) L3 e
    obtain ⟨b, b1, b2⟩ := K1 (cmp := zKu up) (fun _ _ _ => zLm) L3 e2
    rw [a1, b1, zA5 a2 ⟨(hm b).2 b2.1, fun x hx => b2.2 x ((hm x).1 hx)⟩]
theorem cutN_some {l : List Str} {own : Str} {most : Int} {up : Bool} {s : Str} : zKy l own most up = some s ↔ V9 (zKu up) (Z3 l own most) s := by
 unfold zKy
 by_cases e : (b4 own).filter (fun s => decide ((s.length : Int) ≤ most) && !t8 s l own) = []
 ·rw [e, zDZ]
  constructor
  ·intro h; cases h
  ·intro h
   have := mem_ok.2 h.1
   rw [e] at this; cases this
 ·obtain ⟨b, b1, b2⟩ := K1 (cmp := zKu up) (fun _ _ _ => zLm) L3 e
  have hb : V9 (zKu up) (Z3 l own most) b := ⟨mem_ok.1 b2.1, fun x hx => b2.2 x (mem_ok.2 hx)⟩
  rw [b1]
  constructor
  ·intro h; cases h; exact hb
  ·intro h; rw [zA5 h hb]
theorem cutN_none {l : List Str} {own : Str} {most : Int} {up : Bool} : zKy l own most up = none ↔ ∀ s, ¬ Z3 l own most s := by
 constructor
 ·intro h s hs
  have : j8 (zKu up) ((b4 own).filter fun s => decide ((s.length : Int) ≤ most) && !t8 s l own) = none := h
  by_cases e : (b4 own).filter (fun s => decide ((s.length : Int) ≤ most) && !t8 s l own) = []
  ·have := mem_ok.2 hs
   rw [e] at this; cases this
  ·obtain ⟨b, b1, _⟩ := K1 (cmp := zKu up) (fun _ _ _ => zLm) L3 e
   rw [b1] at this; cases this
 ·intro h
  cases e : zKy l own most up with
  | none => rfl
  | some s => exact absurd (cutN_some.1 e).1 (h s)
def C0 : Nat → Str → List Str
 | 0, _ => [[]]
 | n + 1, s => match s with
  | [] => []
  | a :: r => (C0 n r).map (a :: ·) ++ C0 (n + 1) r
 termination_by n s => (n, s.length)
def zIL (l : List Str) (own : Str) (many : Nat) : Option Str :=
 if own.length ≤ many then none else j8 zKv (((C0 (many - 1) (own.drop 1)).map (own.take 1 ++ ·)).filter fun s => !t8 s l own)
end Go.Abs

namespace Go.Abs
open Go
theorem zEf {own s : Str} (h : Z1 own s) : 1 ≤ s.length := by
 obtain ⟨t, ht, rfl, hl⟩ := h
 cases own with
 | nil => simp at hl
 | cons a r => simp
def zHm (l : List Str) (own : Str) (m : Nat) (s : Str) : Prop := Z1 own s ∧ s.length = m ∧ t8 s l own = false
def w8 (l : List Str) (i : Int) : Str := zKs (l.getD i.toNat [])
def p5 (l : List Str) (i : Int) : Int := if u3 l = 0 then if i < 0 ∨ (l.length : Int) ≤ i then 3 else 0 else u3 l
def zLk (s : Str) : Str := s ++ [46]
def n0 (l : List Str) (i : Int) : Int := if p5 l i = 0 then if (zKy l (w8 l i) 12 true).isSome = true then 0 else 11 else p5 l i
def j4 (l : List Str) (i : Int) : Str := if p5 l i = 0 then ((zKy l (w8 l i) 12 true).map zLk).getD [] else []
def G9 (l : List Str) (i w : Int) : Int := if p5 l i = 0 then if w < 1 then 1 else if ((w8 l i).length : Int) ≤ w then 0 else if (zKy l (w8 l i) (w - 1) false).isSome = true then 0 else 11 else p5 l i
def zLt (l : List Str) (i w : Int) : Str := if p5 l i = 0 then if w < 1 then [] else if ((w8 l i).length : Int) ≤ w then w8 l i else ((zKy l (w8 l i) (w - 1) false).map zLk).getD [] else []
def zDM : Nat → List Nat
 | 0 => []
 | n + 1 => (n + 1) :: zDM n
end Go.Abs

namespace Go.Abs
open Go
def otherL : List UInt8 := [65, 66, 67, 68, 69, 70, 71, 73, 74, 75, 76, 77, 78, 79, 80, 82, 83, 84, 85, 86, 88, 89, 90]
def zAc : Nat → Str → Option Str
 | _, [] => some []
 | 0, _ :: _ => none
 | n + 1, a :: r => f6 (fun c => if (w7 c).isPrefixOf (a :: r) = true then (zAc n ((a :: r).drop (w7 c).length)).map (c :: ·) else none) otherL
def zAd (k : Str) : Option Str := zAc k.length k
def zFL : Nat → Str → List Str
 | _, [] => [[]]
 | 0, _ :: _ => []
 | n + 1, a :: r => otherL.flatMap fun c => if (w7 c).isPrefixOf (a :: r) = true then (zFL n ((a :: r).drop (w7 c).length)).map (c :: ·) else []
def zJ0 (s : Str) : Int := if y9 s = 0 then if (zAd (zKs s)).isSome = true then 0 else 11 else y9 s
def zJ1 (s : Str) : Str := if y9 s = 0 then (zAd (zKs s)).getD [] else []
def i3 (r : List Rule) (a b : Str) : Int := if p7 r = 0 then if y9 a = 0 then y9 b else y9 a else p7 r
def P7 (r : List Rule) (a b : Str) : Option (List Str) := f6 (fun n => Z4 r n (zKs a) (zKs b)) [0, 1, 2]
def l8 (r : List Rule) (a b : Str) : Int := if i3 r a b = 0 then if (P7 r a b).isSome = true then 0 else 11 else i3 r a b
def zCz (r : List Rule) (a b : Str) : List Str := if i3 r a b = 0 then (P7 r a b).getD [] else []
def zCK (r : List Rule) (a b : Str) : Int := if l8 r a b = 0 then ((zCz r a b).length : Int) - 1 else 0
def zKl (r : List Rule) (a b : Str) : Int := if l8 r a b = 11 then 2 else if l8 r a b = 0 then (if zCK r a b = 0 then 1 else 3) else 0
def zKk (r : List Rule) (a b : Str) : Int := if l8 r a b = 11 then 0 else l8 r a b
theorem zC0 {r : List Rule} {to : Str} {n : Nat} {s : Str} {c : List Str} (h : IsChain r to n s c) : c.length = n + 1 := by
 induction h with
 | nil => rfl
 | cons _ _ ih => rw [List.length_cons, ih]
def J0 (r : List Rule) (s : Str) (l : List Str) (n : Int) (i : Nat) : List Int := (List.range' i (l.length - i)).flatMap fun (i : Nat) => if l8 r s (l.getD i []) = 0 ∧ zCK r s (l.getD i []) = n then [(i : Int)] else []
def zJj (r : List Rule) (s : Str) (l : List Str) : List Int := J0 r s l 0 0 ++ J0 r s l 1 0 ++ J0 r s l 2 0
def zJi (r : List Rule) (s : Str) (l : List Str) : Int := if p7 r = 0 then if y9 s = 0 then u3 l else y9 s else p7 r
end Go.Abs

namespace Go.Abs
open Go
structure Dice where
 list : List Int
 at_ : Nat
 seed : Int
 deriving Inhabited
abbrev uV (n : Int) : AV := .raw (.int .u64 n)
def w5 (d : Dice) : AObj := .box [.list (d.list.map iV), iV d.at_, uV d.seed]
def c6 (a b : Int) : Int := IntKind.u64.wrap (BitVec.ofInt IntKind.u64.bits a ^^^ BitVec.ofInt IntKind.u64.bits b).toNat
def M4 (a : Int) (k : Nat) : Int := IntKind.u64.wrap (a * 2 ^ (min k IntKind.u64.bits))
def l6 (a : Int) (k : Nat) : Int := a.fdiv (2 ^ (min k IntKind.u64.bits))
def zLu (s : Int) : Int := c6 s (M4 s 13)
def zLv (s : Int) : Int := c6 s (l6 s 7)
def zLw (s : Int) : Int := c6 s (M4 s 17)
def N1 (s : Int) : Int := zLw (zLv (zLu s))
def zLL (d : Dice) : Int := if d.at_ < d.list.length then IntKind.u64.wrap (N1 d.seed + IntKind.u64.wrap (IntKind.u64.wrap (d.list.getD d.at_ default) * 13787848793156543929)) else N1 d.seed
def zLF (d : Dice) : Dice := ⟨d.list, if d.at_ < d.list.length then d.at_ + 1 else d.at_, zLL d⟩
def zLh (n : Int) : Int := IntKind.u64.wrap (c6 n (l6 n 30) * 10723151780598845931)
def zLH (d : Dice) : Int := c6 (zLh (zLL d)) (l6 (zLh (zLL d)) 31)
theorem zHS (n : Int) : 0 ≤ IntKind.u64.wrap n ∧ IntKind.u64.wrap n < 18446744073709551616 := by
 rw [IntKind.wrap_u64]; omega
theorem zFX (d : Dice) : 0 ≤ zLH d ∧ zLH d < 18446744073709551616 := zHS _
def toN (n : Int) (d : Dice) : Int := if n < 1 then 0 else (l6 (zLH d) 16).tmod (n + 1)
def toD (n : Int) (d : Dice) : Dice := if n < 1 then d else zLF d
theorem zF0 (n : Int) (h0 : 0 ≤ n) : 0 ≤ l6 n 16 := by
 unfold l6
 rw [Int.fdiv_eq_ediv_of_nonneg _ (by decide)]
 exact Int.ediv_nonneg h0 (by decide)
theorem zCI (n : Int) (d : Dice) : 0 ≤ toN n d ∧ (toN n d ≤ n ∨ toN n d = 0) := by
 unfold toN
 split
 ·omega
 ·have h := zF0 _ (zFX d).1
  rw [Int.tmod_eq_emod_of_nonneg h]
  have h1 := Int.emod_nonneg (l6 (zLH d) 16) (b := n + 1) (by omega)
  have h2 := Int.emod_lt_of_pos (l6 (zLH d) 16) (b := n + 1) (by omega)
  omega
theorem i6 {n : Int} (h : 0 ≤ n) (d : Dice) : 0 ≤ toN n d ∧ toN n d ≤ n := by
 have := zCI n d; omega
def f7 (lo hi : Int) (d : Dice) : Int := lo + toN (hi - lo) d
def Z6 (lo hi : Int) (d : Dice) : Dice := toD (hi - lo) d
theorem F1 {lo hi : Int} (h : lo ≤ hi) (d : Dice) : lo ≤ f7 lo hi d ∧ f7 lo hi d ≤ hi := by
 have := i6 (n := hi - lo) (by omega) d
 unfold f7; omega
def a7 (k : Int) (d : Dice) : Bool := toN (k - 1) d == 0
def x8 (k : Int) (d : Dice) : Dice := toD (k - 1) d
end Go.Abs

namespace Go.Abs
open Go
theorem mem_replacedN {k a b s : Str} : s ∈ p6 k a b ↔ ∃ i, i ≤ k.length ∧ a.isPrefixOf (k.drop i) = true ∧ y8 s 1 12 = true ∧ s = k.take i ++ b ++ k.drop (i + a.length) := by
 unfold p6 Q3
 rw [List.mem_flatMap]
 constructor
 ·rintro ⟨i, hi, h⟩
  rw [List.mem_range'_1] at hi
  split at h
  ·rename_i hc
   have := List.mem_singleton.1 h
   subst this
   exact ⟨i, by omega, hc.1, hc.2, rfl⟩
  ·cases h
 ·rintro ⟨i, hi, h1, h2, rfl⟩
  refine ⟨i, by rw [List.mem_range'_1]; omega, ?_⟩
  rw [if_pos ⟨h1, h2⟩]
  simp
theorem zFS {a x : Str} (h : a.isPrefixOf x = true) : x = a ++ x.drop a.length := by
 obtain ⟨t, rfl⟩ := List.isPrefixOf_iff_prefix.1 h
 simp
theorem zBh {k a b s : Str} (hk : y8 k 1 12 = true) (h : s ∈ p6 k a b) : k ∈ p6 s b a := by
  obtain ⟨i, hi, h1, h2, rfl⟩ := mem_replacedN.1 h
  have e := zFS h1
  have hti : (k.take i).length = i := by rw [List.length_take]; omega
  refine mem_replacedN.2 ⟨i, by simp; omega, ?_, hk, ?_⟩
  · rw [List.append_assoc, List.drop_append_of_le_length (by omega), List.drop_of_length_le (by omega : (k.take i).length ≤ i), List.nil_append]
    exact List.isPrefixOf_iff_prefix.2 ⟨_, rfl⟩
  · have e1 : (k.take i ++ b ++ k.drop (i + a.length)).take i = k.take i := by
      rw [List.append_assoc, List.take_append_of_le_length (by omega), List.take_of_length_le (by omega)]
    have e2 : (k.take i ++ b ++ k.drop (i + a.length)).drop (i + b.length) = k.drop (i + a.length) := by
      rw [List.drop_append, List.drop_of_length_le (by simp; omega), List.nil_append]
      have : i + b.length - (k.take i ++ b).length = 0 := by simp; omega
      rw [this]; rfl
    rw [e1, e2]
    have e3 : k.drop (i + a.length) = (k.drop i).drop a.length := by rw [List.drop_drop]
    rw [e3, List.append_assoc, ← e, List.take_append_drop]
theorem zHN {l : List Rule} {k s : Str} (hk : y8 k 1 12 = true) (h : s ∈ u5 l k) : k ∈ u5 l s ∧ y8 s 1 12 = true := by
 unfold u5 at *
 obtain ⟨r, hr, h⟩ := List.mem_flatMap.1 h
 rcases List.mem_append.1 h with h | h
 ·exact ⟨List.mem_flatMap.2 ⟨r, hr, List.mem_append.2 (.inr (zBh hk h))⟩, by obtain ⟨_, _, _, h2, _⟩ := mem_replacedN.1 h; exact h2⟩
 ·exact ⟨List.mem_flatMap.2 ⟨r, hr, List.mem_append.2 (.inl (zBh hk h))⟩, by obtain ⟨_, _, _, h2, _⟩ := mem_replacedN.1 h; exact h2⟩
def Far (l : List Rule) (n : Nat) (s t : Str) : Prop := ∃ c, IsChain l t n s c
theorem Far.zero {l : List Rule} {s t : Str} : Far l 0 s t ↔ s = t := by
 constructor
 ·rintro ⟨c, h⟩; cases h; rfl
 ·rintro rfl; exact ⟨_, .nil⟩
theorem Far.step {l : List Rule} {n : Nat} {s t : Str} : Far l (n + 1) s t ↔ ∃ x, x ∈ u5 l s ∧ Far l n x t := by
 constructor
 ·rintro ⟨c, h⟩
  cases h with
  | cons h1 h2 => exact ⟨_, h1, _, h2⟩
 ·rintro ⟨x, h1, c, h2⟩; exact ⟨_, .cons h1 h2⟩
theorem Far.join {l : List Rule} : ∀ {n m : Nat} {s t u : Str}, Far l n s t → Far l m t u → Far l (n + m) s u
 | 0, m, s, t, u, h1, h2 => by rw [Far.zero.1 h1, Nat.zero_add]; exact h2
 | n + 1, m, s, t, u, h1, h2 => by
  obtain ⟨x, hx, h⟩ := Far.step.1 h1
  rw [show n + 1 + m = (n + m) + 1 by omega]
  exact Far.step.2 ⟨x, hx, h.join h2⟩
theorem Far.back {l : List Rule} : ∀ {n : Nat} {s t : Str}, y8 s 1 12 = true → Far l n s t → Far l n t s
 | 0, s, t, _, h => by rw [Far.zero.1 h]; exact Far.zero.2 rfl
 | n + 1, s, t, hs, h => by
  obtain ⟨x, hx, h⟩ := Far.step.1 h
  obtain ⟨g1, g2⟩ := zHN hs hx
  have := (h.back g2).join (m := 1) (Far.step.2 ⟨s, g1, Far.zero.2 rfl⟩)
  exact this
theorem Far.more {l l' : List Rule} (h : ∀ r, r ∈ l → r ∈ l') : ∀ {n : Nat} {s t : Str}, Far l n s t → Far l' n s t
 | 0, s, t, k => Far.zero.2 (Far.zero.1 k)
 | n + 1, s, t, k => by
  obtain ⟨x, hx, k⟩ := Far.step.1 k
  refine Far.step.2 ⟨x, ?_, k.more h⟩
  unfold u5 at *
  obtain ⟨r, hr, hx⟩ := List.mem_flatMap.1 hx
  exact List.mem_flatMap.2 ⟨r, h r hr, hx⟩
def zMC (r : List Rule) (a b : Str) : Int := match P7 r a b with
 | some c => (c.length : Int) - 1
 | none => 9
theorem E2 {s : Str} (v : ValidN s) : y8 (zKs s) 1 12 = true := by
 have h1 := E1 s
 have h2 := v.ne
 have h3 := v.len
 unfold y8
 rw [Bool.and_eq_true, Bool.and_eq_true, decide_eq_true_eq, decide_eq_true_eq]
 exact ⟨by omega, by omega, zEi v.form⟩
end Go.Abs

namespace Go.Abs
open Go
section
variable {α : Type} (cf : α → α → Int)
def zLO (x : α) : List α → List α
 | [] => [x]
 | y :: r => if cf x y < 0 then y :: zLO x r else x :: y :: r
def zK6 (pre : List α) (x : α) : List α := (zLO cf x pre.reverse).reverse
def t7 (xs : List α) : List α := xs.foldl (zK6 cf) []
theorem zAt (x : α) : ∀ l : List α, (zLO cf x l).Perm (x :: l)
 | [] => .refl _
 | y :: r => by
  unfold zLO
  split
  ·exact ((zAt x r).cons y).trans (.swap x y r)
  ·exact .refl _
theorem zEb (pre : List α) (x : α) : (zK6 cf pre x).Perm (pre ++ [x]) := by
 unfold zK6
 refine (List.reverse_perm _).trans ((zAt cf x _).trans ?_)
 exact ((List.reverse_perm pre).cons x).trans (List.perm_append_comm (l₁ := [x]) (l₂ := pre))
theorem zAx : ∀ (xs pre : List α), (xs.foldl (zK6 cf) pre).Perm (pre ++ xs)
 | [], pre => by simp
 | x :: r, pre => by
  rw [List.foldl_cons]
  refine (zAx r _).trans ?_
  refine ((zEb cf pre x).append_right r).trans ?_
  simp
theorem E0 (xs : List α) : (t7 cf xs).Perm xs := by have := zAx cf xs []; simpa [t7] using this
theorem zAy (xs : List α) : (t7 cf xs).length = xs.length := (E0 cf xs).length_eq
theorem zEh (xs : List α) (x : α) : t7 cf (xs ++ [x]) = zK6 cf (t7 cf xs) x := by simp [t7, List.foldl_append]
def zLD (S : List α) (x : α) (R : List α) (d : Nat) : List α := S.take (S.length - d) ++ x :: (S.drop (S.length - d) ++ R)
theorem zDB (S : List α) (x : α) (R : List α) (d : Nat) : (zLD S x R d).length = S.length + 1 + R.length := by simp [zLD]; omega
variable [Inhabited α]
theorem zDD (S : List α) (x : α) (R : List α) {d : Nat} (h : d ≤ S.length) : (zLD S x R d).getD (S.length - d) default = x := by
 unfold zLD
 simp only [List.getD_eq_getElem?_getD]
 rw [List.getElem?_append_right (by simp)]
 simp [show min (S.length - d) S.length = S.length - d by omega]
theorem zDE (S : List α) (x : α) (R : List α) {d : Nat} (h : d < S.length) : (zLD S x R d).getD (S.length - d - 1) default = S.getD (S.length - d - 1) default := by
 unfold zLD
 simp only [List.getD_eq_getElem?_getD]
 rw [List.getElem?_append_left (by simp; omega), List.getElem?_take, if_pos (by omega)]
theorem zDC (S : List α) (x : α) (R : List α) {d : Nat} (h : d < S.length) :
  ((zLD S x R d).set (S.length - d) (S.getD (S.length - d - 1) default)).set (S.length - d - 1) x = zLD S x R (d + 1) := by
 obtain ⟨j, hj⟩ : ∃ j, S.length - d = j + 1 := ⟨S.length - d - 1, by omega⟩
 have hj' : S.length - (d + 1) = j := by omega
 have hlt : j < S.length := by omega
 unfold zLD
 rw [hj, hj']
 have e1 : S.take (j + 1) = S.take j ++ [S.getD j default] := by rw [List.take_add_one]; simp [List.getD, hlt]
 have e2 : S.drop j = S.getD j default :: S.drop (j + 1) := o0 hlt
 rw [e1, e2]
 simp only [Nat.add_sub_cancel]
 have hl : (S.take j).length = j := by simp; omega
 rw [List.append_assoc, List.set_append_right _ _ (by omega), hl]
 simp only [Nat.add_sub_cancel_left, List.singleton_append, List.set_cons_succ, List.set_cons_zero]
 rw [List.set_append_right _ _ (by omega), hl]
 simp
theorem zEd (pre : List α) (x y : α) (h : cf x y < 0) : zK6 cf (pre ++ [y]) x = zK6 cf pre x ++ [y] := by
 have _ := (default : α)
 unfold zK6; simp [zLO, h]
theorem zEc (pre : List α) (x y : α) (h : ¬ cf x y < 0) : zK6 cf (pre ++ [y]) x = pre ++ [y] ++ [x] := by
 have _ := (default : α)
 unfold zK6; simp [zLO, h]
theorem zHG {l : List α} {i : Nat} (h : i < l.length) : l.take (i + 1) = l.take i ++ [l.getD i default] := by
 rw [List.take_add_one]; simp [List.getD, h]
def InsP (S : List α) (x : α) (R : List α) (cur : List α) (d : Nat) : Prop := cur = zLD S x R d ∧ zK6 cf S x = zK6 cf (S.take (S.length - d)) x ++ S.drop (S.length - d)
theorem InsP.start (S : List α) (x : α) (R : List α) : InsP cf S x R (S ++ x :: R) 0 := by simp [InsP, zLD]
theorem InsP.next {S : List α} {x : α} {R cur : List α} {d : Nat} (h : InsP cf S x R cur d) (hd : d < S.length) (hc : cf x (S.getD (S.length - d - 1) default) < 0) :
  InsP cf S x R ((cur.set (S.length - d) (S.getD (S.length - d - 1) default)).set (S.length - d - 1) x) (d + 1) := by
 obtain ⟨h1, h2⟩ := h
 refine ⟨by rw [h1, zDC S x R hd], ?_⟩
 obtain ⟨j, hj⟩ : ∃ j, S.length - d = j + 1 := ⟨S.length - d - 1, by omega⟩
 have hj' : S.length - (d + 1) = j := by omega
 have hlt : j < S.length := by omega
 have e1 : S.take (j + 1) = S.take j ++ [S.getD j default] := by rw [List.take_add_one]; simp [List.getD, hlt]
 have e2 : S.drop j = S.getD j default :: S.drop (j + 1) := o0 hlt
 rw [hj] at h2 hc
 simp only [Nat.add_sub_cancel] at hc
 rw [h2, hj', e1, zEd cf _ _ _ hc, e2, List.append_assoc]; rfl
theorem InsP.stop {S : List α} {x : α} {R cur : List α} {d : Nat} (h : InsP cf S x R cur d) (hd : d ≤ S.length) (hc : d < S.length → ¬ cf x (S.getD (S.length - d - 1) default) < 0) : cur = zK6 cf S x ++ R := by
 obtain ⟨h1, h2⟩ := h
 rw [h1, h2]
 unfold zLD
 by_cases e : d = S.length
 ·subst e; simp [zK6, zLO]
 ·obtain ⟨j, hj⟩ : ∃ j, S.length - d = j + 1 := ⟨S.length - d - 1, by omega⟩
  have hlt : j < S.length := by omega
  have e1 : S.take (j + 1) = S.take j ++ [S.getD j default] := by rw [List.take_add_one]; simp [List.getD, hlt]
  have hc' := hc (by omega)
  rw [hj] at hc' ⊢
  simp only [Nat.add_sub_cancel] at hc'
  rw [e1, zEc cf _ _ _ hc']; simp
end
end Go.Abs

namespace Go.Abs
open Go
theorem zC8 (a b : Int) : zK4 b a = -zK4 a b := by
 unfold zK4
 repeat' split
 all_goals omega
theorem zC9 (a b : Str) : r8 b a = -r8 a b := by
 unfold r8 orI
 rw [L8 (zKs a) (zKs b), zC8 (p4 a) (p4 b)]
 by_cases h : zKv (zKs a) (zKs b) = 0
 ·rw [if_pos h, if_pos (by omega)]
 ·rw [if_neg h, if_neg (by omega)]
theorem zD7 {x y z : Str} (h1 : ¬ r8 x y < 0) (h2 : ¬ r8 y z < 0) : ¬ r8 x z < 0 := by
 unfold r8 orI at *
 have a1 := L8 (zKs x) (zKs y)
 have a2 := L8 (zKs y) (zKs z)
 have gS := fun (p : ¬ zKv (zKs x) (zKs y) < 0) (q : ¬ zKv (zKs y) (zKs z) < 0) => zL0 p q
 by_cases e1 : zKv (zKs x) (zKs y) = 0
 ·rw [if_pos e1] at h1
  rw [cmpS_zero.1 e1]
  by_cases e2 : zKv (zKs y) (zKs z) = 0
  ·rw [if_pos e2] at h2 ⊢
   unfold zK4 at *
   repeat' split at h1
   all_goals repeat' split at h2
   all_goals repeat' split
   all_goals omega
  ·rw [if_neg e2] at h2 ⊢
   exact h2
 ·rw [if_neg e1] at h1
  by_cases e2 : zKv (zKs y) (zKs z) = 0
  ·rw [if_pos e2] at h2
   rw [← cmpS_zero.1 e2, if_neg e1]; exact h1
  ·rw [if_neg e2] at h2
   have h3 := gS h1 h2
   by_cases e3 : zKv (zKs x) (zKs z) = 0
   ·have e := cmpS_zero.1 e3
    rw [e] at a1 h1
    have := L8 (zKs y) (zKs z)
    omega
   ·rw [if_neg e3]; exact h3
def N6 : List Str → Bool
 | [] => true
 | [_] => true
 | a :: b :: r => !(decide (r8 b a < 0)) && N6 (b :: r)
def zFR (l : List Str) (s : Str) : Int := if u3 l = 0 then if y9 s = 0 then if N6 l = true then 0 else 5 else y9 s else u3 l
def zJ9 (l : List Str) (s : Str) : Int := if zFR l s = 0 then (l.countP fun x => decide (r8 x s < 0) : Nat) else 0
def R6 (l : List Str) : List Nat := t7 (fun a b => r8 (l.getD a []) (l.getD b [])) (List.range l.length)
def zMA (set i : Nat) : Bool := set.testBit i
def zFN (n set : Nat) : List Nat := (List.range n).filter fun i => set.testBit i
def zFb (l : List Str) (set : Nat) : List Str := ((List.range l.length).filter fun i => !set.testBit i).map fun i => l.getD i []
def zAF : List Nat → List Nat → Int
 | [], [] => 0
 | [], _ :: _ => -1
 | _ :: _, [] => 1
 | a :: x, b :: y => if zK4 a b = 0 then zAF x y else zK4 a b
def zFz (a b : List Nat) : Int := orI (zK4 a.length b.length) (zAF a b)
def zFe (l : List Str) : List (List Nat) := (List.range (2 ^ l.length)).filterMap fun set => if N6 (zFb l set) = true then some (zFN l.length set) else none
def zKp (l : List Str) : List Nat := (j8 zFz (zFe l)).getD []
end Go.Abs

namespace Go.Abs
open Go
def wordsL : List Str := [[97, 101, 115], [115, 104, 101, 116, 97], [115, 109, 105, 116, 121, 104, 97], [99, 104, 106, 97], [97, 110, 110, 101]]
def wordsU : List Str := [[65, 69, 83], [88, 69, 84, 65], [83, 77, 73, 84, 89, 65], [67, 74, 65, 88], [65, 78, 78, 69]]
def wordsF : List Str := [[101], [121], [115, 104], [97], [110, 110], [116, 104], [109]]
def wordsT : List Str := [[], [105], [115], [116], [97, 101], [106], [110]]
def a8 (ws : List Str) (d : Dice) : Str := ws.getD (toN ((ws.length : Int) - 1) d).toNat []
def r5 (ws : List Str) (d : Dice) : Dice := toD ((ws.length : Int) - 1) d
theorem J4 {ws : List Str} (h : 0 < ws.length) (d : Dice) : a8 ws d ∈ ws := by
 have := i6 (n := (ws.length : Int) - 1) (by omega) d
 unfold a8
 have hlt : (toN ((ws.length : Int) - 1) d).toNat < ws.length := by omega
 simp [List.getD, hlt]
def j0 (set : Str) : Nat → Dice → Str → Str × Dice
 | 0, d, s => (s, d)
 | n + 1, d, s => j0 set n (toD ((set.length : Int) - 1) d) (s ++ [set.getD (toN ((set.length : Int) - 1) d).toNat 0])
def zLq (t : Bool) (d d2 : Dice) (a : Str) : Str × Dice := if t = true then (a8 wordsU d2, r5 wordsU d2) else (a, d2)
def zLI (d : Dice) : Str × Dice := zLq (a7 3 (r5 wordsL d)) d (x8 3 (r5 wordsL d)) (a8 wordsL d)
def K9 (most : Int) (p : Str × Dice) : Str × Dice := j0 p.1 (f7 1 (min most 6) p.2).toNat (Z6 1 (min most 6) p.2) []
def o7 (d : Dice) (most : Int) : Str × Dice := K9 most (zLI d)
theorem zA8 (set : Str) : ∀ (n : Nat) (d : Dice) (s : Str), (j0 set n d s).1.length = s.length + n
 | 0, d, s => rfl
 | n + 1, d, s => by rw [j0, zA8 set n]; simp; omega
theorem E5 (set : Str) (p : UInt8 → Bool) (h0 : 0 < set.length) (hp : set.all p = true) : ∀ (n : Nat) (d : Dice) (s : Str), s.all p = true → (j0 set n d s).1.all p = true
 | 0, d, s, h => h
 | n + 1, d, s, h => by
  rw [j0]
  refine E5 set p h0 hp n _ _ ?_
  have := i6 (n := (set.length : Int) - 1) (by omega) d
  have hlt : (toN ((set.length : Int) - 1) d).toNat < set.length := by omega
  rw [List.all_append, h, Bool.true_and, List.all_cons, List.all_nil, Bool.and_true]
  refine List.all_eq_true.1 hp _ ?_
  simp [List.getD, hlt]
theorem u7 (n : Int) (d : Dice) : (toD n d).list = d.list := by unfold toD; split <;> rfl
theorem zA9 (set : Str) : ∀ (n : Nat) (d : Dice) (s : Str), (j0 set n d s).2.list = d.list
 | 0, d, s => rfl
 | n + 1, d, s => by rw [j0, zA9 set n, u7]
theorem zHR {x : Str} (h : x ∈ wordsU) : 0 < x.length ∧ x.all e7 = true := by
 have key : (wordsU.all fun x => decide (0 < x.length) && x.all e7) = true := by decide
 have := List.all_eq_true.1 key x h
 simpa using this
theorem zHQ {x : Str} (h : x ∈ wordsL) : 0 < x.length ∧ x.all y6 = true := by
 have key : (wordsL.all fun x => decide (0 < x.length) && x.all y6) = true := by decide
 have := List.all_eq_true.1 key x h
 simpa using this
theorem zBq (d : Dice) : 0 < (zLI d).1.length ∧ ((zLI d).1.all y6 = true ∨ (zLI d).1.all e7 = true) ∧ (zLI d).2.list = d.list := by
 unfold zLI zLq
 split
 ·have := zHR (J4 (ws := wordsU) (by decide) (x8 3 (r5 wordsL d)))
  exact ⟨this.1, .inr this.2, by simp only [r5, x8, u7]⟩
 ·have := zHQ (J4 (ws := wordsL) (by decide) d)
  exact ⟨this.1, .inl this.2, by simp only [r5, x8, u7]⟩
theorem D5 {d : Dice} {most : Int} (h : 1 ≤ most) : ValidN (o7 d most).1 ∧ ((o7 d most).1.length : Int) ≤ most ∧ (o7 d most).2.list = d.list := by
 obtain ⟨h1, h2, h3⟩ := zBq d
 unfold o7 K9
 generalize zLI d = p at *
 have hr := F1 (lo := 1) (hi := min most 6) (by omega) p.2
 have hl := zA8 p.1 (f7 1 (min most 6) p.2).toNat (Z6 1 (min most 6) p.2) []
 simp only [List.length_nil, Nat.zero_add] at hl
 refine ⟨⟨by rw [hl]; omega, by rw [hl]; omega, ?_⟩, by rw [hl]; omega, ?_⟩
 ·unfold o3
  rw [Bool.or_eq_true]
  rcases h2 with h2 | h2
  ·exact .inl (E5 p.1 y6 h1 h2 _ _ [] rfl)
  ·exact .inr (E5 p.1 e7 h1 h2 _ _ [] rfl)
 ·rw [zA9]
  unfold Z6
  rw [u7, h3]
def c9 (s : Str) (at_ : Nat) : Str := s.take at_ ++ s.drop (at_ + 1)
def zCL (s : Str) (t : Bool) (d : Dice) : Str × Dice := if t = true then (c9 s (toN ((s.length : Int) - 1) d).toNat, toD ((s.length : Int) - 1) d) else (s, d)
def X9 (s : Str) (d : Dice) : Str × Dice := if 97 ≤ (s.getD 0 0).toNat ∧ 1 < s.length then zCL s (a7 2 d) (x8 2 d) else (s, d)
def S8 (out : List Str) (d : Dice) : Str := out.getD (toN ((out.length : Int) - 1) d).toNat []
def H4 (out : List Str) (p : Str × Dice) (t : Bool) (d : Dice) : Str × Dice := if t = true then X9 (S8 out d) (toD ((out.length : Int) - 1) d) else (p.1, d)
def i8 (out : List Str) (p : Str × Dice) : Str × Dice := if 0 < out.length then H4 out p (a7 3 p.2) (x8 3 p.2) else p
def f9 (most : Int) : Nat → Dice → List Str → List Str × Dice
 | 0, d, out => (out, d)
 | n + 1, d, out => f9 most n (i8 out (o7 d most)).2 (out ++ [(i8 out (o7 d most)).1])
def X5 (d : Dice) (many most : Int) : List Str × Dice := f9 most (toN many d).toNat (toD many d) []
theorem zDG {s : Str} (v : ValidN s) (hl : 1 < s.length) {i : Nat} (hi : i < s.length) : ValidN (c9 s i) ∧ (c9 s i).length = s.length - 1 := by
 have h1 : (c9 s i).length = s.length - 1 := by unfold c9; simp; omega
 refine ⟨⟨by omega, by have := v.len; omega, ?_⟩, h1⟩
 have hf := v.form
 unfold o3 at hf ⊢
 rw [Bool.or_eq_true, List.all_eq_true, List.all_eq_true] at hf ⊢
 have hm : ∀ c, c ∈ c9 s i → c ∈ s := fun c hc => by
  rcases List.mem_append.1 hc with hc | hc
  ·exact List.mem_of_mem_take hc
  ·exact List.mem_of_mem_drop hc
 rcases hf with hf | hf
 ·exact .inl (fun c hc => hf c (hm c hc))
 ·exact .inr (fun c hc => hf c (hm c hc))
theorem zHP {s : Str} (v : ValidN s) (d : Dice) : ValidN (X9 s d).1 ∧ (X9 s d).1.length ≤ s.length ∧ (X9 s d).2.list = d.list := by
 unfold X9
 split
 ·rename_i h
  unfold zCL
  split
  ·have := i6 (n := (s.length : Int) - 1) (by omega) (x8 2 d)
   obtain ⟨h1, h2⟩ := zDG v h.2 (i := (toN ((s.length : Int) - 1) (x8 2 d)).toNat) (by omega)
   exact ⟨h1, by show (c9 _ _).length ≤ _; omega, by simp only [u7, x8]⟩
  ·exact ⟨v, Nat.le_refl _, by simp only [u7, x8]⟩
 ·exact ⟨v, Nat.le_refl _, rfl⟩
def Y2 (most : Int) (s : Str) : Prop := ValidN s ∧ (s.length : Int) ≤ most
theorem A4 {out : List Str} {most : Int} (ho : ∀ s, s ∈ out → Y2 most s) {p : Str × Dice} (hp : Y2 most p.1) : Y2 most (i8 out p).1 ∧ (i8 out p).2.list = p.2.list := by
 unfold i8
 split
 ·rename_i h
  unfold H4
  split
  ·have := i6 (n := (out.length : Int) - 1) (by omega) (x8 3 p.2)
   have hm : S8 out (x8 3 p.2) ∈ out := by
    unfold S8
    have hlt : (toN ((out.length : Int) - 1) (x8 3 p.2)).toNat < out.length := by omega
    simp [List.getD, hlt]
   obtain ⟨h1, h2⟩ := ho _ hm
   obtain ⟨g1, g2, g3⟩ := zHP h1 (toD ((out.length : Int) - 1) (x8 3 p.2))
   exact ⟨⟨g1, by omega⟩, by rw [g3]; simp only [u7, x8]⟩
  ·exact ⟨hp, by simp only [u7, x8]⟩
 ·exact ⟨hp, rfl⟩
theorem zBS {most : Int} (h : 1 ≤ most) : ∀ (n : Nat) (d : Dice) (out : List Str), (∀ s, s ∈ out → Y2 most s) → (∀ s, s ∈ (f9 most n d out).1 → Y2 most s) ∧ (f9 most n d out).1.length = out.length + n ∧ (f9 most n d out).2.list = d.list
 | 0, d, out, ho => ⟨ho, rfl, rfl⟩
 | n + 1, d, out, ho => by
  obtain ⟨v, hl, hd⟩ := D5 (d := d) h
  obtain ⟨g1, g2⟩ := A4 ho (p := o7 d most) ⟨v, hl⟩
  rw [f9]
  obtain ⟨k1, k2, k3⟩ := zBS h n (i8 out (o7 d most)).2 (out ++ [(i8 out (o7 d most)).1]) (fun s hs => by
   rcases List.mem_append.1 hs with hs | hs
   ·exact ho s hs
   ·rw [List.mem_singleton.1 hs]; exact g1)
  exact ⟨k1, by rw [k2]; simp; omega, by rw [k3, g2, hd]⟩
theorem zFB {d : Dice} {many most : Int} (hm : 0 ≤ many) (h : 1 ≤ most) : (∀ s, s ∈ (X5 d many most).1 → Y2 most s) ∧ ((X5 d many most).1.length : Int) ≤ many ∧ (X5 d many most).2.list = d.list := by
 have hr := i6 hm d
 obtain ⟨h1, h2, h3⟩ := zBS h (toN many d).toNat (toD many d) [] (fun s hs => by cases hs)
 unfold X5
 refine ⟨h1, ?_, by rw [h3, u7]⟩
 rw [h2]; simp; omega
def zBj : Nat → Dice → List Rule → List Rule × Dice
 | 0, d, out => (out, d)
 | n + 1, d, out => zBj n (r5 wordsT (r5 wordsF d)) (out ++ [⟨a8 wordsF d, a8 wordsT (r5 wordsF d)⟩])
def zKY (d : Dice) (many : Int) : List Rule × Dice := zBj (toN many d).toNat (toD many d) []
def M5 (key : Str) : Nat → Nat → Dice → Str → Str × Dice
 | 0, _, d, s => (s, d)
 | n + 1, i, d, s => if i = 0 then M5 key n (i + 1) d (s ++ [key.getD i 0]) else if a7 2 d = true then M5 key n (i + 1) (x8 2 d) (s ++ [key.getD i 0]) else M5 key n (i + 1) (x8 2 d) s
def zKc (d : Dice) (key : Str) : Str × Dice := ((M5 key key.length 0 d []).1 ++ [46], (M5 key key.length 0 d []).2)
end Go.Abs

namespace Go.Abs
open Go
def zKg (l : List Nat) : Str := l.map UInt8.ofNat
def zLW : Str := [67, 65, 68]
def N2 : Str := [99, 104, 97, 100]
def K8 : Str := [97, 110, 110, 97]
def zLo : Str := [66, 69, 78]
def b9 : Str := [115, 109, 121, 116, 104, 101]
def N3 : Str := [115, 109, 105, 116, 104, 101]
def f8 : Str := [115, 109, 105, 116, 104]
def D4 : Str := [115, 109, 121, 116, 104]
def zLx : Str := [115, 97, 109]
def rulesX : List Rule := [⟨[112, 104], [102]⟩, ⟨[121], [105]⟩, ⟨[101], []⟩]
def smithsX : List Str := [f8, D4, zLx]
theorem zHW : zKs zLW = N2 := by kernel_rfl
theorem zHT : y9 zLW = 0 := by kernel_rfl
theorem zHa : R6 [N2, zLW, K8, zLo] = [2, 3, 0, 1] := by kernel_rfl
theorem zHX : u3 [N2, zLW, K8, zLo] = 0 := by kernel_rfl
theorem zCS : i3 rulesX b9 f8 = 0 := by kernel_rfl
theorem zCR : P7 rulesX b9 f8 = some [b9, N3, f8] := by kernel_rfl
theorem zHY : j4 smithsX 0 = [115, 105, 46] := by kernel_rfl
theorem zHZ : n0 smithsX 0 = 0 := by kernel_rfl
theorem zHU : zLt smithsX 0 4 = [115, 105, 104, 46] := by kernel_rfl
theorem zHV : G9 smithsX 0 4 = 0 := by kernel_rfl
end Go.Abs

namespace Go.Abs
open Go
section
variable (l : List Str)
def cfI (a b : Nat) : Int := r8 (l.getD a []) (l.getD b [])
def Prec (a b : Nat) : Prop := cfI l a b < 0 ∨ (¬ cfI l b a < 0 ∧ a < b)
theorem H9 (a b : Nat) : cfI l b a = -cfI l a b := zC9 _ _
theorem G0 {a b c : Nat} (h1 : ¬ cfI l a b < 0) (h2 : ¬ cfI l b c < 0) : ¬ cfI l a c < 0 := zD7 h1 h2
theorem Prec.trans {a b c : Nat} (h1 : Prec l a b) (h2 : Prec l b c) : Prec l a c := by
 have ab := H9 l a b
 have bc := H9 l b c
 have ac := H9 l a c
 unfold Prec at *
 have g1 : ¬ cfI l b a < 0 := by rcases h1 with h1 | h1 <;> omega
 have g2 : ¬ cfI l c b < 0 := by rcases h2 with h2 | h2 <;> omega
 have g3 : ¬ cfI l c a < 0 := G0 l g2 g1
 by_cases e : cfI l a c < 0
 ·exact .inl e
 ·refine .inr ⟨g3, ?_⟩
  -- all three are alike
  have e1 : ¬ cfI l a b < 0 := fun h => by
   have : ¬ cfI l a b < 0 := G0 l (b := c) e g2
   exact this h
  have e2 : ¬ cfI l b c < 0 := fun h => by
   have : ¬ cfI l b c < 0 := G0 l (b := a) g1 e
   exact this h
  rcases h1 with h1 | h1
  ·exact absurd h1 e1
  ·rcases h2 with h2 | h2
   ·exact absurd h2 e2
   ·omega
theorem zF4 : (R6 l).Perm (List.range l.length) := E0 _ _
theorem zF3 : (R6 l).length = l.length := by rw [(zF4 l).length_eq, List.length_range]
def zKI (i : Nat) : Nat := (List.range l.length).countP fun k => A9 (l.getD k []) (l.getD i []) || (decide (k < i) && !A9 (l.getD i []) (l.getD k []))
end
end Go.Abs

namespace Go.Proofs
open Go.Shelf
def Tryz.lays159_ren : Go.Shelf.Ren := ⟨fun | 159 => 143 | 165 => 163 | 166 => 164 | 167 => 165 | 169 => 166 | 230 => 167 | 204 => 168 | 240 => 182 | 241 => 183 | 197 => 184 | 118 => 185 | 168 => 186 | 270 => 187 | 262 => 188 | 276 => 194 | 277 => 195 | 260 => 196 | 242 => 197 | 313 => 198 | 278 => 200 | 274 => 201 | 275 => 202 | n => n, fun | 9 => 9 | 4 => 4 | 3 => 3 | 5 => 5 | 72 => 180 | 0 => 0 | 76 => 182 | 75 => 147 | 107 => 187 | 70 => 178 | 20 => 20 | 37 => 141 | 127 => 207 | 21 => 21 | 105 => 208 | 164 => 165 | 162 => 219 | 203 => 217 | 119 => 220 | 46 => 89 | 139 => 223 | 138 => 222 | 51 => 224 | 160 => 225 | 208 => 231 | 206 => 229 | 80 => 185 | n => n, fun | 13 => 2 | 3 => 3 | 4 => 4 | n => n⟩
theorem Tryz.lays159 : Go.Proofs.Lays.n159 Tryz.prog Tryz.lays159_ren := {
 mixed := by kernel_rfl
 f118 := Tryz.func185.trans (congrArg some (by kernel_rfl))
 f159 := Tryz.func143.trans (congrArg some (by kernel_rfl))
 f165 := Tryz.func163.trans (congrArg some (by kernel_rfl))
 f166 := Tryz.func164.trans (congrArg some (by kernel_rfl))
 f167 := Tryz.func165.trans (congrArg some (by kernel_rfl))
 f168 := Tryz.func186.trans (congrArg some (by kernel_rfl))
 f169 := Tryz.func166.trans (congrArg some (by kernel_rfl))
 f197 := Tryz.func184.trans (congrArg some (by kernel_rfl))
 f204 := Tryz.func168.trans (congrArg some (by kernel_rfl))
 f230 := Tryz.func167.trans (congrArg some (by kernel_rfl))
 f240 := Tryz.func182.trans (congrArg some (by kernel_rfl))
 f241 := Tryz.func183.trans (congrArg some (by kernel_rfl))
 f242 := Tryz.func197.trans (congrArg some (by kernel_rfl))
 f260 := Tryz.func196.trans (congrArg some (by kernel_rfl))
 f262 := Tryz.func188.trans (congrArg some (by kernel_rfl))
 f270 := Tryz.func187.trans (congrArg some (by kernel_rfl))
 f274 := Tryz.func201.trans (congrArg some (by kernel_rfl))
 f275 := Tryz.func202.trans (congrArg some (by kernel_rfl))
 f276 := Tryz.func194.trans (congrArg some (by kernel_rfl))
 f277 := Tryz.func195.trans (congrArg some (by kernel_rfl))
 f278 := Tryz.func200.trans (congrArg some (by kernel_rfl))
 f313 := Tryz.func198.trans (congrArg some (by kernel_rfl))
 t0 := Tryz.underlying0
 a0 := Tryz.isAgg0
 z0 := Tryz.sizeOf0
 v0 := Tryz.zeroValue0
 t3 := Tryz.underlying3
 a3 := Tryz.isAgg3
 z3 := Tryz.sizeOf3
 v3 := Tryz.zeroValue3
 t4 := Tryz.underlying4
 a4 := Tryz.isAgg4
 z4 := Tryz.sizeOf4
 v4 := Tryz.zeroValue4
 t5 := Tryz.underlying5
 a5 := Tryz.isAgg5
 z5 := Tryz.sizeOf5
 v5 := Tryz.zeroValue5
 t9 := Tryz.underlying9
 a9 := Tryz.isAgg9
 z9 := Tryz.sizeOf9
 v9 := Tryz.zeroValue9
 t20 := Tryz.underlying20
 a20 := Tryz.isAgg20
 z20 := Tryz.sizeOf20
 v20 := Tryz.zeroValue20
 t21 := Tryz.underlying21
 a21 := Tryz.isAgg21
 z21 := Tryz.sizeOf21
 v21 := Tryz.zeroValue21
 t37 := Tryz.underlying141
 a37 := Tryz.isAgg141
 z37 := Tryz.sizeOf141
 v37 := Tryz.zeroValue141
 t46 := Tryz.underlying89
 a46 := Tryz.isAgg89
 z46 := Tryz.sizeOf89
 v46 := Tryz.zeroValue89
 t51 := Tryz.underlying224
 a51 := Tryz.isAgg224
 z51 := Tryz.sizeOf224
 v51 := Tryz.zeroValue224
 t70 := Tryz.underlying178
 a70 := Tryz.isAgg178
 z70 := Tryz.sizeOf178
 v70 := Tryz.zeroValue178
 t72 := Tryz.underlying180
 a72 := Tryz.isAgg180
 z72 := Tryz.sizeOf180
 v72 := Tryz.zeroValue180
 t75 := Tryz.underlying147
 a75 := Tryz.isAgg147
 z75 := Tryz.sizeOf147
 v75 := Tryz.zeroValue147
 t76 := Tryz.underlying182
 a76 := Tryz.isAgg182
 z76 := Tryz.sizeOf182
 v76 := Tryz.zeroValue182
 t105 := Tryz.underlying208
 a105 := Tryz.isAgg208
 z105 := Tryz.sizeOf208
 v105 := Tryz.zeroValue208
 t107 := Tryz.underlying187
 a107 := Tryz.isAgg187
 z107 := Tryz.sizeOf187
 v107 := Tryz.zeroValue187
 t119 := Tryz.underlying220
 a119 := Tryz.isAgg220
 z119 := Tryz.sizeOf220
 t127 := Tryz.underlying207
 a127 := Tryz.isAgg207
 z127 := Tryz.sizeOf207
 v127 := Tryz.zeroValue207
 t138 := Tryz.underlying222
 a138 := Tryz.isAgg222
 z138 := Tryz.sizeOf222
 v138 := Tryz.zeroValue222
 t139 := Tryz.underlying223
 a139 := Tryz.isAgg223
 z139 := Tryz.sizeOf223
 v139 := Tryz.zeroValue223
 t160 := Tryz.underlying225
 a160 := Tryz.isAgg225
 z160 := Tryz.sizeOf225
 v160 := Tryz.zeroValue225
 t162 := Tryz.underlying219
 a162 := Tryz.isAgg219
 z162 := Tryz.sizeOf219
 v162 := Tryz.zeroValue219
 t164 := Tryz.underlying165
 a164 := Tryz.isAgg165
 z164 := Tryz.sizeOf165
 v164 := Tryz.zeroValue165
 t203 := Tryz.underlying217
 a203 := Tryz.isAgg217
 z203 := Tryz.sizeOf217
 v203 := Tryz.zeroValue217
 t206 := Tryz.underlying229
 a206 := Tryz.isAgg229
 z206 := Tryz.sizeOf229
 v206 := Tryz.zeroValue229
 t208 := Tryz.underlying231
 a208 := Tryz.isAgg231
 z208 := Tryz.sizeOf231
 v208 := Tryz.zeroValue231
 g3 := by kernel_rfl
 g4 := by kernel_rfl
 g13 := by kernel_rfl }
theorem Tryz.Builder_Extra_159 : Builder.Extra Tryz.prog Tryz.lays159_ren := {
 sizeBuilder := by kernel_rfl
 liesBuilder := by kernel_rfl
 t5 := Tryz.underlying5
 a5 := Tryz.isAgg5
 z5 := Tryz.sizeOf5
 v5 := Tryz.zeroValue5
 infoByte := by kernel_rfl
 cellsByte := by kernel_rfl
 sizeByte := by kernel_rfl
 neB5 := by decide }
open Go.RowKit in
theorem Tryz.strings_ToLower_ascii (s : ByteArray) (w : World) (hs : s.size ≤ 140737488355328) (hascii : ∀ (j : Nat) (b : UInt8), s.data.toList[j]? = some b → b.toNat < 128) :
  Calls Tryz.prog 143 #[.string s] w fun e w' => e = .returned (.string ⟨(Lib.toLowerA s.data.toList).toArray⟩) ∧ Below w.heap.size w w' := Any.strings_ToLower_ascii Tryz.lays159 Tryz.Builder_Extra_159 s w hs hascii
def Tryz.lays151_ren : Go.Shelf.Ren := ⟨fun | 151 => 128 | 152 => 152 | 137 => 173 | 119 => 174 | 224 => 175 | 225 => 176 | 217 => 191 | 266 => 199 | n => n, fun | 9 => 9 | 21 => 21 | 4 => 4 | 3 => 3 | 5 => 5 | 0 => 0 | 46 => 89 | n => n, fun | n => n⟩
theorem Tryz.lays151 : Go.Proofs.Lays.n151 Tryz.prog Tryz.lays151_ren := {
 mixed := by kernel_rfl
 f119 := Tryz.func174.trans (congrArg some (by kernel_rfl))
 f137 := Tryz.func173.trans (congrArg some (by kernel_rfl))
 f151 := Tryz.func128.trans (congrArg some (by kernel_rfl))
 f152 := Tryz.func152.trans (congrArg some (by kernel_rfl))
 f217 := Tryz.func191.trans (congrArg some (by kernel_rfl))
 f224 := Tryz.func175.trans (congrArg some (by kernel_rfl))
 f225 := Tryz.func176.trans (congrArg some (by kernel_rfl))
 f266 := Tryz.func199.trans (congrArg some (by kernel_rfl))
 t0 := Tryz.underlying0
 a0 := Tryz.isAgg0
 z0 := Tryz.sizeOf0
 v0 := Tryz.zeroValue0
 t3 := Tryz.underlying3
 a3 := Tryz.isAgg3
 z3 := Tryz.sizeOf3
 v3 := Tryz.zeroValue3
 t4 := Tryz.underlying4
 a4 := Tryz.isAgg4
 z4 := Tryz.sizeOf4
 v4 := Tryz.zeroValue4
 t5 := Tryz.underlying5
 a5 := Tryz.isAgg5
 z5 := Tryz.sizeOf5
 v5 := Tryz.zeroValue5
 t9 := Tryz.underlying9
 a9 := Tryz.isAgg9
 z9 := Tryz.sizeOf9
 v9 := Tryz.zeroValue9
 t21 := Tryz.underlying21
 a21 := Tryz.isAgg21
 z21 := Tryz.sizeOf21
 v21 := Tryz.zeroValue21
 t46 := Tryz.underlying89
 a46 := Tryz.isAgg89
 z46 := Tryz.sizeOf89
 v46 := Tryz.zeroValue89 }
open Go.RowKit Go.Lib in
theorem Tryz.strings_ContainsRune_ascii (s : ByteArray) (r : Int) (w : World) (h0 : 0 ≤ r) (h1 : r < 128) :
  Calls Tryz.prog 128 #[.string s, .int .i32 r] w fun e w' => e = .returned (.bool (decide (0 ≤ Lib.indexByte s.data.toList r.toNat.toUInt8))) ∧ w' = w := Any.strings_ContainsRune_ascii Tryz.lays151 s r w h0 h1
end Go.Proofs

namespace Go.Abs
open Go Go.Proofs Go.Proofs.YteehcinnfiaklaaGreatDoor
theorem zEr {P : Program} {w : World} {a b c : String × DataW Unit} (h : laidMet P [a, c, b] w) : laidMet P [a, b, c] w := by
 obtain ⟨ps, hv, hn, hr⟩ := h
 obtain ⟨n1, d1⟩ := a
 obtain ⟨n2, d2⟩ := b
 obtain ⟨n3, d3⟩ := c
 obtain ⟨g1, t1, c1, f1, p1, q1, a1, b1, v1, r1, ⟨g3, t3, c3, f3, p3, q3, a3, b3, v3, r3, ⟨g2, t2, c2, f2, p2, q2, a2, b2, v2, r2, e2, rfl⟩, rfl⟩, rfl⟩ := hv
 cases (show q2 = [] from e2)
 have hp : ((MemPlace.row ⟨g1, 0, none⟩ c1.size ++ p1) ++ ((MemPlace.row ⟨g3, 0, none⟩ c3.size ++ p3) ++ ((MemPlace.row ⟨g2, 0, none⟩ c2.size ++ p2) ++ []))).Perm ((MemPlace.row ⟨g1, 0, none⟩ c1.size ++ p1) ++ ((MemPlace.row ⟨g2, 0, none⟩ c2.size ++ p2) ++ ((MemPlace.row ⟨g3, 0, none⟩ c3.size ++ p3) ++ []))) := by
  simp only [List.append_nil]
  exact List.Perm.append_left _ List.perm_append_comm
 exact ⟨_, ⟨g1, t1, c1, f1, p1, _, a1, b1, v1, r1, ⟨g2, t2, c2, f2, p2, _, a2, b2, v2, r2, ⟨g3, t3, c3, f3, p3, [], a3, b3, v3, r3, rfl, rfl⟩, rfl⟩, rfl⟩, hp.nodup_iff.1 hn, fun b off hm => hr b off (hp.mem_iff.2 hm)⟩
noncomputable def zEs (os : Os) : World :=
 let N := (World.settled Tryz.prog os).heap.size
 let w0 := World.holding Tryz.prog os ⟨#[.cells Lib.caseCells5 (Tryz.lays159_ren.t 208)], #[], []⟩
 let put (h : Array Obj) (g : Nat) (cs : Array Value) : Array Obj := h.modify g fun
  | .cells _ t frozen => .cells cs t frozen
  | o => o
 let h1 := put w0.heap 3 (Lib.firstTab.map fun z => Value.int .u8 z).toArray
 let h2 := put h1 4 ((List.range 16).flatMap fun i => [Value.int .u8 (Lib.accLo i), Value.int .u8 (Lib.accHi i)]).toArray
 let h3 := put h2 2 #[.slice (some ⟨N, 0, none⟩) 336 336]
 { w0 with heap := h3 }
theorem zCa : (Rows.laid_unicode_utf8_acceptRanges : DataW Unit) = Lib.acceptData := by kernel_rfl
theorem zCv : Rows.laid_unicode_CaseRanges = Lib.caseData := by kernel_rfl
theorem zDa : Rows.laid_unicode_utf8_first = Lib.firstData := by kernel_rfl
theorem zJL (os : Os) (args : Array Value) : laidMet Tryz.prog [("unicode/utf8.acceptRanges", Rows.laid_unicode_utf8_acceptRanges), ("unicode.CaseRanges", Rows.laid_unicode_CaseRanges), ("unicode/utf8.first", Rows.laid_unicode_utf8_first)] ((zEs os).forCall (fun _ _ => 0) ⟨#[], args, []⟩).memory := by
 rw [zCa, zCv, zDa]
 refine zEr ?_
 exact laidMet_with_case (ρ := Tryz.lays159_ren) { Tryz.lays159 with } Tryz.lays159.t206 ⟨by kernel_rfl, by kernel_rfl, by kernel_rfl, by kernel_rfl, by kernel_rfl, by kernel_rfl⟩
  (l := [("unicode/utf8.acceptRanges", Lib.acceptData), ("unicode/utf8.first", Lib.firstData)])
  10 (by kernel_rfl) (by kernel_rfl) (by kernel_rfl) ((World.settled Tryz.prog default).heap.size) (Tryz.lays159_ren.t 208) (of_decide_eq_true (by kernel_rfl)) (by kernel_rfl) (by kernel_rfl) (by kernel_rfl)
theorem zJ5 : laidOutB Tryz.pinned.checked.prog = true := by kernel_rfl
theorem zJ7 : mapsRowed Tryz.pinned.checked.prog = true := by kernel_rfl
theorem zJ8 : (Tryz.pinned.checked.prog.stops == []) = true := by kernel_rfl
theorem zJ4 : (Tryz.pinned.checked.prog.stopKnobs == []) = true := by kernel_rfl
theorem zJ3 : Tryz.pinned.checked.prog.stopsHeard = true := by kernel_rfl
theorem zJ2 : Tryz.pinned.checked.prog.mayEnter = true := by kernel_rfl
theorem zJ6 : true = Tryz.pinned.checked.prog.looks [] := by kernel_rfl
end Go.Abs

namespace Go.Abs
open Go Go.Proofs Tryz
attribute [local irreducible] q9 Hold y3
attribute [go_sem] w5 Nat.le_refl Nat.sub_zero Int.reduceGT Nat.reduceGT Int.reduceGE
@[go_sem ↓] theorem zJI (a b : Int) (K : Cont) : zLU .xor .u64 a b K = K (uV (c6 a b)) [] [] := rfl
@[go_sem ↓] theorem zKa (a b : Int) (K : Cont) : V4 .shl .u64 a b K = (0 ≤ b ∧ K (uV (M4 a b.toNat)) [] []) := rfl
@[go_sem ↓] theorem zKb (a b : Int) (K : Cont) : V4 .shr .u64 a b K = (0 ≤ b ∧ K (uV (l6 a b.toNat)) [] []) := rfl
@[go_sem] theorem zIe (s : Int) : c6 s (M4 s 13) = zLu s := rfl
@[go_sem] theorem zIf (s : Int) : c6 s (l6 s 7) = zLv s := rfl
@[go_sem] theorem zIg (s : Int) : c6 s (M4 s 17) = zLw s := rfl
@[go_sem] theorem zIh (s : Int) : zLw (zLv (zLu s)) = N1 s := rfl
@[go_sem] theorem zIi (n : Int) : IntKind.u64.wrap (c6 n (l6 n 30) * 10723151780598845931) = zLh n := rfl
theorem zGv (d : Dice) (h : d.list.length ≤ 4294967296) : zKq prog 77 [.ptr 0 0] [w5 d] (uV (zLH d)) [w5 (zLF d)] := by
 have e2 : (zLF d).list = d.list := rfl
 have e4 : (zLF d).seed = zLL d := rfl
 have e6 : zLH d = c6 (zLh (zLL d)) (l6 (zLh (zLL d)) 31) := rfl
 by_cases q : d.at_ < d.list.length
 ·have q2 : ((d.at_ : Int) < (d.list.length : Int)) := by omega
  have e1 : zLL d = IntKind.u64.wrap (N1 d.seed + IntKind.u64.wrap (IntKind.u64.wrap (d.list.getD d.at_ default) * 13787848793156543929)) := by unfold zLL; rw [if_pos q]
  have e3 : (zLF d).at_ = d.at_ + 1 := by unfold zLF; simp only; rw [if_pos q]
  have e5 : IntKind.i64.wrap ((d.at_ : Int) + 1) = ((d.at_ + 1 : Nat) : Int) := u9 (by omega)
  generalize zLF d = d' at *
  refine q7 func77 rfl (fun E hE => ?_); simp only [go_sem, ntmps77]
  repeat' (first | (refine Qr rfl ?_; try intro _ hK; try simp only [go_sem, *]) | refine Qh rfl ?_ | refine Qd rfl (by kernel_rfl) ?_ | (refine Qc rfl rfl ?_ ?_ <;> (intro hb; have hc := hb; try simp only [go_sem] at hc)) | refine q6 rfl ?_ | (refine Qb ?_ ?_; focus kernel_rfl) | ((with_reducible apply And.intro); focus omega) | (refine z8 hK ?_; clear hK; simp only [go_sem, *]) | simp only [z7, z6, go_sem, *])
  all_goals first | contradiction | omega | skip
  refine ⟨[_], [some 0], [], ⟨rfl, trivial⟩, ?_⟩
  simp only [go_sem, *]
 ·have q2 : ¬ ((d.at_ : Int) < (d.list.length : Int)) := by omega
  have e1 : zLL d = N1 d.seed := by unfold zLL; rw [if_neg q]
  have e3 : (zLF d).at_ = d.at_ := by unfold zLF; simp only; rw [if_neg q]
  generalize zLF d = d' at *
  refine q7 func77 rfl (fun E hE => ?_); simp only [go_sem, ntmps77]
  repeat' (first | (refine Qr rfl ?_; try intro _ hK; try simp only [go_sem, *]) | refine Qh rfl ?_ | refine Qd rfl (by kernel_rfl) ?_ | (refine Qc rfl rfl ?_ ?_ <;> (intro hb; have hc := hb; try simp only [go_sem] at hc)) | refine q6 rfl ?_ | (refine Qb ?_ ?_; focus kernel_rfl) | ((with_reducible apply And.intro); focus omega) | (refine z8 hK ?_; clear hK; simp only [go_sem, *]) | simp only [z7, z6, go_sem, *])
  all_goals first | contradiction | omega | skip
  refine ⟨[_], [some 0], [], ⟨rfl, trivial⟩, ?_⟩
  simp only [go_sem, *]
theorem Q5 (d : Dice) (n : Int) (h : d.list.length ≤ 4294967296) (hn : n ≤ 4294967296) : zKq prog 26 [.ptr 0 0, iV n] [w5 d] (iV (toN n d)) [w5 (toD n d)] := by
 by_cases q : n < 1
 ·have e1 : toN n d = 0 := by unfold toN; rw [if_pos q]
  have e2 : toD n d = d := by unfold toD; rw [if_pos q]
  refine q7 func26 rfl (fun E hE => ?_); simp only [go_sem, ntmps26]
  repeat' (first | (refine Qr rfl ?_; try intro _ hK; try simp only [go_sem, *]) | refine Qh rfl ?_ | (refine Qc rfl rfl ?_ ?_ <;> (intro hb; have hc := hb; try simp only [go_sem] at hc)) | refine q6 rfl ?_ | ((with_reducible apply And.intro); focus omega) | (refine z8 hK ?_; clear hK; simp only [go_sem, *]) | simp only [z7, z6, go_sem, *])
  all_goals first | contradiction | omega | skip
  refine ⟨[_], [some 0], [], ⟨rfl, trivial⟩, ?_⟩
  simp only [go_sem, *]
 ·have e1 : toN n d = (l6 (zLH d) 16).tmod (n + 1) := by unfold toN; rw [if_neg q]
  have e2 : toD n d = zLF d := by unfold toD; rw [if_neg q]
  have hr := zCI n d
  rw [e1] at hr
  have e3 : IntKind.i64.wrap (n + 1) = n + 1 := wrap_i64 (by omega) (by omega)
  have e4 : IntKind.u64.wrap (n + 1) = n + 1 := by rw [IntKind.wrap_u64]; omega
  have e5 : IntKind.i64.wrap ((l6 (zLH d) 16).tmod (n + 1)) = (l6 (zLH d) 16).tmod (n + 1) := wrap_i64 (by omega) (by omega)
  have e6 : ¬ n + 1 = 0 := by omega
  have sr := zGv d h
  generalize zLH d = r at *
  generalize zLF d = d' at *
  clear hr
  refine q7 func26 rfl (fun E hE => ?_); simp only [go_sem, ntmps26]
  repeat' (first | (refine Qr rfl ?_; try intro _ hK; try simp only [go_sem, *]) | refine Qh rfl ?_ | (refine Qc rfl rfl ?_ ?_ <;> (intro hb; have hc := hb; try simp only [go_sem] at hc)) | refine q6 rfl ?_ | (refine x4 [0] (sr) ?_; simp only [go_sem, *]) | ((with_reducible apply And.intro); focus omega) | (refine z8 hK ?_; clear hK; simp only [go_sem, *]) | simp only [z7, z6, go_sem, *])
  all_goals first | contradiction | omega | skip
  refine ⟨[_], [some 0], [], ⟨rfl, trivial⟩, ?_⟩
  simp only [go_sem, *]
theorem zGL (d : Dice) (lo hi : Int) (h : d.list.length ≤ 4294967296) (hl : 0 ≤ lo ∧ lo ≤ hi) (hh : hi ≤ 4294967296) : zKq prog 27 [.ptr 0 0, iV lo, iV hi] [w5 d] (iV (f7 lo hi d)) [w5 (Z6 lo hi d)] := by
 have st := Q5 d (hi - lo) h (by omega)
 have hf := F1 hl.2 d
 have e1 : IntKind.i64.wrap (hi - lo) = hi - lo := wrap_i64 (by omega) (by omega)
 have e2 : IntKind.i64.wrap (lo + toN (hi - lo) d) = f7 lo hi d := by
  have : lo + toN (hi - lo) d = f7 lo hi d := rfl
  rw [this]; exact wrap_i64 (by omega) (by omega)
 have e3 : Z6 lo hi d = toD (hi - lo) d := rfl
 rw [e3]
 generalize f7 lo hi d = r at *
 clear e3 hf hl
 refine q7 func27 rfl (fun E hE => ?_); simp only [go_sem, ntmps27]
 repeat' (first | (refine Qr rfl ?_; try intro _ hK; try simp only [go_sem, *]) | refine Qh rfl ?_ | (refine Qc rfl rfl ?_ ?_ <;> (intro hb; have hc := hb; try simp only [go_sem] at hc)) | refine q6 rfl ?_ | (refine x4 [0] (st) ?_; simp only [go_sem, *]) | ((with_reducible apply And.intro); focus omega) | (refine z8 hK ?_; clear hK; simp only [go_sem, *]) | simp only [z7, z6, go_sem, *])
 refine ⟨[_], [some 0], [], ⟨rfl, trivial⟩, ?_⟩
 simp only [go_sem, *]
theorem I9 (d : Dice) (k : Int) (h : d.list.length ≤ 4294967296) (hk : 0 ≤ k ∧ k ≤ 4294967296) : zKq prog 34 [.ptr 0 0, iV k] [w5 d] (bV (a7 k d)) [w5 (x8 k d)] := by
 have st := Q5 d (k - 1) h (by omega)
 have e1 : IntKind.i64.wrap (k - 1) = k - 1 := wrap_i64 (by omega) (by omega)
 have e2 : a7 k d = (toN (k - 1) d == 0) := rfl
 have e3 : x8 k d = toD (k - 1) d := rfl
 rw [e3, e2]
 clear e2 e3 hk
 refine q7 func34 rfl (fun E hE => ?_); simp only [go_sem, ntmps34]
 repeat' (first | (refine Qr rfl ?_; try intro _ hK; try simp only [go_sem, *]) | refine Qh rfl ?_ | (refine Qc rfl rfl ?_ ?_ <;> (intro hb; have hc := hb; try simp only [go_sem] at hc)) | refine q6 rfl ?_ | (refine x4 [0] (st) ?_; simp only [go_sem, *]) | ((with_reducible apply And.intro); focus omega) | (refine z8 hK ?_; clear hK; simp only [go_sem, *]) | simp only [z7, z6, go_sem, *])
 refine ⟨[_], [some 0], [], ⟨rfl, trivial⟩, ?_⟩
 simp only [go_sem, *]
@[reducible] def Y6 (l : List Int) : AV := .list (l.map iV)
def zBT (l : List Int) : Dice := ⟨l, 0, 11400714819323198485⟩
theorem zGR (l : List Int) : zKq prog 23 [Y6 l] [] (.ptr 0 0) [w5 (zBT l)] := by
 refine q7 func23 rfl (fun E hE => ?_); simp only [go_sem, ntmps23]
 repeat' (first | (refine Qr rfl ?_; try intro _ hK; try simp only [go_sem, *]) | refine Qh rfl ?_ | (refine Qc rfl rfl ?_ ?_ <;> (intro hb; have hc := hb; try simp only [go_sem] at hc)) | refine q6 rfl ?_ | ((with_reducible apply And.intro); focus omega) | (refine z8 hK ?_; clear hK; simp only [go_sem, *]) | simp only [z7, z6, go_sem, *])
 refine ⟨[_], [some 0], [], ⟨rfl, trivial⟩, ?_⟩
 simp only [go_sem, zBT, *]
 try rfl
end Go.Abs

namespace Go.Abs
open Go
theorem zBO (k : Str) (l : List Str) (x own : Str) : t8 k (l ++ [x]) own = (t8 k l own || (!(decide (zKs x = own)) && c5 k (zKs x))) := by
 unfold t8
 rw [List.any_append, List.any_cons, List.any_nil, Bool.or_false]
theorem zBU {l : List Str} {x own s : Str} {most : Int} (h : Z3 (l ++ [x]) own most s) : Z3 l own most s := by
 obtain ⟨h1, h2, h3⟩ := h
 rw [zBO, Bool.or_eq_false_iff] at h3
 exact ⟨h1, h2, h3.1⟩
theorem zDJ {l : List Str} {x own : Str} {most : Int} {up : Bool} (h : zKy l own most up = none) : zKy (l ++ [x]) own most up = none :=
 cutN_none.2 (fun s hs => cutN_none.1 h s (zBU hs))
theorem zDI {l : List Str} {x own a b : Str} {most : Int} (ha : zKy l own most true = some a) (hb : zKy (l ++ [x]) own most true = some b) : a.length ≤ b.length := by
 have h1 := cutN_some.1 ha
 have h2 := cutN_some.1 hb
 have := h1.2 b (zBU h2.1)
 rw [L7] at this
 simp only [if_true, not_or] at this
 omega
theorem zAI {l : List Str} {x own : Str} {most : Int} {up : Bool} (hx : zKs x = own) : zKy (l ++ [x]) own most up = zKy l own most up := by
 unfold zKy
 congr 2
 funext s
 rw [zBO, hx]
 simp
end Go.Abs

namespace Go.Abs
open Go
def zJG (x : Str) : Prop := x.head? ≠ some 104
end Go.Abs

namespace Go.Abs
open Go
def Asc (n : Nat) (c : List Nat) : Prop := c.Pairwise (· < ·) ∧ ∀ i, i ∈ c → i < n
def zCN (l : List Str) (c : List Nat) : List Str := ((List.range l.length).filter fun i => !decide (i ∈ c)).map fun i => l.getD i []
def zHp (l : List Str) (c : List Nat) : Prop := Asc l.length c ∧ N6 (zCN l c) = true
def zBb (n : Nat) : Nat → Nat → List (List Nat)
 | 0, _ => [[]]
 | m + 1, lo => (List.range' lo (n - lo)).flatMap fun i => (zBb n m (i + 1)).map (i :: ·)
def zKo (l : List Str) (m : Nat) : Option (List Nat) := f6 (fun c => if N6 (zCN l c) = true then some c else none) (zBb l.length m 0)
end Go.Abs

namespace Go.Abs
open Go
def b5 (r : Int) : Int := if 97 ≤ r ∧ r ≤ 122 then 1 else if 65 ≤ r ∧ r ≤ 90 ∧ ¬ (r = 72 ∨ r = 81 ∨ r = 87) then 2 else 0
theorem zEp : ((List.range 256).all fun n => decide (b5 n = x7 (UInt8.ofNat n))) = true := by kernel_rfl
theorem E3 (c : UInt8) : b5 (c.toNat : Int) = x7 c := by
 have := List.all_eq_true.1 zEp c.toNat (List.mem_range.2 c.toNat_lt)
 rw [decide_eq_true_eq, UInt8.ofNat_toNat] at this
 exact this
theorem zA3 {r : Int} (h : 128 ≤ r) : b5 r = 0 := by
 unfold b5
 rw [if_neg (by omega), if_neg (by omega)]
theorem zA2 {c : UInt8} (h : 128 ≤ c.toNat) : x7 c = 0 := by rw [← E3, zA3 (by omega)]
theorem zEn {c : UInt8} (h : x7 c ≠ 0) : c.toNat < 128 := by
 apply Decidable.of_not_not
 intro hn
 exact h (zA2 (by omega))
theorem zEq : ((List.range 256).all fun n => (y6 (UInt8.ofNat n) == decide (x7 (UInt8.ofNat n) = 1)) && (e7 (UInt8.ofNat n) == decide (x7 (UInt8.ofNat n) = 2))) = true := by kernel_rfl
theorem zA4 (c : UInt8) : y6 c = decide (x7 c = 1) ∧ e7 c = decide (x7 c = 2) := by
 have := List.all_eq_true.1 zEq c.toNat (List.mem_range.2 c.toNat_lt)
 rw [UInt8.ofNat_toNat, Bool.and_eq_true, beq_iff_eq, beq_iff_eq] at this
 exact this
theorem latin_kind {c : UInt8} : y6 c = true ↔ x7 c = 1 := by rw [(zA4 c).1, decide_eq_true_eq]
theorem other_kind {c : UInt8} : e7 c = true ↔ x7 c = 2 := by rw [(zA4 c).2, decide_eq_true_eq]
def FormTo (s : Str) (i : Nat) (k : Int) : Prop := (i = 0 ∧ k = 0) ∨ (0 < i ∧ k ≠ 0 ∧ ∀ j, j < i → x7 (s.getD j 0) = k)
theorem zEo (c : UInt8) : x7 c = 0 ∨ x7 c = 1 ∨ x7 c = 2 := by
 unfold x7
 repeat' split
 all_goals simp
theorem FormTo.end {s : Str} {i : Nat} {k : Int} (h : FormTo s i k) (hi : i = s.length) (h0 : 0 < s.length) : o3 s = true := by
 rcases h with h | ⟨_, hk, h⟩
 ·omega
 ·unfold o3
  rw [Bool.or_eq_true, List.all_eq_true, List.all_eq_true]
  have hm : ∀ c, c ∈ s → x7 c = k := fun c hc => by
   obtain ⟨j, hj, rfl⟩ := List.getElem_of_mem hc
   have := h j (by omega)
   simpa [List.getD, hj] using this
  have hr : k = 1 ∨ k = 2 := by
   cases s with
   | nil => simp at h0
   | cons c r =>
    have h1 := hm c (by simp)
    rcases zEo c with h2 | h2 | h2 <;> omega
  rcases hr with rfl | rfl
  ·exact .inl (fun c hc => latin_kind.2 (hm c hc))
  ·exact .inr (fun c hc => other_kind.2 (hm c hc))
theorem FormTo.next {s : Str} {i : Nat} {k : Int} (h : FormTo s i k) (hk : x7 (s.getD i 0) ≠ 0) (he : k = 0 ∨ x7 (s.getD i 0) = k) : FormTo s (i + 1) (x7 (s.getD i 0)) := by
 refine .inr ⟨by omega, hk, fun j hj => ?_⟩
 by_cases e : j = i
 ·rw [e]
 ·rcases h with ⟨rfl, rfl⟩ | ⟨h0, h1, h⟩
  ·omega
  ·rw [h j (by omega)]
   rcases he with he | he
   ·exact absurd he h1
   ·exact he.symm
theorem FormTo.bad {s : Str} {i : Nat} {k : Int} (h : FormTo s i k) (hi : i < s.length) (hb : x7 (s.getD i 0) = 0 ∨ (k ≠ 0 ∧ x7 (s.getD i 0) ≠ k)) : o3 s = false := by
 have hm : s.getD i 0 ∈ s := by simp [List.getD, hi]
 cases hf : o3 s with
 | false => rfl
 | true =>
  exfalso
  unfold o3 at hf
  rw [Bool.or_eq_true, List.all_eq_true, List.all_eq_true] at hf
  have hall : ∃ q, q ≠ 0 ∧ ∀ c, c ∈ s → x7 c = q := by
   rcases hf with hf | hf
   ·exact ⟨1, by decide, fun c hc => latin_kind.1 (hf c hc)⟩
   ·exact ⟨2, by decide, fun c hc => other_kind.1 (hf c hc)⟩
  obtain ⟨q, hq, hall⟩ := hall
  have h1 := hall _ hm
  rcases hb with hb | ⟨hb1, hb2⟩
  ·exact hq (h1.symm.trans hb)
  ·rcases h with ⟨_, h⟩ | ⟨h0, _, h⟩
   ·exact hb1 h
   ·have h2 := h 0 h0
    have h3 : s.getD 0 0 ∈ s := by
     have : 0 < s.length := by omega
     simp [List.getD, this]
    have := hall _ h3
    exact hb2 (by omega)
end Go.Abs

namespace Go.Abs
open Go Go.Proofs Tryz
attribute [local irreducible] q9 Hold y3
theorem zGm (n : Int) : zKq prog 153 [iV n] [] (bV false) [] := by
 refine q7 func153 rfl (fun E hE => ?_); simp only [go_sem, ntmps153]
 repeat' (first | (refine Qr rfl ?_; try intro _ hK; try simp only [go_sem, *]) | refine Qh rfl ?_ | (refine Qc rfl rfl ?_ ?_ <;> (intro hb; have hc := hb; try simp only [go_sem] at hc)) | refine q6 rfl ?_ | ((with_reducible apply And.intro); focus omega) | (refine z8 hK ?_; clear hK; simp only [go_sem, *]) | simp only [z7, z6, go_sem, *])
 all_goals (refine ⟨[_], [], [], ⟨rfl, trivial⟩, ?_⟩; simp only [go_sem, *])
 all_goals simp_all
theorem zGC (a b : Int) : zKq prog 130 [iV a, iV b] [] (iV (zK4 a b)) [] := by
 refine q7 func130 rfl (fun E hE => ?_); simp only [go_sem, ntmps130]
 repeat' (first | (refine Qr rfl ?_; try intro _ hK; try simp only [go_sem, *]) | refine Qh rfl ?_ | (refine Qc rfl rfl ?_ ?_ <;> (intro hb; have hc := hb; try simp only [go_sem] at hc)) | refine q6 rfl ?_ | (refine y1 (zGm _) ?_; simp only [go_sem, *]) | ((with_reducible apply And.intro); focus omega) | (refine z8 hK ?_; clear hK; simp only [go_sem, *]) | simp only [z7, z6, go_sem, *])
 all_goals (refine ⟨[_], [], [], ⟨rfl, trivial⟩, ?_⟩; simp only [go_sem, *])
 all_goals (refine O5 ?_; unfold zK4; repeat' split)
 all_goals omega
def orL : List Int → Int
 | [] => 0
 | x :: r => if x = 0 then orL r else x
theorem zBx (l : List Int) (hl : l.length ≤ 4294967296) : zKq prog 119 [.list (l.map iV)] [] (iV (orL l)) [] := by
 refine q7 func119 rfl (fun E hE => ?_); simp only [go_sem, ntmps119]
 repeat' (first | (refine Qr rfl ?_; try intro _ hK; try simp only [go_sem, *]) | refine Qh rfl ?_ | (refine Qc rfl rfl ?_ ?_ <;> (intro hb; have hc := hb; try simp only [go_sem] at hc)) | refine q6 rfl ?_ | ((with_reducible apply And.intro); focus omega) | (refine z8 hK ?_; clear hK; simp only [go_sem, *]) | simp only [z7, z6, go_sem, *])
 refine o6 rfl (l.length) (fun i => orL (l.drop i) = orL l) 18 (fun i => [(8, iV i), (7, iV l.length), (6, .list (l.map iV)), (3, iV 0)]) (fun i => []) [] [] (by simp) ?_; intro i hi hP
 repeat' (first | (refine Qr rfl ?_; try intro _ hK; try simp only [go_sem, *]) | refine Qh rfl ?_ | (refine Qc rfl rfl ?_ ?_ <;> (intro hb; have hc := hb; try simp only [go_sem] at hc)) | refine q6 rfl ?_ | ((with_reducible apply And.intro); focus omega) | (refine z8 hK ?_; clear hK; simp only [go_sem, *]) | simp only [z7, z6, go_sem, *])
 ·(refine ⟨[_], [], [], ⟨rfl, trivial⟩, ?_⟩; simp only [go_sem, *])
  rw [← hP, o0 ‹_›, orL, if_neg ‹_›]
 ·exact c0 (i' := i + 1) [] [] (by rw [← hP, o0 (i := i) ‹_›, orL, if_pos ‹_›])
 ·(refine ⟨[_], [], [], ⟨rfl, trivial⟩, ?_⟩; simp only [go_sem, *])
  rw [← hP, f5 (by omega), orL]
theorem zBX (a b : Int) : orL [a, b] = orI a b := by
 simp only [orL, orI]; repeat' split
 all_goals omega
theorem zGn (s : Str) : zKq prog 142 [sV s] [] (bV false) [] := by
 refine q7 func142 rfl (fun E hE => ?_); simp only [go_sem, ntmps142]
 repeat' (first | (refine Qr rfl ?_; try intro _ hK; try simp only [go_sem, *]) | refine Qh rfl ?_ | (refine Qc rfl rfl ?_ ?_ <;> (intro hb; have hc := hb; try simp only [go_sem] at hc)) | refine q6 rfl ?_ | ((with_reducible apply And.intro); focus omega) | (refine z8 hK ?_; clear hK; simp only [go_sem, *]) | simp only [z7, z6, go_sem, *])
 all_goals (refine ⟨[_], [], [], ⟨rfl, trivial⟩, ?_⟩; simp only [go_sem, *])
 all_goals simp_all
theorem zGo (s : Str) : zKq prog 172 [sV s] [] (bV false) [] := by
 refine q7 func172 rfl (fun E hE => ?_); simp only [go_sem, ntmps172]
 repeat' (first | (refine Qr rfl ?_; try intro _ hK; try simp only [go_sem, *]) | refine Qh rfl ?_ | (refine Qc rfl rfl ?_ ?_ <;> (intro hb; have hc := hb; try simp only [go_sem] at hc)) | refine q6 rfl ?_ | ((with_reducible apply And.intro); focus omega) | (refine z8 hK ?_; clear hK; simp only [go_sem, *]) | simp only [z7, z6, go_sem, *])
 all_goals (refine ⟨[_], [], [], ⟨rfl, trivial⟩, ?_⟩; simp only [go_sem, *])
 all_goals simp_all
theorem zBu (a b : Str) : zKq prog 120 [sV a, sV b] [] (iV (zKv a b)) [] := by
 refine q7 func120 rfl (fun E hE => ?_); simp only [go_sem, ntmps120]
 repeat' (first | (refine Qr rfl ?_; try intro _ hK; try simp only [go_sem, *]) | refine Qh rfl ?_ | (refine Qc rfl rfl ?_ ?_ <;> (intro hb; have hc := hb; try simp only [go_sem] at hc)) | refine q6 rfl ?_ | (refine y1 (zGn _) ?_; simp only [go_sem, *]) | ((with_reducible apply And.intro); focus omega) | (refine z8 hK ?_; clear hK; simp only [go_sem, *]) | simp only [z7, z6, go_sem, *])
 all_goals (refine ⟨[_], [], [], ⟨rfl, trivial⟩, ?_⟩; simp only [go_sem, *])
 all_goals (refine O5 ?_; unfold zKv x9; simp_all)
 all_goals (apply Decidable.of_not_not; intro h; exact absurd (R7 (by assumption) (by simpa using h)) (by assumption))
theorem zGE (a b : Str) : zKq prog 150 [sV a, sV b] [] (iV (zKv a b)) [] := by
 refine q7 func150 rfl (fun E hE => ?_); simp only [go_sem, ntmps150]
 repeat' (first | (refine Qr rfl ?_; try intro _ hK; try simp only [go_sem, *]) | refine Qh rfl ?_ | (refine Qc rfl rfl ?_ ?_ <;> (intro hb; have hc := hb; try simp only [go_sem] at hc)) | refine q6 rfl ?_ | (refine y1 (zGo _) ?_; simp only [go_sem, *]) | ((with_reducible apply And.intro); focus omega) | (refine z8 hK ?_; clear hK; simp only [go_sem, *]) | simp only [z7, z6, go_sem, *])
 all_goals (refine ⟨[_], [], [], ⟨rfl, trivial⟩, ?_⟩; simp only [go_sem, *])
 all_goals (refine O5 ?_; unfold zKv x9; simp_all)
 all_goals (apply Decidable.of_not_not; intro h; exact absurd (R7 (by assumption) (by simpa using h)) (by assumption))
end Go.Abs

namespace Go.Abs
open Go Go.Proofs Tryz
attribute [local irreducible] q9 Hold y3
theorem zFG : ¬ W0 := fun h => h
def hqw (r : Int) : Bool := decide (0 ≤ Lib.indexByte [72, 81, 87] r.toNat.toUInt8)
theorem zEW : ((List.range 128).all fun n => hqw n == (n == 72 || n == 81 || n == 87)) = true := by kernel_rfl
theorem zEX {r : Int} (h0 : 0 ≤ r) (h1 : r < 128) : hqw r = decide (r = 72 ∨ r = 81 ∨ r = 87) := by
 obtain ⟨n, rfl⟩ := Int.eq_ofNat_of_zero_le h0
 have := List.all_eq_true.1 zEW n (List.mem_range.2 (by omega))
 rw [beq_iff_eq] at this
 rw [this, Bool.eq_iff_iff]
 simp
 omega
theorem zGj (r : Int) (h0 : 0 ≤ r) (h1 : r < 128) : zKq prog 128 [sV [72, 81, 87], .raw (.int .i32 r)] [] (bV (hqw r)) [] :=
 zHC [.string ⟨[72, 81, 87].toArray⟩, .int .i32 r] (.bool (hqw r)) rfl (fun w => Tryz.strings_ContainsRune_ascii _ r w h0 h1)
theorem C7 (r : Int) : zKq prog 92 [.raw (.int .i32 r)] [] (iV (b5 r)) [] := by
 by_cases q : 65 ≤ r ∧ r ≤ 90
 ·have sh := zGj r (by omega) (by omega)
  have e := zEX (r := r) (by omega) (by omega)
  generalize hqw r = b at *
  have e0 : b = decide (r = 72 ∨ r = 81 ∨ r = 87) := e
  clear e
  refine q7 func92 rfl (fun E hE => ?_); simp only [go_sem, ntmps92]
  repeat' (first | (refine Qr rfl ?_; try intro _ hK; try simp only [go_sem, *]) | (refine Qi rfl rfl rfl rfl ?_ ?_ <;> (intro hb; (try intro _ hK); have hc := hb; try simp only [go_sem] at hc; simp only [go_sem, *])) | refine Qh rfl ?_ | (refine Qc rfl rfl ?_ ?_ <;> (intro hb; have hc := hb; try simp only [go_sem] at hc)) | refine q6 rfl ?_ | (refine y1 (sh) ?_; simp only [go_sem, *]) | ((with_reducible apply And.intro); focus omega) | (refine z8 hK ?_; clear hK; simp only [go_sem, *]) | simp only [z7, z6, go_sem, *])
  all_goals (refine ⟨[_], [], [], ⟨rfl, trivial⟩, ?_⟩; simp only [go_sem, *])
  all_goals (refine O5 ?_; unfold b5; simp_all)
  all_goals omega
 ·refine q7 func92 rfl (fun E hE => ?_); simp only [go_sem, ntmps92]
  repeat' (first | (refine Qr rfl ?_; try intro _ hK; try simp only [go_sem, *]) | (refine Qi rfl rfl rfl rfl ?_ ?_ <;> (intro hb; (try intro _ hK); have hc := hb; try simp only [go_sem] at hc; simp only [go_sem, *])) | refine Qh rfl ?_ | (refine Qc rfl rfl ?_ ?_ <;> (intro hb; have hc := hb; try simp only [go_sem] at hc)) | refine q6 rfl ?_ | ((with_reducible apply And.intro); focus omega) | (refine z8 hK ?_; clear hK; simp only [go_sem, *]) | simp only [z7, z6, go_sem, *])
  all_goals try omega
  all_goals (refine ⟨[_], [], [], ⟨rfl, trivial⟩, ?_⟩; simp only [go_sem, *])
  all_goals (refine O5 ?_; unfold b5; simp_all)
  all_goals omega
end Go.Abs

namespace Go.Abs
open Go Go.Proofs Tryz
attribute [local irreducible] q9 Hold y3
theorem zE1 : ((List.range 128).all fun n => n == 67 || n == 74 || n == 88 || n == 89 || decide (Lib.toLowerA [UInt8.ofNat n] = w7 (UInt8.ofNat n))) = true := by kernel_rfl
theorem zE2 {c : UInt8} (h : c.toNat < 128) (h1 : ¬ c.toNat = 67) (h2 : ¬ c.toNat = 74) (h3 : ¬ c.toNat = 88) (h4 : ¬ c.toNat = 89) : Lib.toLowerA [c] = w7 c := by
 have := List.all_eq_true.1 zE1 c.toNat (List.mem_range.2 h)
 simpa [h1, h2, h3, h4] using this
theorem zGq (c : UInt8) (h : c.toNat < 128) : zKq prog 143 [sV [c]] [] (sV (Lib.toLowerA [c])) [] :=
 zG9 zFG [.string ⟨[c].toArray⟩] (.string ⟨(Lib.toLowerA [c]).toArray⟩) rfl (fun w => Tryz.strings_ToLower_ascii ⟨[c].toArray⟩ w (by simp) (fun j b hb => by
  cases j with
  | zero => simp at hb; subst hb; exact h
  | succ j => simp at hb))
theorem zF7 : w7 67 = [99, 104] := by decide
theorem zF8 : w7 74 = [106, 117] := by decide
theorem zF9 : w7 88 = [115, 104] := by decide
theorem zGA : w7 89 = [106, 97] := by decide
theorem zG2 (c : UInt8) (h : c.toNat < 128) : zKq prog 122 [.raw (.int .i32 (c.toNat : Int))] [] (sV (w7 c)) [] := by
 have sl := zGq c h
 have ee := zAL (n := (c.toNat : Int)) (by omega) (by omega)
 rw [Int.toNat_natCast, UInt8.ofNat_toNat] at ee
 have hl := zE2 h
 have k1 : c.toNat = 67 → w7 c = [99, 104] := fun e => by rw [UInt8.toNat_inj.1 (show c.toNat = (67 : UInt8).toNat from e), zF7]
 have k2 : c.toNat = 74 → w7 c = [106, 117] := fun e => by rw [UInt8.toNat_inj.1 (show c.toNat = (74 : UInt8).toNat from e), zF8]
 have k3 : c.toNat = 88 → w7 c = [115, 104] := fun e => by rw [UInt8.toNat_inj.1 (show c.toNat = (88 : UInt8).toNat from e), zF9]
 have k4 : c.toNat = 89 → w7 c = [106, 97] := fun e => by rw [UInt8.toNat_inj.1 (show c.toNat = (89 : UInt8).toNat from e), zGA]
 generalize c.toNat = n at *
 generalize w7 c = sb at *
 have fin : n < 128 → ¬ n = 67 → ¬ n = 74 → ¬ n = 88 → ¬ n = 89 → Lib.toLowerA [c] = sb := fun _ => hl
 clear hl
 generalize Lib.toLowerA [c] = lb at *
 generalize he : Utf8.encode (n : Int) = eb at *
 obtain ⟨ev, hev⟩ : ∃ v, v = Value.string eb := ⟨_, rfl⟩
 have sl2 : zKq prog 143 [.raw (.string eb)] [] (sV lb) [] := by rw [ee]; exact sl
 clear ee sl hev ev
 refine q7 func122 rfl (fun E hE => ?_); simp only [go_sem, ntmps122]
 repeat' (first | (refine Qr rfl ?_; try intro _ hK; try simp only [go_sem, *]) | refine Qh rfl ?_ | (refine Qc rfl rfl ?_ ?_ <;> (intro hb; have hc := hb; try simp only [go_sem] at hc)) | refine q6 rfl ?_ | (refine y1 (sl2) ?_; simp only [go_sem, *]) | ((with_reducible apply And.intro); focus omega) | (refine z8 hK ?_; clear hK; simp only [go_sem, *]) | simp only [z7, z6, go_sem, *])
 all_goals (refine ⟨[_], [], [], ⟨rfl, trivial⟩, ?_⟩; simp only [go_sem, *])
 ·rw [k1 (by omega)]
 ·rw [k2 (by omega)]
 ·rw [k4 (by omega)]
 ·rw [k3 (by omega)]
 ·rw [fin (by omega) (by omega) (by omega) (by omega) (by omega)]
end Go.Abs

namespace Go.Abs
open Go Go.Proofs Tryz
attribute [local irreducible] q9 Hold y3
theorem zBp (s : Str) {i : Nat} (h : i < s.length) : b5 ((Utf8.decode ⟨s.toArray⟩ i).1 : Int) = x7 (s.getD i 0) ∧ (x7 (s.getD i 0) ≠ 0 → (Utf8.decode ⟨s.toArray⟩ i).2 = 1) := by
 by_cases q : (s.getD i 0).toNat < 128
 ·rw [G2 h q]
  exact ⟨E3 _, fun _ => rfl⟩
 ·have := zDK h (by omega)
  rw [zA2 (by omega), zA3 (by omega)]
  exact ⟨rfl, fun h => absurd rfl h⟩
def NoQ (_ : Nat) : Prop := True
theorem zBt (s : Str) : zKq prog 44 [sV s] [] (iV (y9 s)) [] := by
 have e0 : s.length = 0 → y9 s = 7 := fun h => by unfold y9; rw [if_pos h]
 have e1 : 6 < s.length → y9 s = 10 := fun h => by unfold y9; rw [if_neg (by omega), if_pos h]
 have e2 : 0 < s.length → s.length ≤ 6 → y9 s = if o3 s = true then 0 else 2 := fun h h' => by unfold y9; rw [if_neg (by omega), if_neg (by omega)]
 refine q7 func44 rfl (fun E hE => ?_); simp only [go_sem, ntmps44]
 repeat' (first | (refine Qr rfl ?_; try intro _ hK; try simp only [go_sem, *]) | (refine Qi rfl rfl rfl rfl ?_ ?_ <;> (intro hb; (try intro _ hK); have hc := hb; try simp only [go_sem] at hc; simp only [go_sem, *])) | refine Qh rfl ?_ | (refine Qc rfl rfl ?_ ?_ <;> (intro hb; have hc := hb; try simp only [go_sem] at hc)) | refine q6 rfl ?_ | ((with_reducible apply And.intro); focus omega) | (refine z8 hK ?_; clear hK; simp only [go_sem, *]) | simp only [z7, z6, go_sem, *])
 ·(refine ⟨[_], [], [], ⟨rfl, trivial⟩, ?_⟩; simp only [go_sem, *])
  rw [e0 (by omega)]
 ·(refine ⟨[_], [], [], ⟨rfl, trivial⟩, ?_⟩; simp only [go_sem, *])
  rw [e1 (by omega)]
 ·have e3 := e2 (by omega) (by omega)
  have h0 : 0 < s.length := by omega
  have h6 : s.length ≤ 6 := by omega
  clear e0 e1 e2
  refine b7 rfl (s.length) (fun i (k : Int) => FormTo s i k) 30 (fun i k => [(14, .ptr 0 0), (3, iV k)]) (fun i k => [.siter ⟨s.toArray⟩ i]) [some 0] [] (0) (by exact .inl ⟨rfl, rfl⟩) ?_; intro i k hi hP
  by_cases hi2 : i < s.length
  ·obtain ⟨r1, r2⟩ := zBp s hi2
   have hbad := hP.bad hi2
   have hnext := hP.next
   have sk := C7 ((Utf8.decode ⟨s.toArray⟩ i).1 : Int)
   rw [r1] at sk
   generalize hde : Utf8.decode ⟨s.toArray⟩ i = d at *
   obtain ⟨d1, d2⟩ := d
   simp only at r2 sk
   clear r1 hP
   generalize x7 (s.getD i 0) = kb at *
   repeat' (first | (refine Qr rfl ?_; try intro _ hK; try simp only [go_sem, *]) | (refine Qi rfl rfl rfl rfl ?_ ?_ <;> (intro hb; (try intro _ hK); have hc := hb; try simp only [go_sem] at hc; simp only [go_sem, *])) | refine Qh rfl ?_ | (refine Qc rfl rfl ?_ ?_ <;> (intro hb; have hc := hb; try simp only [go_sem] at hc)) | refine q6 rfl ?_ | (refine y1 (sk) ?_; simp only [go_sem, *]) | ((with_reducible apply And.intro); focus omega) | (refine z8 hK ?_; clear hK; simp only [go_sem, *]) | simp only [z7, z6, go_sem, *])
   all_goals first | (exact o8 (i' := i + 1) [some 0] [] (kb) (by exact hnext (by assumption) (by first | (left; assumption) | (right; omega)))) | (focus ((refine ⟨[_], [], [], ⟨rfl, trivial⟩, ?_⟩; simp only [go_sem, *]); done))
  ·have hf := hP.end (by omega) h0
   rw [if_pos hf] at e3
   clear hP
   repeat' (first | (refine Qr rfl ?_; try intro _ hK; try simp only [go_sem, *]) | (refine Qi rfl rfl rfl rfl ?_ ?_ <;> (intro hb; (try intro _ hK); have hc := hb; try simp only [go_sem] at hc; simp only [go_sem, *])) | refine Qh rfl ?_ | (refine Qc rfl rfl ?_ ?_ <;> (intro hb; have hc := hb; try simp only [go_sem] at hc)) | refine q6 rfl ?_ | ((with_reducible apply And.intro); focus omega) | (refine z8 hK ?_; clear hK; simp only [go_sem, *]) | simp only [z7, z6, go_sem, *])
   (refine ⟨[_], [], [], ⟨rfl, trivial⟩, ?_⟩; simp only [go_sem, *])
theorem zEk {s : Str} {i : Nat} (h : i < s.length) : zKs (s.take (i + 1)) = zKs (s.take i) ++ w7 (s.getD i 0) := by
 rw [List.take_succ_eq_append_getElem h, zKs, List.flatMap_append]
 simp [zKs, List.getD, h]
@[go_sem] theorem zJJ : zKs [] = [] := rfl
theorem zEj (s : Str) (i : Nat) : (zKs (s.take i)).length ≤ 2 * s.length := by
 have h1 := (E1 (s.take i)).2
 simp at h1
 omega
theorem zE8 {s : Str} (v : o3 s = true) {i : Nat} (h : i < s.length) : (s.getD i 0).toNat < 128 := by
 apply zEn
 have hm : s.getD i 0 ∈ s := by simp [List.getD, h]
 unfold o3 at v
 rw [Bool.or_eq_true, List.all_eq_true, List.all_eq_true] at v
 rcases v with v | v
 ·rw [latin_kind.1 (v _ hm)]; decide
 ·rw [other_kind.1 (v _ hm)]; decide
theorem V5 (s : Str) (v : o3 s = true) (hl : s.length ≤ 1000) : zKq prog 85 [sV s] [] (sV (zKs s)) [] := by
 refine q7 func85 rfl (fun E hE => ?_); simp only [go_sem, ntmps85]
 repeat' (first | (refine Qr rfl ?_; try intro _ hK; try simp only [go_sem, *]) | refine Qh rfl ?_ | (refine Qc rfl rfl ?_ ?_ <;> (intro hb; have hc := hb; try simp only [go_sem] at hc)) | refine q6 rfl ?_ | ((with_reducible apply And.intro); focus omega) | (refine z8 hK ?_; clear hK; simp only [go_sem, *]) | simp only [z7, z6, go_sem, *])
 refine o6 rfl (s.length) (fun i => NoQ i) 16 (fun i => [(7, .ptr 0 0), (3, sV (zKs (s.take i)))]) (fun i => [.siter ⟨s.toArray⟩ i]) [some 0] [] (by trivial) ?_; intro i hi hP
 have hk2 := zEj s i
 by_cases hi2 : i < s.length
 ·have ha := zE8 v hi2
  have hd := G2 hi2 ha
  have ss := zG2 _ ha
  have hs2 := (zBs (s.getD i 0)).2
  have hkt := zEk hi2
  generalize w7 (s.getD i 0) = sb at *
  generalize zKs (s.take i) = kt at *
  repeat' (first | (refine Qr rfl ?_; try intro _ hK; try simp only [go_sem, *]) | refine Qh rfl ?_ | (refine Qc rfl rfl ?_ ?_ <;> (intro hb; have hc := hb; try simp only [go_sem] at hc)) | refine q6 rfl ?_ | (refine y1 (ss) ?_; simp only [go_sem, *]) | ((with_reducible apply And.intro); focus omega) | (refine z8 hK ?_; clear hK; simp only [go_sem, *]) | simp only [z7, z6, go_sem, *])
  exact c0 (i' := i + 1) [some 0] [] (by trivial)
 ·have e : s.take i = s := List.take_of_length_le (by omega)
  rw [e]
  clear hk2
  repeat' (first | (refine Qr rfl ?_; try intro _ hK; try simp only [go_sem, *]) | refine Qh rfl ?_ | (refine Qc rfl rfl ?_ ?_ <;> (intro hb; have hc := hb; try simp only [go_sem] at hc)) | refine q6 rfl ?_ | ((with_reducible apply And.intro); focus omega) | (refine z8 hK ?_; clear hK; simp only [go_sem, *]) | simp only [z7, z6, go_sem, *])
  (refine ⟨[_], [], [], ⟨rfl, trivial⟩, ?_⟩; simp only [go_sem, *])
theorem zGP (s : Str) : zKq prog 37 [sV s] [] (.tup [sV (if y9 s = 0 then zKs s else []), iV (y9 s)]) [] := by
 have sc := zBt s
 by_cases q : y9 s = 0
 ·have v := checkN_zero.1 q
  have so := V5 s v.form (by have := v.len; omega)
  rw [if_pos q]
  rw [q] at sc ⊢
  refine q7 func37 rfl (fun E hE => ?_); simp only [go_sem, ntmps37]
  repeat' (first | (refine Qr rfl ?_; try intro _ hK; try simp only [go_sem, *]) | refine Qh rfl ?_ | (refine Qc rfl rfl ?_ ?_ <;> (intro hb; have hc := hb; try simp only [go_sem] at hc)) | refine q6 rfl ?_ | ((first | refine y1 (sc) ?_ | refine y1 (so) ?_); simp only [go_sem, *]) | ((with_reducible apply And.intro); focus omega) | (refine z8 hK ?_; clear hK; simp only [go_sem, *]) | simp only [z7, z6, go_sem, *])
  all_goals try contradiction
  (refine ⟨[_, _], [], [], ⟨rfl, rfl, trivial⟩, ?_⟩; simp only [go_sem, *])
 ·rw [if_neg q]
  generalize y9 s = e at *
  refine q7 func37 rfl (fun E hE => ?_); simp only [go_sem, ntmps37]
  repeat' (first | (refine Qr rfl ?_; try intro _ hK; try simp only [go_sem, *]) | refine Qh rfl ?_ | (refine Qc rfl rfl ?_ ?_ <;> (intro hb; have hc := hb; try simp only [go_sem] at hc)) | refine q6 rfl ?_ | (refine y1 (sc) ?_; simp only [go_sem, *]) | ((with_reducible apply And.intro); focus omega) | (refine z8 hK ?_; clear hK; simp only [go_sem, *]) | simp only [z7, z6, go_sem, *])
  all_goals try contradiction
  (refine ⟨[_, _], [], [], ⟨rfl, rfl, trivial⟩, ?_⟩; simp only [go_sem, *])
end Go.Abs

namespace Go.Abs
open Go Go.Proofs Tryz
attribute [local irreducible] q9 Hold y3
abbrev fnV (f : FuncId) : AV := .raw (.func (.func f) #[] #[])
abbrev y2 (l : List Str) : AV := .list (l.map sV)
theorem zE9 {l : List Str} {i : Nat} (h : i < l.length) : v8 (l.drop i) = if y9 (l.getD i default) = 0 then v8 (l.drop (i + 1)) else y9 (l.getD i default) := by
 rw [o0 h, v8]
theorem zBz (l : List Str) (hl : l.length ≤ 4294967296) : zKq prog 87 [y2 l] [] (iV (v8 l)) [] := by
 refine q7 func87 rfl (fun E hE => ?_); simp only [go_sem, ntmps87]
 repeat' (first | (refine Qr rfl ?_; try intro _ hK; try simp only [go_sem, *]) | refine Qh rfl ?_ | (refine Qc rfl rfl ?_ ?_ <;> (intro hb; have hc := hb; try simp only [go_sem] at hc)) | refine q6 rfl ?_ | ((with_reducible apply And.intro); focus omega) | (refine z8 hK ?_; clear hK; simp only [go_sem, *]) | simp only [z7, z6, go_sem, *])
 refine o6 rfl (l.length) (fun i => v8 (l.drop i) = v8 l) 18 (fun i => [(8, iV i), (7, iV l.length), (6, y2 l)]) (fun i => []) [] [] (by simp) ?_; intro i hi hP
 by_cases hi2 : i < l.length
 ·have hs := zE9 hi2
  have sc := zBt (l.getD i default)
  by_cases q : y9 (l.getD i default) = 0
  ·rw [if_pos q] at hs
   rw [q] at sc
   repeat' (first | (refine Qr rfl ?_; try intro _ hK; try simp only [go_sem, *]) | refine Qh rfl ?_ | (refine Qc rfl rfl ?_ ?_ <;> (intro hb; have hc := hb; try simp only [go_sem] at hc)) | refine q6 rfl ?_ | (refine y1 (sc) ?_; simp only [go_sem, *]) | ((with_reducible apply And.intro); focus omega) | (refine z8 hK ?_; clear hK; simp only [go_sem, *]) | simp only [z7, z6, go_sem, *])
   all_goals try contradiction
   exact c0 (i' := i + 1) [] [] (by rw [← hP, hs])
  ·rw [if_neg q] at hs
   rw [hs] at hP
   generalize y9 (l.getD i default) = e at *
   subst hP
   repeat' (first | (refine Qr rfl ?_; try intro _ hK; try simp only [go_sem, *]) | refine Qh rfl ?_ | (refine Qc rfl rfl ?_ ?_ <;> (intro hb; have hc := hb; try simp only [go_sem] at hc)) | refine q6 rfl ?_ | (refine y1 (sc) ?_; simp only [go_sem, *]) | ((with_reducible apply And.intro); focus omega) | (refine z8 hK ?_; clear hK; simp only [go_sem, *]) | simp only [z7, z6, go_sem, *])
   all_goals try contradiction
   (refine ⟨[_], [], [], ⟨rfl, trivial⟩, ?_⟩; simp only [go_sem, *])
 ·have e : v8 l = 0 := by rw [← hP, f5 (by omega)]; rfl
  rw [e]
  repeat' (first | (refine Qr rfl ?_; try intro _ hK; try simp only [go_sem, *]) | refine Qh rfl ?_ | (refine Qc rfl rfl ?_ ?_ <;> (intro hb; have hc := hb; try simp only [go_sem] at hc)) | refine q6 rfl ?_ | ((with_reducible apply And.intro); focus omega) | (refine z8 hK ?_; clear hK; simp only [go_sem, *]) | simp only [z7, z6, go_sem, *])
  (refine ⟨[_], [], [], ⟨rfl, trivial⟩, ?_⟩; simp only [go_sem, *])
theorem zB4 (l : List Str) (hl : l.length ≤ 4294967296) : zKq prog 95 [y2 l] [] (iV (u3 l)) [] := by
 have sc := zBz l hl
 have e0 : 6 < l.length → u3 l = 6 := fun h => by unfold u3; rw [if_pos h]
 have e1 : l.length ≤ 6 → u3 l = v8 l := fun h => by unfold u3; rw [if_neg (by omega)]
 generalize v8 l = e at *
 generalize u3 l = r at *
 refine q7 func95 rfl (fun E hE => ?_); simp only [go_sem, ntmps95]
 repeat' (first | (refine Qr rfl ?_; try intro _ hK; try simp only [go_sem, *]) | refine Qh rfl ?_ | (refine Qc rfl rfl ?_ ?_ <;> (intro hb; have hc := hb; try simp only [go_sem] at hc)) | refine q6 rfl ?_ | (refine y1 (sc) ?_; simp only [go_sem, *]) | ((with_reducible apply And.intro); focus omega) | (refine z8 hK ?_; clear hK; simp only [go_sem, *]) | simp only [z7, z6, go_sem, *])
 ·(refine ⟨[_], [], [], ⟨rfl, trivial⟩, ?_⟩; simp only [go_sem, *])
  rw [e0 (by omega)]
 ·(refine ⟨[_], [], [], ⟨rfl, trivial⟩, ?_⟩; simp only [go_sem, *])
  rw [e1 (by omega)]
theorem zB5 (s : Str) (h : 0 < s.length) : zKq prog 129 [sV s] [] (iV (p4 s)) [] := by
 have sk := C7 ((s.getD 0 0).toNat : Int)
 rw [E3] at sk
 have hw : IntKind.i32.wrap ((s.getD 0 0).toNat : Int) = ((s.getD 0 0).toNat : Int) := by
  have := (s.getD 0 0).toNat_lt
  rw [IntKind.wrap_i32]; omega
 have e : p4 s = x7 (s.getD 0 0) := rfl
 rw [e]
 generalize x7 (s.getD 0 0) = k at *
 refine q7 func129 rfl (fun E hE => ?_); simp only [go_sem, ntmps129]
 repeat' (first | (refine Qr rfl ?_; try intro _ hK; try simp only [go_sem, *]) | refine Qh rfl ?_ | (refine Qc rfl rfl ?_ ?_ <;> (intro hb; have hc := hb; try simp only [go_sem] at hc)) | refine q6 rfl ?_ | (refine y1 (sk) ?_; simp only [go_sem, *]) | ((with_reducible apply And.intro); focus omega) | (refine z8 hK ?_; clear hK; simp only [go_sem, *]) | simp only [z7, z6, go_sem, *])
 (refine ⟨[_], [], [], ⟨rfl, trivial⟩, ?_⟩; simp only [go_sem, *])
theorem zGb (a b : Str) (va : ValidN a) (vb : ValidN b) : zKq prog 96 [sV a, sV b] [] (iV (r8 a b)) [] := by
 have sa := V5 a va.form (by have := va.len; omega)
 have sb := V5 b vb.form (by have := vb.len; omega)
 have ta := zB5 a va.ne
 have tb := zB5 b vb.ne
 have e : r8 a b = orI (zKv (zKs a) (zKs b)) (zK4 (p4 a) (p4 b)) := rfl
 have s1 := zBu (zKs a) (zKs b)
 have s2 := zGC (p4 a) (p4 b)
 have so := zBx [zKv (zKs a) (zKs b), zK4 (p4 a) (p4 b)] (by simp)
 rw [zBX] at so
 rw [e]
 generalize orI (zKv (zKs a) (zKs b)) (zK4 (p4 a) (p4 b)) = r at *
 generalize zKv (zKs a) (zKs b) = r1 at *
 generalize zK4 (p4 a) (p4 b) = r2 at *
 generalize zKs a = ka at *
 generalize zKs b = kb at *
 generalize p4 a = ja at *
 generalize p4 b = jb at *
 clear e va vb
 refine q7 func96 rfl (fun E hE => ?_); simp only [go_sem, ntmps96]
 repeat' (first | (refine Qr rfl ?_; try intro _ hK; try simp only [go_sem, *]) | refine Qh rfl ?_ | (refine Qc rfl rfl ?_ ?_ <;> (intro hb; have hc := hb; try simp only [go_sem] at hc)) | refine q6 rfl ?_ | ((first | refine y1 (s1) ?_ | refine y1 (s2) ?_); simp only [go_sem, *]) | (refine y5 (sa) ?_ ?_; (focus (simp only [go_sem, *]; done)); simp only [go_sem, *]) | (refine y5 (sb) ?_ ?_; (focus (simp only [go_sem, *]; done)); simp only [go_sem, *]) | (refine y5 (ta) ?_ ?_; (focus (simp only [go_sem, *]; done)); simp only [go_sem, *]) | (refine y5 (tb) ?_ ?_; (focus (simp only [go_sem, *]; done)); simp only [go_sem, *]) | ((with_reducible apply And.intro); focus omega) | (refine z8 hK ?_; clear hK; simp only [go_sem, *]) | simp only [z7, z6, go_sem, *])
 (refine U5 [0] (so) (by simp only [go_sem, *]) (.raw _) ?_; simp only [go_sem, *])
 repeat' (first | (refine Qr rfl ?_; try intro _ hK; try simp only [go_sem, *]) | refine Qh rfl ?_ | (refine Qc rfl rfl ?_ ?_ <;> (intro hb; have hc := hb; try simp only [go_sem] at hc)) | refine q6 rfl ?_ | ((with_reducible apply And.intro); focus omega) | (refine z8 hK ?_; clear hK; simp only [go_sem, *]) | simp only [z7, z6, go_sem, *])
 (refine ⟨[_], [], [], ⟨rfl, trivial⟩, ?_⟩; simp only [go_sem, *])
theorem zBZ (a b : Str) : v8 [a, b] = if y9 a = 0 then y9 b else y9 a := by
 unfold v8
 split
 ·unfold v8
  split
  ·rename_i h; rw [h]; rfl
  ·rfl
 ·rfl
def zIY (a b : Str) : Int := v8 [a, b]
def zHn (l : List Str) (i : Nat) : Prop := ∀ j, i ≤ j → j + 1 < l.length → ¬ r8 (l.getD (j + 1) []) (l.getD j []) < 0
end Go.Abs

namespace Go.Abs
open Go Go.Proofs Tryz
attribute [local irreducible] q9 Hold y3
theorem zBR : ∀ {l : List Str}, v8 l = 0 → ∀ s, s ∈ l → ValidN s
 | [], _, s, h => by cases h
 | a :: r, e, s, h => by
  rw [v8] at e
  split at e
  ·rename_i ha
   rcases List.mem_cons.1 h with rfl | h
   ·exact checkN_zero.1 ha
   ·exact zBR e s h
  ·rename_i ha; exact absurd e ha
theorem zBB {l : List Str} (h : u3 l = 0) : l.length ≤ 6 := by
 unfold u3 at h
 split at h
 ·cases h
 ·omega
theorem E6 {l : List Str} (h : u3 l = 0) : ∀ s, s ∈ l → ValidN s := by
 unfold u3 at h
 split at h
 ·cases h
 ·exact zBR h
end Go.Abs

namespace Go.Abs
open Go Go.Proofs Tryz
attribute [local irreducible] q9 Hold y3
abbrev nV (n : Nat) : AV := iV (n : Int)
theorem zFM (cf : Nat → Nat → Int) (xs : List Nat) : xs = t7 cf (xs.take 1) ++ xs.drop 1 := by
 cases xs with
 | nil => rfl
 | cons x r => simp [t7, zK6, zLO]
def zLr (cf : Nat → Nat → Int) (xs cur : List Nat) (i : Nat) : Prop := cur = t7 cf (xs.take (i + 1)) ++ xs.drop (i + 1)
theorem zG1 (l : List Str) (hv : ∀ s, s ∈ l → ValidN s) (a b : Nat) (ha : a < l.length) (hb' : b < l.length) : zKq prog 107 [nV a, nV b, .ptr 0 0] [.box [y2 l]] (iV (r8 (l.getD a []) (l.getD b []))) [.box [y2 l]] := by
 have sc := zGb _ _ (hv _ (l9 ha)) (hv _ (l9 hb'))
 have e : r8 (l.getD a []) (l.getD b []) = r8 (l.getD a default) (l.getD b default) := rfl
 rw [e]
 clear e
 generalize r8 (l.getD a default) (l.getD b default) = r at *
 refine q7 func107 rfl (fun E hE => ?_); simp only [go_sem, ntmps107]
 repeat' (first | (refine Qr rfl ?_; try intro _ hK; try simp only [go_sem, *]) | refine Qh rfl ?_ | refine Qd rfl (by kernel_rfl) ?_ | (refine Qc rfl rfl ?_ ?_ <;> (intro hb; have hc := hb; try simp only [go_sem] at hc)) | refine q6 rfl ?_ | (refine Qb ?_ ?_; focus kernel_rfl) | (refine y1 (sc) ?_; simp only [go_sem, *]) | ((with_reducible apply And.intro); focus omega) | (refine z8 hK ?_; clear hK; simp only [go_sem, *]) | simp only [z7, z6, go_sem, *])
 refine ⟨[_], [some 0], [], ⟨rfl, trivial⟩, ?_⟩
 simp only [go_sem, *]
theorem zGl (l : List Str) (hv : ∀ s, s ∈ l → ValidN s) (xs : List Nat) (h1 : xs.length ≤ 20) (hx : ∀ x, x ∈ xs → x < l.length) :
  zKq prog 154 [.own 0 1 0 xs.length, iV 0, iV xs.length, .fn 107 [.ptr 1 0]] [.row 1 (xs.map nV), .box [y2 l]] (.tup []) [.row 1 ((t7 (cfI l) xs).map nV), .box [y2 l]] := by
 have hca : u0 prog 107 = true := by kernel_rfl
 have hf : ∀ a b : Nat, a < l.length → b < l.length → zKq prog 107 [nV a, nV b, .ptr 0 0] [.box [y2 l]] (iV (cfI l a b)) [.box [y2 l]] := fun a b h1 h2 => zG1 l hv a b h1 h2
 clear hv
 refine q7 func154 rfl (fun E hE => ?_); simp only [go_sem, ntmps154]
 have hw0 : IntKind.i64.wrap 1 = (1 : Int) := wrap_i64 (by omega) (by omega)
 repeat' (first | (refine Qr rfl ?_; try intro _ hK; try simp only [go_sem, *]) | (refine Qi rfl rfl rfl rfl ?_ ?_ <;> (intro hb; (try intro _ hK); have hc := hb; try simp only [go_sem] at hc; simp only [go_sem, *])) | refine Qh rfl ?_ | refine Qd rfl (by kernel_rfl) ?_ | (refine Qc rfl rfl ?_ ?_ <;> (intro hb; have hc := hb; try simp only [go_sem] at hc)) | refine q6 rfl ?_ | (refine Qb ?_ ?_; focus kernel_rfl) | ((with_reducible apply And.intro); focus omega) | (refine z8 hK ?_; clear hK; simp only [go_sem, *]) | simp only [z7, z6, go_sem, *])
 refine b7 rfl (xs.length) (fun i (cur : List Nat) => zLr (cfI l) xs cur i) 53 (fun i cur => [(8, iV ((i : Int) + 1)), (0, .own 0 1 0 xs.length), (1, iV 0), (2, iV xs.length), (3, .fn 107 [.ptr 1 0])]) (fun i cur => [.row 1 (cur.map nV), .box [y2 l]]) [some 0, some 1] [] (xs) (by exact zFM (cfI l) xs) ?_; intro i cur hi hP
 have hw : i < xs.length → IntKind.i64.wrap ((i : Int) + 1 + 1) = (((i + 1 : Nat) : Int) + 1) := fun h => by rw [wrap_i64 (by omega) (by omega)]; omega
 have hcm : ((i : Int) + 1 < (xs.length : Int)) = (i + 1 < xs.length) := by simp only [eq_iff_iff]; omega
 repeat' (first | (refine Qr rfl ?_; try intro _ hK; try simp only [go_sem, *]) | (refine Qi rfl rfl rfl rfl ?_ ?_ <;> (intro hb; (try intro _ hK); have hc := hb; try simp only [go_sem] at hc; simp only [go_sem, *])) | refine Qh rfl ?_ | refine Qd rfl (by kernel_rfl) ?_ | (refine Qc rfl rfl ?_ ?_ <;> (intro hb; have hc := hb; try simp only [go_sem] at hc)) | refine q6 rfl ?_ | (refine Qb ?_ ?_; focus kernel_rfl) | ((with_reducible apply And.intro); focus omega) | (refine z8 hK ?_; clear hK; simp only [go_sem, *]) | simp only [z7, z6, go_sem, *])
 ·have hlt : i + 1 < xs.length := by assumption
  have hlt' : i < xs.length := by omega
  obtain ⟨S, hS⟩ : ∃ S, S = t7 (cfI l) (xs.take (i + 1)) := ⟨_, rfl⟩
  have hSl : S.length = i + 1 := by rw [hS, zAy]; simp; try omega
  obtain ⟨x, hxx⟩ : ∃ x, x = xs.getD (i + 1) default := ⟨_, rfl⟩
  obtain ⟨R, hR⟩ : ∃ R, R = xs.drop (i + 1 + 1) := ⟨_, rfl⟩
  have hxl : x < l.length := by rw [hxx]; exact hx _ (l9 hlt)
  have hSm : ∀ k, k < S.length → S.getD k default < l.length := fun k hk => by
   have h2 : S.getD k default ∈ S := l9 hk
   rw [hS] at h2
   have h3 := (E0 (cfI l) (xs.take (i + 1))).mem_iff.1 h2
   rw [← hS] at h3
   exact hx _ (List.mem_of_mem_take h3)
  have hcur : cur = S ++ x :: R := by
   unfold zLr at hP
   rw [hP, hS, hxx, hR, o0 hlt]
  have hfin : zK6 (cfI l) S x ++ R = t7 (cfI l) (xs.take (i + 1 + 1)) ++ xs.drop (i + 1 + 1) := by
   rw [hS, hxx, hR, zHG hlt, zEh]
  have hst : InsP (cfI l) S x R cur 0 := by rw [hcur]; exact InsP.start (cfI l) S x R
  have hRl : R.length = xs.length - (i + 2) := by rw [hR]; simp; try omega
  clear hS hxx hR hcur hP
  refine b7 rfl (i + 1) (fun d (cur : List Nat) => InsP (cfI l) S x R cur d) 53 (fun d cur => [(9, iV (((i + 1) - d : Nat) : Int)), (8, iV ((i : Int) + 1)), (0, .own 0 1 0 xs.length), (1, iV 0), (2, iV xs.length), (3, .fn 107 [.ptr 1 0])]) (fun d cur => [.row 1 (cur.map nV), .box [y2 l]]) [some 0, some 1] [] (cur) (by exact hst) ?_; intro d cur hd hQ
  have hcl : cur.length = xs.length := by rw [hQ.1, zDB]; omega
  have gx : cur.getD (i + 1 - d) default = x := by rw [hQ.1, ← hSl]; exact zDD S x R (by omega)
  have gy : d < i + 1 → cur.getD (i + 1 - d - 1) default = S.getD (i + 1 - d - 1) default := fun h => by rw [hQ.1, ← hSl]; exact zDE S x R (by omega)
  have hwk : 0 < i + 1 - d → IntKind.i64.wrap (((i + 1 - d : Nat) : Int) - 1) = ((i + 1 - d - 1 : Nat) : Int) := fun h => by rw [wrap_i64 (by omega) (by omega)]; omega
  have hnx : i + 1 - (d + 1) = i + 1 - d - 1 := by omega
  have hkl : i + 1 - d < xs.length := by omega
  have hkl1 : i + 1 - d - 1 < xs.length := by omega
  have hd1 : 0 < i + 1 - d → d < i + 1 := fun h => by omega
  by_cases hd2 : d < i + 1
  ·have sf := hf x (S.getD (i + 1 - d - 1) default) hxl (hSm _ (by omega))
   have gy2 := gy hd2
   clear hf gy
   repeat' (first | (refine Qr rfl ?_; try intro _ hK; try simp only [go_sem, *]) | (refine Qi rfl rfl rfl rfl ?_ ?_ <;> (intro hb; (try intro _ hK); have hc := hb; try simp only [go_sem] at hc; simp only [go_sem, *])) | refine Qh rfl ?_ | refine Qd rfl (by kernel_rfl) ?_ | (refine Qc rfl rfl ?_ ?_ <;> (intro hb; have hc := hb; try simp only [go_sem] at hc)) | refine q6 rfl ?_ | (refine Qb ?_ ?_; focus kernel_rfl) | (refine x4 [1] (sf) ?_; simp only [go_sem, *]) | ((with_reducible apply And.intro); focus omega) | (refine z8 hK ?_; clear hK; simp only [go_sem, *]) | simp only [z7, z6, go_sem, *])
   all_goals try (exfalso; omega)
   ·exact o8 (i' := d + 1) [some 0, some 1] [] ((cur.set (i + 1 - d) (S.getD (i + 1 - d - 1) default)).set (i + 1 - d - 1) x) (by have := InsP.next (cfI l) hQ (by omega) (by rw [hSl]; assumption); rwa [hSl] at this)
   ·have hs := InsP.stop (cfI l) hQ (by omega) (fun _ => by rw [hSl]; omega)
    exact o8 (i' := i + 1) [some 0, some 1] [] (cur) (by rw [hs]; exact hfin)
  ·have hs := InsP.stop (cfI l) hQ (by omega) (fun h => by omega)
   clear hf gy
   repeat' (first | (refine Qr rfl ?_; try intro _ hK; try simp only [go_sem, *]) | (refine Qi rfl rfl rfl rfl ?_ ?_ <;> (intro hb; (try intro _ hK); have hc := hb; try simp only [go_sem] at hc; simp only [go_sem, *])) | refine Qh rfl ?_ | refine Qd rfl (by kernel_rfl) ?_ | (refine Qc rfl rfl ?_ ?_ <;> (intro hb; have hc := hb; try simp only [go_sem] at hc)) | refine q6 rfl ?_ | (refine Qb ?_ ?_; focus kernel_rfl) | ((with_reducible apply And.intro); focus omega) | (refine z8 hK ?_; clear hK; simp only [go_sem, *]) | simp only [z7, z6, go_sem, *])
   all_goals try (exfalso; omega)
   exact o8 (i' := i + 1) [some 0, some 1] [] (cur) (by rw [hs]; exact hfin)
 ·refine ⟨[], [some 0, some 1], [], trivial, ?_⟩
  have e1 : xs.take (i + 1) = xs := List.take_of_length_le (by omega)
  have e2 : xs.drop (i + 1) = [] := f5 (by omega)
  unfold zLr at hP
  rw [e1, e2, List.append_nil] at hP
  rw [hP]
  simp only [go_sem, l5, *]
end Go.Abs

namespace Go.Abs
open Go Go.Proofs Tryz
attribute [local irreducible] q9 Hold y3
attribute [go_sem] List.length_range
theorem zG4 (l : List Str) (hv : ∀ s, s ∈ l → ValidN s) (xs : List Nat) (h1 : xs.length ≤ 6) (hx : ∀ x, x ∈ xs → x < l.length) :
  zKq prog 133 [.own 0 1 0 xs.length, iV xs.length, .fn 107 [.ptr 1 0]] [.row 1 (xs.map nV), .box [y2 l]] (.tup []) [.row 1 ((t7 (cfI l) xs).map nV), .box [y2 l]] := by
 have si := zGl l hv xs (by omega) hx
 have hli : ((t7 (cfI l) xs).map nV).length = xs.length := by simp [zAy]
 generalize t7 (cfI l) xs = ys at *
 clear hv hx
 have g1 : ¬ ((20 : Int) ≤ (xs.length : Int)) := by omega
 have g2 : ¬ ((20 : Int) < (xs.length : Int)) := by omega
 have g3 : IntKind.i64.wrap ((20 : Int) + 20) = 40 := by decide
 refine q7 func133 rfl (fun E hE => ?_); simp only [go_sem, ntmps133]
 repeat' (first | (refine Qr rfl ?_; try intro _ hK; try simp only [go_sem, *]) | refine Qh rfl ?_ | (refine Qc rfl rfl ?_ ?_ <;> (intro hb; have hc := hb; try simp only [go_sem] at hc)) | refine q6 rfl ?_ | ((with_reducible apply And.intro); focus omega) | (refine z8 hK ?_; clear hK; simp only [go_sem, *]) | simp only [z7, z6, go_sem, *])
 refine o6 rfl (1) (fun i => NoQ i) 63 (fun i => [(8, iV 20), (7, iV 0), (6, iV 20), (0, .own 0 1 0 xs.length), (1, iV xs.length), (2, .fn 107 [.ptr 1 0])]) (fun i => [.row 1 (xs.map nV), .box [y2 l]]) [some 0, some 1] [] (by trivial) ?_; intro i hi hP
 repeat' (first | (refine Qr rfl ?_; try intro _ hK; try simp only [go_sem, *]) | refine Qh rfl ?_ | (refine Qc rfl rfl ?_ ?_ <;> (intro hb; have hc := hb; try simp only [go_sem] at hc)) | refine q6 rfl ?_ | (refine x4 [0, 1] (si) ?_; simp only [go_sem, *]) | ((with_reducible apply And.intro); focus omega) | (refine z8 hK ?_; clear hK; simp only [go_sem, *]) | simp only [z7, z6, go_sem, *])
 all_goals try (exfalso; omega)
 refine o6 rfl (1) (fun i => NoQ i) 63 (fun i => [(6, iV 20), (0, .own 0 1 0 xs.length), (1, iV xs.length), (2, .fn 107 [.ptr 1 0])]) (fun i => [.row 1 (ys.map nV), .box [y2 l]]) [some 0, some 1] [] (by trivial) ?_; intro i hi hP
 repeat' (first | (refine Qr rfl ?_; try intro _ hK; try simp only [go_sem, *]) | refine Qh rfl ?_ | (refine Qc rfl rfl ?_ ?_ <;> (intro hb; have hc := hb; try simp only [go_sem] at hc)) | refine q6 rfl ?_ | ((with_reducible apply And.intro); focus omega) | (refine z8 hK ?_; clear hK; simp only [go_sem, *]) | simp only [z7, z6, go_sem, *])
 all_goals try (exfalso; omega)
 refine ⟨[], [some 0, some 1], [], trivial, ?_⟩
 simp only [go_sem, l5, *]
theorem zGS (l : List Str) (hv : ∀ s, s ∈ l → ValidN s) (xs : List Nat) (h1 : xs.length ≤ 6) (hx : ∀ x, x ∈ xs → x < l.length) :
  zKq prog 106 [.own 0 1 0 xs.length, .fn 107 [.ptr 1 0]] [.row 1 (xs.map nV), .box [y2 l]] (.tup []) [.row 1 ((t7 (cfI l) xs).map nV), .box [y2 l]] := by
 have si := zG4 l hv xs h1 hx
 generalize t7 (cfI l) xs = ys at *
 clear hv hx
 refine q7 func106 rfl (fun E hE => ?_); simp only [go_sem, ntmps106]
 repeat' (first | (refine Qr rfl ?_; try intro _ hK; try simp only [go_sem, *]) | refine Qh rfl ?_ | (refine Qc rfl rfl ?_ ?_ <;> (intro hb; have hc := hb; try simp only [go_sem] at hc)) | refine q6 rfl ?_ | (refine x4 [0, 1] (si) ?_; simp only [go_sem, *]) | ((with_reducible apply And.intro); focus omega) | (refine z8 hK ?_; clear hK; simp only [go_sem, *]) | simp only [z7, z6, go_sem, *])
 refine ⟨[], [some 0, some 1], [], trivial, ?_⟩
 simp only [go_sem, l5, *]
theorem zGT (l : List Str) (q : u3 l = 0) : zKq prog 62 [y2 l] [] (.tup [.own 0 1 0 l.length, iV 0]) [.row 1 ((R6 l).map nV)] := by
 have hv := E6 q
 have h6 := zBB q
 have s1 := zB4 l (by omega)
 rw [q] at s1
 have ss := zGS l hv (List.range l.length) (by simpa using h6) (fun x hx => List.mem_range.1 hx)
 rw [List.length_range] at ss
 have e : t7 (cfI l) (List.range l.length) = R6 l := rfl
 rw [e] at ss
 have hsl := zF3 l
 generalize R6 l = ys at *
 clear hv q e
 refine q7 func62 rfl (fun E hE => ?_); simp only [go_sem, ntmps62]
 repeat' (first | (refine Qr rfl ?_; try intro _ hK; try simp only [go_sem, *]) | refine Qh rfl ?_ | (refine Qc rfl rfl ?_ ?_ <;> (intro hb; have hc := hb; try simp only [go_sem] at hc)) | refine q6 rfl ?_ | (refine y1 (s1) ?_; simp only [go_sem, *]) | ((with_reducible apply And.intro); focus omega) | (refine z8 hK ?_; clear hK; simp only [go_sem, *]) | simp only [z7, z6, go_sem, *])
 all_goals try contradiction
 refine o6 rfl (l.length) (fun i => NoQ i) 26 (fun i => [(14, iV i), (13, iV l.length), (5, .own 1 1 0 i), (1, .ptr 0 0)]) (fun i => [.box [y2 l], .row 1 ((List.range i).map nV)]) [some 0, none] [] (by trivial) ?_; intro i hi hP
 by_cases hi2 : i < l.length
 ·clear ss
  repeat' (first | (refine Qr rfl ?_; try intro _ hK; try simp only [go_sem, *]) | refine Qh rfl ?_ | (refine Qc rfl rfl ?_ ?_ <;> (intro hb; have hc := hb; try simp only [go_sem] at hc)) | refine q6 rfl ?_ | ((with_reducible apply And.intro); focus omega) | (refine z8 hK ?_; clear hK; simp only [go_sem, *]) | simp only [z7, z6, go_sem, *])
  exact c0 (i' := i + 1) [some 0, some 3] [] (by trivial)
 ·have e : i = l.length := by omega
  subst e
  repeat' (first | (refine Qr rfl ?_; try intro _ hK; try simp only [go_sem, *]) | refine Qh rfl ?_ | (refine Qc rfl rfl ?_ ?_ <;> (intro hb; have hc := hb; try simp only [go_sem] at hc)) | refine q6 rfl ?_ | (refine x4 [1, 0] (ss) ?_; simp only [go_sem, *]) | ((with_reducible apply And.intro); focus omega) | (refine z8 hK ?_; clear hK; simp only [go_sem, *]) | simp only [z7, z6, go_sem, *])
  refine ⟨[_, _], [some 1], [], ⟨rfl, rfl, trivial⟩, ?_⟩
  simp only [go_sem, *]
end Go.Abs

namespace Go.Abs
open Go Go.Proofs Tryz
attribute [local irreducible] q9 Hold y3
theorem zGp (r : Int) : zKq prog 145 [.raw (.int .i32 r)] [] (bV (b5 r != 1)) [] := by
 have sk := C7 r
 generalize b5 r = k at *
 refine q7 func145 rfl (fun E hE => ?_); simp only [go_sem, ntmps145]
 repeat' (first | (refine Qr rfl ?_; try intro _ hK; try simp only [go_sem, *]) | refine Qh rfl ?_ | (refine Qc rfl rfl ?_ ?_ <;> (intro hb; have hc := hb; try simp only [go_sem] at hc)) | refine q6 rfl ?_ | (refine y1 (sk) ?_; simp only [go_sem, *]) | ((with_reducible apply And.intro); focus omega) | (refine z8 hK ?_; clear hK; simp only [go_sem, *]) | simp only [z7, z6, go_sem, *])
 (refine ⟨[_], [], [], ⟨rfl, trivial⟩, ?_⟩; simp only [go_sem, *])
theorem zGk (s : Str) (hl : s.length ≤ 4294967296) : ∃ n : Int, (0 ≤ n ↔ s.all y6 = false) ∧ zKq prog 189 [sV s, fnV 145, bV true] [] (iV n) [] := by
  have hca : u0 prog 145 = true := by kernel_rfl
  obtain ⟨k, hk⟩ : ∃ k : Nat, k = (s.takeWhile y6).length := ⟨_, rfl⟩
  have hkl : k ≤ s.length := by rw [hk]; exact (List.takeWhile_sublist _).length_le
  have hin : ∀ i, i < k → y6 (s.getD i 0) = true := fun i hi => by
    have h1 : i < (s.takeWhile y6).length := by omega
    have h2 := List.all_eq_true.1 (List.all_takeWhile (p := y6) (l := s)) _ (List.getElem_mem h1)
    have h3 : (s.takeWhile y6)[i] = s[i]'(by omega) := List.IsPrefix.getElem (List.takeWhile_prefix _) h1
    rw [h3] at h2
    simpa [List.getD, show i < s.length by omega] using h2
  have hout : k < s.length → y6 (s.getD k 0) = false := fun h => by
    have h1 : s.dropWhile y6 ≠ [] := fun e => by
      have := congrArg List.length (List.takeWhile_append_dropWhile (p := y6) (l := s))
      rw [List.length_append, e] at this
      simp at this; omega
    have h2 := List.head_dropWhile_not (p := y6) h1
    have h3 : (s.dropWhile y6).head h1 = s.getD k 0 := by
      have h4 : s = s.takeWhile y6 ++ s.dropWhile y6 := (List.takeWhile_append_dropWhile).symm
      have h5 : s.getD k 0 = (s.takeWhile y6 ++ s.dropWhile y6).getD k 0 := by rw [← h4]
      rw [h5, hk]
      generalize s.takeWhile y6 = tw
      generalize s.dropWhile y6 = dw at h1
      cases dw with
      | nil => exact absurd rfl h1
      | cons a r => simp
    rw [h3] at h2
    exact h2
  refine ⟨if k < s.length then (k : Int) else -1, ?_, ?_⟩
  · by_cases h : k < s.length
    · rw [if_pos h]
      refine ⟨fun _ => ?_, fun _ => by omega⟩
      rw [List.all_eq_false]
      refine ⟨s.getD k 0, ?_, by rw [hout h]; simp⟩
      simp [List.getD, h]
    · rw [if_neg h]
      refine ⟨fun h => by omega, fun hf => ?_⟩
      rw [List.all_eq_false] at hf
      obtain ⟨x, hx, hn⟩ := hf
      obtain ⟨i, hi, rfl⟩ := List.getElem_of_mem hx
      have := hin i (by omega)
      rw [show s.getD i 0 = s[i] by simp [List.getD, hi]] at this
      exact absurd this hn
  · have hwv : ∀ i, i < s.length → (i < k → x7 (s.getD i 0) = 1) ∧ (i = k → x7 (s.getD i 0) ≠ 1) := fun i hi => ⟨fun h => latin_kind.1 (hin i h), fun h => by
      subst h
      intro e
      have := latin_kind.2 e
      rw [hout hi] at this; cases this⟩
    clear hk hin hout
    refine q7 func189 rfl (fun E hE => ?_); simp only [go_sem, ntmps189]
    repeat' (first | (refine Qr rfl ?_; try intro _ hK; try simp only [go_sem, *]) | refine Qh rfl ?_ | (refine Qc rfl rfl ?_ ?_ <;> (intro hb; have hc := hb; try simp only [go_sem] at hc)) | refine q6 rfl ?_ | ((with_reducible apply And.intro); focus omega) | (refine z8 hK ?_; clear hK; simp only [go_sem, *]) | simp only [z7, z6, go_sem, *])
    refine o6 rfl (s.length) (fun i => i ≤ k) 21 (fun i => [(10, .ptr 0 0), (1, fnV 145), (2, bV true)]) (fun i => [.siter ⟨s.toArray⟩ i]) [some 0] [] (by omega) ?_; intro i hi hP
    by_cases hi2 : i < s.length
    · obtain ⟨r1, r2⟩ := zBp s hi2
      obtain ⟨w1, w2⟩ := hwv i hi2
      have sk := zGp ((Utf8.decode ⟨s.toArray⟩ i).1 : Int)
      rw [r1] at sk
      generalize hde : Utf8.decode ⟨s.toArray⟩ i = d at *
      obtain ⟨d1, d2⟩ := d
      simp only at r2 sk
      clear r1 hwv
      by_cases hik : i < k
      · have e1 := w1 hik
        rw [e1] at sk r2
        have e2 := r2 (by decide)
        subst e2
        have e3 : ((1 : Int) != 1) = false := by decide
        rw [e3] at sk
        clear r2 w1 w2 e1 e3
        repeat' (first | (refine Qr rfl ?_; try intro _ hK; try simp only [go_sem, *]) | refine Qh rfl ?_ | (refine Qc rfl rfl ?_ ?_ <;> (intro hb; have hc := hb; try simp only [go_sem] at hc)) | refine q6 rfl ?_ | (refine y1 (sk) ?_; simp only [go_sem, *]) | ((with_reducible apply And.intro); focus omega) | (refine z8 hK ?_; clear hK; simp only [go_sem, *]) | simp only [z7, z6, go_sem, *])
        all_goals try contradiction
        exact c0 (i' := i + 1) [some 0] [] (by omega)
      · have e1 := w2 (by omega)
        have e3 : (x7 (s.getD i 0) != 1) = true := by simpa using e1
        rw [e3] at sk
        have e4 : k < s.length := by omega
        have e5 : i = k := by omega
        rw [if_pos e4]
        subst e5
        clear r2 w1 w2 e1 e3
        repeat' (first | (refine Qr rfl ?_; try intro _ hK; try simp only [go_sem, *]) | refine Qh rfl ?_ | (refine Qc rfl rfl ?_ ?_ <;> (intro hb; have hc := hb; try simp only [go_sem] at hc)) | refine q6 rfl ?_ | (refine y1 (sk) ?_; simp only [go_sem, *]) | ((with_reducible apply And.intro); focus omega) | (refine z8 hK ?_; clear hK; simp only [go_sem, *]) | simp only [z7, z6, go_sem, *])
        all_goals try contradiction
        (refine ⟨[_], [], [], ⟨rfl, trivial⟩, ?_⟩; simp only [go_sem, *])
    · have e4 : ¬ k < s.length := by omega
      rw [if_neg e4]
      clear hwv
      repeat' (first | (refine Qr rfl ?_; try intro _ hK; try simp only [go_sem, *]) | refine Qh rfl ?_ | (refine Qc rfl rfl ?_ ?_ <;> (intro hb; have hc := hb; try simp only [go_sem] at hc)) | refine q6 rfl ?_ | ((with_reducible apply And.intro); focus omega) | (refine z8 hK ?_; clear hK; simp only [go_sem, *]) | simp only [z7, z6, go_sem, *])
      (refine ⟨[_], [], [], ⟨rfl, trivial⟩, ?_⟩; simp only [go_sem, *])
theorem zGN (s : Str) (hl : s.length ≤ 4294967296) : ∃ n : Int, (0 ≤ n ↔ s.all y6 = false) ∧ zKq prog 169 [sV s, fnV 145] [] (iV n) [] := by
 obtain ⟨n, hn, si⟩ := zGk s hl
 refine ⟨n, hn, ?_⟩
 clear hn
 refine q7 func169 rfl (fun E hE => ?_); simp only [go_sem, ntmps169]
 repeat' (first | (refine Qr rfl ?_; try intro _ hK; try simp only [go_sem, *]) | refine Qh rfl ?_ | (refine Qc rfl rfl ?_ ?_ <;> (intro hb; have hc := hb; try simp only [go_sem] at hc)) | refine q6 rfl ?_ | (refine y1 (si) ?_; simp only [go_sem, *]) | ((with_reducible apply And.intro); focus omega) | (refine z8 hK ?_; clear hK; simp only [go_sem, *]) | simp only [z7, z6, go_sem, *])
 (refine ⟨[_], [], [], ⟨rfl, trivial⟩, ?_⟩; simp only [go_sem, *])
theorem zGF (s : Str) (hl : s.length ≤ 4294967296) : zKq prog 144 [sV s, fnV 145] [] (bV (!s.all y6)) [] := by
 obtain ⟨n, hn, si⟩ := zGN s hl
 have e : (!s.all y6) = decide (n ≥ 0) := by
  rw [Bool.eq_iff_iff, Bool.not_eq_true', decide_eq_true_eq]; exact hn.symm
 rw [e]
 clear hn e
 refine q7 func144 rfl (fun E hE => ?_); simp only [go_sem, ntmps144]
 repeat' (first | (refine Qr rfl ?_; try intro _ hK; try simp only [go_sem, *]) | refine Qh rfl ?_ | (refine Qc rfl rfl ?_ ?_ <;> (intro hb; have hc := hb; try simp only [go_sem] at hc)) | refine q6 rfl ?_ | (refine y1 (si) ?_; simp only [go_sem, *]) | ((with_reducible apply And.intro); focus omega) | (refine z8 hK ?_; clear hK; simp only [go_sem, *]) | simp only [z7, z6, go_sem, *])
 (refine ⟨[_], [], [], ⟨rfl, trivial⟩, ?_⟩; simp only [go_sem, *])
theorem C8 (s : Str) (lo hi : Nat) (hl : s.length ≤ 4294967296) : zKq prog 123 [sV s, iV lo, iV hi] [] (bV (y8 s lo hi)) [] := by
 have sc := zGF s hl
 have e : y8 s lo hi = (decide ((lo : Int) ≤ s.length) && (decide ((s.length : Int) ≤ hi) && s.all y6)) := by unfold y8; simp
 rw [e]
 generalize s.all y6 = b at *
 clear e
 refine q7 func123 rfl (fun E hE => ?_); simp only [go_sem, ntmps123]
 repeat' (first | (refine Qr rfl ?_; try intro _ hK; try simp only [go_sem, *]) | (refine Qi rfl rfl rfl rfl ?_ ?_ <;> (intro hb; (try intro _ hK); have hc := hb; try simp only [go_sem] at hc; simp only [go_sem, *])) | refine Qh rfl ?_ | (refine Qc rfl rfl ?_ ?_ <;> (intro hb; have hc := hb; try simp only [go_sem] at hc)) | refine q6 rfl ?_ | (refine y1 (sc) ?_; simp only [go_sem, *]) | ((with_reducible apply And.intro); focus omega) | (refine z8 hK ?_; clear hK; simp only [go_sem, *]) | simp only [z7, z6, go_sem, *])
 all_goals try contradiction
 all_goals (refine ⟨[_], [], [], ⟨rfl, trivial⟩, ?_⟩; simp only [go_sem, *])
 all_goals simp_all
end Go.Abs

namespace Go.Abs
open Go Go.Proofs Tryz
attribute [local irreducible] q9 Hold y3
abbrev x6 (l : List Rule) : AV := .list (l.map Rule.enc)
attribute [go_sem] Rule.enc
theorem zFj {l : List Rule} {i : Nat} (h : i < l.length) : (l.drop i).all Rule.ok = ((l.getD i default).ok && (l.drop (i + 1)).all Rule.ok) := by
 rw [o0 h, List.all_cons]
theorem zFh (r : Rule) : r.ok = (y8 r.src 1 2 && (y8 r.dst 0 2 && !(r.src == r.dst))) := by
 unfold Rule.ok
 rw [Bool.eq_iff_iff]
 simp
theorem zGy (l : List Rule) (hl : l.length ≤ 4294967296) (hr : ∀ r, r ∈ l → r.src.length ≤ 4294967296 ∧ r.dst.length ≤ 4294967296) : zKq prog 86 [x6 l] [] (iV (p7 l)) [] := by
 have e0 : 4 < l.length → p7 l = 6 := fun h => by unfold p7; rw [if_pos h]
 have e1 : l.length ≤ 4 → p7 l = if l.all Rule.ok = true then 0 else 2 := fun h => by unfold p7; rw [if_neg (by omega)]
 generalize p7 l = re at *
 refine q7 func86 rfl (fun E hE => ?_); simp only [go_sem, ntmps86]
 repeat' (first | (refine Qr rfl ?_; try intro _ hK; try simp only [go_sem, *]) | (refine Qi rfl rfl rfl rfl ?_ ?_ <;> (intro hb; (try intro _ hK); have hc := hb; try simp only [go_sem] at hc; simp only [go_sem, *])) | refine Qh rfl ?_ | (refine Qc rfl rfl ?_ ?_ <;> (intro hb; have hc := hb; try simp only [go_sem] at hc)) | refine q6 rfl ?_ | ((with_reducible apply And.intro); focus omega) | (refine z8 hK ?_; clear hK; simp only [go_sem, *]) | simp only [z7, z6, go_sem, *])
 ·(refine ⟨[_], [], [], ⟨rfl, trivial⟩, ?_⟩; simp only [go_sem, *])
  rw [e0 (by omega)]
 ·have e2 := e1 (by omega)
  rw [e2]
  clear e0 e1 e2
  refine o6 rfl (l.length) (fun i => (l.drop i).all Rule.ok = l.all Rule.ok) 32 (fun i => [(10, iV i), (9, iV l.length), (8, x6 l)]) (fun i => []) [] [] (by simp) ?_; intro i hi hP
  by_cases hi2 : i < l.length
  ·have hs := zFj hi2
   rw [zFh] at hs
   have hrl := hr _ (l9 hi2)
   have s1 := C8 (l.getD i default).src 1 2 hrl.1
   have s2 := C8 (l.getD i default).dst 0 2 hrl.2
   generalize y8 (l.getD i default).src 1 2 = b1 at *
   generalize y8 (l.getD i default).dst 0 2 = b2 at *
   clear hrl hr
   rw [hs] at hP
   cases b1 with
   | false =>
    rw [← hP]
    clear hP hs s2
    repeat' (first | (refine Qr rfl ?_; try intro _ hK; try simp only [go_sem, *]) | (refine Qi rfl rfl rfl rfl ?_ ?_ <;> (intro hb; (try intro _ hK); have hc := hb; try simp only [go_sem] at hc; simp only [go_sem, *])) | refine Qh rfl ?_ | (refine Qc rfl rfl ?_ ?_ <;> (intro hb; have hc := hb; try simp only [go_sem] at hc)) | refine q6 rfl ?_ | (refine y5 (s1) ?_ ?_; (focus (simp only [go_sem, *]; done)); simp only [go_sem, *]) | ((with_reducible apply And.intro); focus omega) | (refine z8 hK ?_; clear hK; simp only [go_sem, *]) | simp only [z7, z6, go_sem, *])
    all_goals try contradiction
    (refine ⟨[_], [], [], ⟨rfl, trivial⟩, ?_⟩; simp only [go_sem, *])
   | true =>
    cases b2 with
    | false =>
     rw [← hP]
     clear hP hs
     repeat' (first | (refine Qr rfl ?_; try intro _ hK; try simp only [go_sem, *]) | (refine Qi rfl rfl rfl rfl ?_ ?_ <;> (intro hb; (try intro _ hK); have hc := hb; try simp only [go_sem] at hc; simp only [go_sem, *])) | refine Qh rfl ?_ | (refine Qc rfl rfl ?_ ?_ <;> (intro hb; have hc := hb; try simp only [go_sem] at hc)) | refine q6 rfl ?_ | (refine y5 (s1) ?_ ?_; (focus (simp only [go_sem, *]; done)); simp only [go_sem, *]) | (refine y5 (s2) ?_ ?_; (focus (simp only [go_sem, *]; done)); simp only [go_sem, *]) | ((with_reducible apply And.intro); focus omega) | (refine z8 hK ?_; clear hK; simp only [go_sem, *]) | simp only [z7, z6, go_sem, *])
     all_goals try contradiction
     (refine ⟨[_], [], [], ⟨rfl, trivial⟩, ?_⟩; simp only [go_sem, *])
    | true =>
     generalize hb3 : ((l.getD i default).src == (l.getD i default).dst) = b3 at *
     cases b3 with
     | true =>
      rw [← hP]
      clear hP hs
      repeat' (first | (refine Qr rfl ?_; try intro _ hK; try simp only [go_sem, *]) | (refine Qi rfl rfl rfl rfl ?_ ?_ <;> (intro hb; (try intro _ hK); have hc := hb; try simp only [go_sem] at hc; simp only [go_sem, *])) | refine Qh rfl ?_ | (refine Qc rfl rfl ?_ ?_ <;> (intro hb; have hc := hb; try simp only [go_sem] at hc)) | refine q6 rfl ?_ | (refine y5 (s1) ?_ ?_; (focus (simp only [go_sem, *]; done)); simp only [go_sem, *]) | (refine y5 (s2) ?_ ?_; (focus (simp only [go_sem, *]; done)); simp only [go_sem, *]) | ((with_reducible apply And.intro); focus omega) | (refine z8 hK ?_; clear hK; simp only [go_sem, *]) | simp only [z7, z6, go_sem, *])
      all_goals try contradiction
      (refine ⟨[_], [], [], ⟨rfl, trivial⟩, ?_⟩; simp only [go_sem, *])
     | false =>
      simp only [Bool.true_and, Bool.not_false] at hP
      clear hs
      repeat' (first | (refine Qr rfl ?_; try intro _ hK; try simp only [go_sem, *]) | (refine Qi rfl rfl rfl rfl ?_ ?_ <;> (intro hb; (try intro _ hK); have hc := hb; try simp only [go_sem] at hc; simp only [go_sem, *])) | refine Qh rfl ?_ | (refine Qc rfl rfl ?_ ?_ <;> (intro hb; have hc := hb; try simp only [go_sem] at hc)) | refine q6 rfl ?_ | (refine y5 (s1) ?_ ?_; (focus (simp only [go_sem, *]; done)); simp only [go_sem, *]) | (refine y5 (s2) ?_ ?_; (focus (simp only [go_sem, *]; done)); simp only [go_sem, *]) | ((with_reducible apply And.intro); focus omega) | (refine z8 hK ?_; clear hK; simp only [go_sem, *]) | simp only [z7, z6, go_sem, *])
      all_goals try contradiction
      exact c0 (i' := i + 1) [] [] (by exact hP)
  ·have e : l.all Rule.ok = true := by rw [← hP, f5 (by omega)]; rfl
   rw [if_pos e]
   clear hP e
   repeat' (first | (refine Qr rfl ?_; try intro _ hK; try simp only [go_sem, *]) | (refine Qi rfl rfl rfl rfl ?_ ?_ <;> (intro hb; (try intro _ hK); have hc := hb; try simp only [go_sem] at hc; simp only [go_sem, *])) | refine Qh rfl ?_ | (refine Qc rfl rfl ?_ ?_ <;> (intro hb; have hc := hb; try simp only [go_sem] at hc)) | refine q6 rfl ?_ | ((with_reducible apply And.intro); focus omega) | (refine z8 hK ?_; clear hK; simp only [go_sem, *]) | simp only [z7, z6, go_sem, *])
   (refine ⟨[_], [], [], ⟨rfl, trivial⟩, ?_⟩; simp only [go_sem, *])
theorem zBv (s p : Str) (h1 : s.length ≤ 4294967296) (h2 : p.length ≤ 4294967296) : zKq prog 151 [sV s, sV p] [] (bV (p.isPrefixOf s)) [] := by
 have e : p.isPrefixOf s = (decide (p.length ≤ s.length) && (s.take p.length == p)) := by
  rw [Bool.eq_iff_iff, List.isPrefixOf_iff_prefix, Bool.and_eq_true, decide_eq_true_eq, beq_iff_eq, List.prefix_iff_eq_take]
  constructor
  ·intro h
   refine ⟨?_, h.symm⟩
   have := congrArg List.length h
   simp at this; omega
  ·rintro ⟨_, h⟩; exact h.symm
 rw [e]
 clear e
 refine q7 func151 rfl (fun E hE => ?_); simp only [go_sem, ntmps151]
 repeat' (first | (refine Qr rfl ?_; try intro _ hK; try simp only [go_sem, *]) | (refine Qi rfl rfl rfl rfl ?_ ?_ <;> (intro hb; (try intro _ hK); have hc := hb; try simp only [go_sem] at hc; simp only [go_sem, *])) | refine Qh rfl ?_ | (refine Qc rfl rfl ?_ ?_ <;> (intro hb; have hc := hb; try simp only [go_sem] at hc)) | refine q6 rfl ?_ | ((with_reducible apply And.intro); focus omega) | (refine z8 hK ?_; clear hK; simp only [go_sem, *]) | simp only [z7, z6, go_sem, *])
 all_goals (refine ⟨[_], [], [], ⟨rfl, trivial⟩, ?_⟩; simp only [go_sem, *])
 all_goals simp_all
theorem zGM (s p : Str) (h1 : s.length ≤ 4294967296) (h2 : p.length ≤ 4294967296) : zKq prog 127 [sV s, sV p] [] (bV (p.isPrefixOf s)) [] := by
 have s1 := zBv s p h1 h2
 generalize p.isPrefixOf s = b at *
 refine q7 func127 rfl (fun E hE => ?_); simp only [go_sem, ntmps127]
 repeat' (first | (refine Qr rfl ?_; try intro _ hK; try simp only [go_sem, *]) | refine Qh rfl ?_ | (refine Qc rfl rfl ?_ ?_ <;> (intro hb; have hc := hb; try simp only [go_sem] at hc)) | refine q6 rfl ?_ | (refine y1 (s1) ?_; simp only [go_sem, *]) | ((with_reducible apply And.intro); focus omega) | (refine z8 hK ?_; clear hK; simp only [go_sem, *]) | simp only [z7, z6, go_sem, *])
 (refine ⟨[_], [], [], ⟨rfl, trivial⟩, ?_⟩; simp only [go_sem, *])
theorem zC7 {x y : List Str} {i : Nat} (h1 : i < x.length) (h2 : i < y.length) : zKw (x.drop i) (y.drop i) = if zKv (x.getD i default) (y.getD i default) = 0 then zKw (x.drop (i + 1)) (y.drop (i + 1)) else zKv (x.getD i default) (y.getD i default) := by
 rw [o0 h1, o0 h2, zKw]
theorem zC6 {x y : List Str} {i : Nat} (h1 : i < x.length) (h2 : y.length ≤ i) : zKw (x.drop i) (y.drop i) = 1 := by
 rw [o0 h1, f5 h2, zKw]
theorem zC5 {x y : List Str} {i : Nat} (h1 : x.length ≤ i) : zKw (x.drop i) (y.drop i) = if i < y.length then -1 else 0 := by
 rw [f5 h1]
 by_cases h2 : i < y.length
 ·rw [o0 h2, zKw, if_pos h2]
 ·rw [f5 (by omega), zKw, if_neg h2]
theorem zGD (x y : List Str) (h1 : x.length ≤ 4294967296) (h2 : y.length ≤ 4294967296) : zKq prog 126 [y2 x, y2 y] [] (iV (zKw x y)) [] := by
 refine q7 func126 rfl (fun E hE => ?_); simp only [go_sem, ntmps126]
 repeat' (first | (refine Qr rfl ?_; try intro _ hK; try simp only [go_sem, *]) | refine Qh rfl ?_ | (refine Qc rfl rfl ?_ ?_ <;> (intro hb; have hc := hb; try simp only [go_sem] at hc)) | refine q6 rfl ?_ | ((with_reducible apply And.intro); focus omega) | (refine z8 hK ?_; clear hK; simp only [go_sem, *]) | simp only [z7, z6, go_sem, *])
 refine o6 rfl (x.length) (fun i => zKw (x.drop i) (y.drop i) = zKw x y ∧ i ≤ y.length) 36 (fun i => [(11, iV i), (10, iV x.length), (9, y2 x), (0, y2 x), (1, y2 y)]) (fun i => []) [] [] (by simp) ?_; intro i hi hP
 obtain ⟨hP, hiy⟩ := hP
 by_cases hi2 : i < x.length
 ·by_cases hi3 : i < y.length
  ·have hs := zC7 hi2 hi3
   have sc := zGE (x.getD i default) (y.getD i default)
   rw [hs] at hP
   clear hs
   have gi : ¬ ((i : Int) ≥ (y.length : Int)) := by omega
   by_cases q : zKv (x.getD i default) (y.getD i default) = 0
   ·rw [if_pos q] at hP
    rw [q] at sc
    repeat' (first | (refine Qr rfl ?_; try intro _ hK; try simp only [go_sem, *]) | refine Qh rfl ?_ | (refine Qc rfl rfl ?_ ?_ <;> (intro hb; have hc := hb; try simp only [go_sem] at hc)) | refine q6 rfl ?_ | (refine y1 (sc) ?_; simp only [go_sem, *]) | ((with_reducible apply And.intro); focus omega) | (refine z8 hK ?_; clear hK; simp only [go_sem, *]) | simp only [z7, z6, go_sem, *])
    all_goals first | contradiction | omega | skip
    exact c0 (i' := i + 1) [] [] (by exact ⟨hP, by omega⟩)
   ·rw [if_neg q] at hP
    generalize zKv (x.getD i default) (y.getD i default) = c at *
    rw [← hP]
    clear hP
    repeat' (first | (refine Qr rfl ?_; try intro _ hK; try simp only [go_sem, *]) | refine Qh rfl ?_ | (refine Qc rfl rfl ?_ ?_ <;> (intro hb; have hc := hb; try simp only [go_sem] at hc)) | refine q6 rfl ?_ | (refine y1 (sc) ?_; simp only [go_sem, *]) | ((with_reducible apply And.intro); focus omega) | (refine z8 hK ?_; clear hK; simp only [go_sem, *]) | simp only [z7, z6, go_sem, *])
    all_goals first | contradiction | omega | skip
    (refine ⟨[_], [], [], ⟨rfl, trivial⟩, ?_⟩; simp only [go_sem, *])
  ·rw [zC6 hi2 (by omega)] at hP
   rw [← hP]
   clear hP
   repeat' (first | (refine Qr rfl ?_; try intro _ hK; try simp only [go_sem, *]) | refine Qh rfl ?_ | (refine Qc rfl rfl ?_ ?_ <;> (intro hb; have hc := hb; try simp only [go_sem] at hc)) | refine q6 rfl ?_ | ((with_reducible apply And.intro); focus omega) | (refine z8 hK ?_; clear hK; simp only [go_sem, *]) | simp only [z7, z6, go_sem, *])
   all_goals first | contradiction | omega | skip
   (refine ⟨[_], [], [], ⟨rfl, trivial⟩, ?_⟩; simp only [go_sem, *])
 ·have hix : i = x.length := by omega
  subst hix
  rw [zC5 (Nat.le_refl _)] at hP
  by_cases hxy : x.length < y.length
  ·rw [if_pos hxy] at hP
   rw [← hP]
   clear hP
   repeat' (first | (refine Qr rfl ?_; try intro _ hK; try simp only [go_sem, *]) | refine Qh rfl ?_ | (refine Qc rfl rfl ?_ ?_ <;> (intro hb; have hc := hb; try simp only [go_sem] at hc)) | refine q6 rfl ?_ | ((with_reducible apply And.intro); focus omega) | (refine z8 hK ?_; clear hK; simp only [go_sem, *]) | simp only [z7, z6, go_sem, *])
   all_goals first | contradiction | omega | skip
   (refine ⟨[_], [], [], ⟨rfl, trivial⟩, ?_⟩; simp only [go_sem, *])
  ·rw [if_neg hxy] at hP
   rw [← hP]
   clear hP
   repeat' (first | (refine Qr rfl ?_; try intro _ hK; try simp only [go_sem, *]) | refine Qh rfl ?_ | (refine Qc rfl rfl ?_ ?_ <;> (intro hb; have hc := hb; try simp only [go_sem] at hc)) | refine q6 rfl ?_ | ((with_reducible apply And.intro); focus omega) | (refine z8 hK ?_; clear hK; simp only [go_sem, *]) | simp only [z7, z6, go_sem, *])
   all_goals first | contradiction | omega | skip
   (refine ⟨[_], [], [], ⟨rfl, trivial⟩, ?_⟩; simp only [go_sem, *])
end Go.Abs

namespace Go.Abs
open Go Go.Proofs Tryz
attribute [local irreducible] q9 Hold y3
section
variable {α : Type} {a b : List α} {i : Nat}
theorem zCF (ha : a.length ≤ i) (hl : a.length = b.length) (h : a.take i = b.take i) : a = b := by
 rwa [List.take_of_length_le ha, List.take_of_length_le (by omega)] at h
variable [Inhabited α]
theorem B3 {l : List α} (h : i < l.length) : l.take (i + 1) = l.take i ++ [l.getD i default] := by
 rw [List.take_add_one]; simp [List.getD, h]
theorem zCG (ha : i < a.length) (hb : i < b.length) (h : a.take i = b.take i) (e : a.getD i default = b.getD i default) : a.take (i + 1) = b.take (i + 1) := by
 rw [B3 ha, B3 hb, h, e]
theorem zCH (e : ¬ a.getD i default = b.getD i default) : ¬ a = b := fun h => e (by rw [h])
end
theorem zA7 {α : Type} {a b : List α} (h : ¬ a.length = b.length) : ¬ a = b := fun e => h (by rw [e])
theorem zGI (a b : List Int) (h1 : a.length ≤ 4294967296) : zKq prog 54 [Y6 a, Y6 b] [] (bV (decide (a = b))) [] := by
 refine q7 func54 rfl (fun E hE => ?_); simp only [go_sem, ntmps54]
 repeat' (first | (refine Qr rfl ?_; try intro _ hK; try simp only [go_sem, *]) | refine Qh rfl ?_ | refine Qd rfl (by kernel_rfl) ?_ | (refine Qc rfl rfl ?_ ?_ <;> (intro hb; have hc := hb; try simp only [go_sem] at hc)) | refine q6 rfl ?_ | (refine Qb ?_ ?_; focus kernel_rfl) | ((with_reducible apply And.intro); focus omega) | (refine z8 hK ?_; clear hK; simp only [go_sem, *]) | simp only [z7, z6, go_sem, *])
 ·(refine ⟨[_], [], [], ⟨rfl, trivial⟩, ?_⟩; simp only [go_sem, *])
  simp [zA7 (a := a) (b := b) (by omega)]
 ·have hlb : a.length = b.length := by omega
  refine o6 rfl (b.length) (fun i => a.take i = b.take i) 26 (fun i => [(5, iV i), (0, Y6 a), (1, Y6 b)]) (fun i => []) [] [] (by simp) ?_; intro i hi hP
  repeat' (first | (refine Qr rfl ?_; try intro _ hK; try simp only [go_sem, *]) | refine Qh rfl ?_ | refine Qd rfl (by kernel_rfl) ?_ | (refine Qc rfl rfl ?_ ?_ <;> (intro hb; have hc := hb; try simp only [go_sem] at hc)) | refine q6 rfl ?_ | (refine Qb ?_ ?_; focus kernel_rfl) | ((with_reducible apply And.intro); focus omega) | (refine z8 hK ?_; clear hK; simp only [go_sem, *]) | simp only [z7, z6, go_sem, *])
  ·(refine ⟨[_], [], [], ⟨rfl, trivial⟩, ?_⟩; simp only [go_sem, *])
   simp [zCH (a := a) (b := b) (i := i) (by assumption)]
  ·exact c0 (i' := i + 1) [] [] (by exact zCG (by omega) (by omega) hP (by assumption))
  ·(refine ⟨[_], [], [], ⟨rfl, trivial⟩, ?_⟩; simp only [go_sem, *])
   simp [zCF (by omega) hlb hP]
theorem zGJ (a b : List Str) (h1 : a.length ≤ 4294967296) : zKq prog 33 [y2 a, y2 b] [] (bV (decide (a = b))) [] := by
 refine q7 func33 rfl (fun E hE => ?_); simp only [go_sem, ntmps33]
 repeat' (first | (refine Qr rfl ?_; try intro _ hK; try simp only [go_sem, *]) | refine Qh rfl ?_ | refine Qd rfl (by kernel_rfl) ?_ | (refine Qc rfl rfl ?_ ?_ <;> (intro hb; have hc := hb; try simp only [go_sem] at hc)) | refine q6 rfl ?_ | (refine Qb ?_ ?_; focus kernel_rfl) | ((with_reducible apply And.intro); focus omega) | (refine z8 hK ?_; clear hK; simp only [go_sem, *]) | simp only [z7, z6, go_sem, *])
 ·(refine ⟨[_], [], [], ⟨rfl, trivial⟩, ?_⟩; simp only [go_sem, *])
  simp [zA7 (a := a) (b := b) (by omega)]
 ·have hlb : a.length = b.length := by omega
  refine o6 rfl (b.length) (fun i => a.take i = b.take i) 26 (fun i => [(5, iV i), (0, y2 a), (1, y2 b)]) (fun i => []) [] [] (by simp) ?_; intro i hi hP
  repeat' (first | (refine Qr rfl ?_; try intro _ hK; try simp only [go_sem, *]) | refine Qh rfl ?_ | refine Qd rfl (by kernel_rfl) ?_ | (refine Qc rfl rfl ?_ ?_ <;> (intro hb; have hc := hb; try simp only [go_sem] at hc)) | refine q6 rfl ?_ | (refine Qb ?_ ?_; focus kernel_rfl) | ((with_reducible apply And.intro); focus omega) | (refine z8 hK ?_; clear hK; simp only [go_sem, *]) | simp only [z7, z6, go_sem, *])
  ·(refine ⟨[_], [], [], ⟨rfl, trivial⟩, ?_⟩; simp only [go_sem, *])
   simp [zCH (a := a) (b := b) (i := i) (by assumption)]
  ·exact c0 (i' := i + 1) [] [] (by exact zCG (by omega) (by omega) hP (by assumption))
  ·(refine ⟨[_], [], [], ⟨rfl, trivial⟩, ?_⟩; simp only [go_sem, *])
   simp [zCF (by omega) hlb hP]
theorem zGH (l : List Str) (h1 : l.length ≤ 4294967296) : zKq prog 28 [y2 l] [] (.own 0 1 0 l.length) [.row 1 (l.map sV)] := by
 refine q7 func28 rfl (fun E hE => ?_); simp only [go_sem, ntmps28]
 repeat' (first | (refine Qr rfl ?_; try intro _ hK; try simp only [go_sem, *]) | refine Qh rfl ?_ | (refine Qc rfl rfl ?_ ?_ <;> (intro hb; have hc := hb; try simp only [go_sem] at hc)) | refine q6 rfl ?_ | (with_reducible (show (∀ _ : AV, _ → _) ∧ _); refine And.intro ?_ ?_; (focus (intro y hy; first | (obtain ⟨z, _, rfl⟩ := List.mem_map.1 (hy); simp [go_sem]; done) | (obtain ⟨z, _, rfl⟩ := List.mem_map.1 (List.mem_of_mem_take hy); simp [go_sem]; done) | (obtain ⟨z, _, rfl⟩ := List.mem_map.1 (List.mem_of_mem_drop hy); simp [go_sem]; done) | (obtain ⟨z, _, rfl⟩ := List.mem_map.1 (List.mem_of_mem_drop (List.mem_of_mem_take hy)); simp [go_sem]; done)))) | ((with_reducible apply And.intro); focus omega) | (refine z8 hK ?_; clear hK; simp only [go_sem, *]) | simp only [z7, z6, go_sem, *])
 refine ⟨[_], [some 1], [], ⟨rfl, trivial⟩, ?_⟩
 simp only [go_sem, *]
theorem zGz : zKq prog 74 [] [] (.own 0 2 0 3) [.row 2 (rulesX.map Rule.enc)] := by
 refine q7 func74 rfl (fun E hE => ?_); simp only [go_sem, ntmps74]
 repeat' (first | (refine Qr rfl ?_; try intro _ hK; try simp only [go_sem, *]) | refine Qh rfl ?_ | (refine Qc rfl rfl ?_ ?_ <;> (intro hb; have hc := hb; try simp only [go_sem] at hc)) | refine q6 rfl ?_ | ((with_reducible apply And.intro); focus omega) | (refine z8 hK ?_; clear hK; simp only [go_sem, *]) | simp only [z7, z6, go_sem, *])
 refine ⟨[_], [some 0], [], ⟨rfl, trivial⟩, ?_⟩
 simp only [go_sem, rulesX, Rule.enc, *]
theorem zG0 : zKq prog 75 [] [] (.own 0 1 0 3) [.row 1 (smithsX.map sV)] := by
 refine q7 func75 rfl (fun E hE => ?_); simp only [go_sem, ntmps75]
 repeat' (first | (refine Qr rfl ?_; try intro _ hK; try simp only [go_sem, *]) | refine Qh rfl ?_ | (refine Qc rfl rfl ?_ ?_ <;> (intro hb; have hc := hb; try simp only [go_sem] at hc)) | refine q6 rfl ?_ | ((with_reducible apply And.intro); focus omega) | (refine z8 hK ?_; clear hK; simp only [go_sem, *]) | simp only [z7, z6, go_sem, *])
 refine ⟨[_], [some 0], [], ⟨rfl, trivial⟩, ?_⟩
 simp only [go_sem, smithsX, f8, D4, zLx, *]
theorem zBy (d : Dice) (ws : List Str) (h : d.list.length ≤ 4294967296) (h0 : 0 < ws.length) (h1 : ws.length ≤ 1000) : zKq prog 76 [.ptr 0 0, y2 ws] [w5 d] (sV (a8 ws d)) [w5 (r5 ws d)] := by
 have st := Q5 d ((ws.length : Int) - 1) h (by omega)
 have hle := i6 (n := (ws.length : Int) - 1) (by omega) d
 have hw : IntKind.i64.wrap ((ws.length : Int) - 1) = (ws.length : Int) - 1 := wrap_i64 (by omega) (by omega)
 have e1 : a8 ws d = ws.getD (toN ((ws.length : Int) - 1) d).toNat default := rfl
 have e2 : r5 ws d = toD ((ws.length : Int) - 1) d := rfl
 rw [e1, e2]
 clear e1 e2
 obtain ⟨n, hn⟩ : ∃ n : Nat, toN ((ws.length : Int) - 1) d = n := ⟨_, (Int.toNat_of_nonneg hle.1).symm⟩
 rw [hn] at st hle ⊢
 rw [Int.toNat_natCast]
 have hlt : n < ws.length := by omega
 generalize toD ((ws.length : Int) - 1) d = d2 at *
 clear hn hle
 refine q7 func76 rfl (fun E hE => ?_); simp only [go_sem, ntmps76]
 repeat' (first | (refine Qr rfl ?_; try intro _ hK; try simp only [go_sem, *]) | refine Qh rfl ?_ | (refine Qc rfl rfl ?_ ?_ <;> (intro hb; have hc := hb; try simp only [go_sem] at hc)) | refine q6 rfl ?_ | (refine x4 [0] (st) ?_; simp only [go_sem, *]) | ((with_reducible apply And.intro); focus omega) | (refine z8 hK ?_; clear hK; simp only [go_sem, *]) | simp only [z7, z6, go_sem, *])
 refine ⟨[_], [some 0], [], ⟨rfl, trivial⟩, ?_⟩
 simp only [go_sem, *]
end Go.Abs

namespace Go.Abs
open Go Go.Proofs Tryz
attribute [local irreducible] q9 Hold y3
theorem zFy (d : Dice) : (zLI d).1.length ≤ 7 := by
 have k1 : (wordsU.all fun x => decide (x.length ≤ 7)) = true := by decide
 have k2 : (wordsL.all fun x => decide (x.length ≤ 7)) = true := by decide
 unfold zLI zLq
 split
 ·exact of_decide_eq_true (List.all_eq_true.1 k1 _ (J4 (by decide) _))
 ·exact of_decide_eq_true (List.all_eq_true.1 k2 _ (J4 (by decide) _))
theorem G3 {s : Str} {k : Nat} (h : k < s.length) : List.drop k (List.take (k + 1) s) = [s.getD k 0] := by
 rw [B3 h, List.drop_append_of_le_length (by simp; omega), List.drop_of_length_le (by simp; omega)]; rfl
theorem zBA (set : Str) (n : Nat) (d : Dice) (s : Str) : j0 set (n + 1) d s = j0 set n (toD ((set.length : Int) - 1) d) (s ++ [set.getD (toN ((set.length : Int) - 1) d).toNat 0]) := rfl
theorem zBw (d : Dice) (most : Int) (h : d.list.length ≤ 4294967296) (hm : 1 ≤ most ∧ most ≤ 1000) : zKq prog 25 [.ptr 0 0, iV most] [w5 d] (sV (o7 d most).1) [w5 (o7 d most).2] := by
 have hd1 : (r5 wordsL d).list = d.list := u7 _ _
 have s1 := zBy d wordsL h (by decide) (by decide)
 have s2 := I9 (r5 wordsL d) 3 (by rw [hd1]; exact h) (by omega)
 have hd2 : (x8 3 (r5 wordsL d)).list = d.list := (u7 _ _).trans hd1
 have s3 := zBy (x8 3 (r5 wordsL d)) wordsU (by rw [hd2]; exact h) (by decide) (by decide)
 have hset := zBq d
 have hset7 := zFy d
 obtain ⟨p, hp⟩ : ∃ p, zLI d = p := ⟨_, rfl⟩
 have hT : o7 d most = K9 most p := by unfold o7; rw [hp]
 rw [hT]
 rw [hp] at hset hset7
 unfold zLI zLq at hp
 have hmin : 1 ≤ min most 6 ∧ min most 6 ≤ 6 := by omega
 have hq := F1 (lo := 1) (hi := min most 6) hmin.1 p.2
 have s4 := zGL p.2 1 (min most 6) (by rw [hset.2.2]; exact h) (by omega) (by omega)
 have hT2 : K9 most p = j0 p.1 (f7 1 (min most 6) p.2).toNat (Z6 1 (min most 6) p.2) [] := rfl
 rw [hT2]
 have hd3 : (Z6 1 (min most 6) p.2).list = d.list := (u7 _ _).trans hset.2.2
 obtain ⟨n, hn⟩ : ∃ n : Nat, f7 1 (min most 6) p.2 = n := ⟨(f7 1 (min most 6) p.2).toNat, by omega⟩
 rw [hn] at s4 hq ⊢
 rw [Int.toNat_natCast]
 have hn6 : n ≤ 6 := by omega
 generalize hT3 : j0 p.1 n (Z6 1 (min most 6) p.2) [] = T at *
 obtain ⟨dd, hdd⟩ : ∃ dd, Z6 1 (min most 6) p.2 = dd := ⟨_, rfl⟩
 rw [hdd] at s4 hT3 hd3
 have hdl : dd.list.length ≤ 4294967296 := by rw [hd3]; exact h
 obtain ⟨set, d4⟩ := p
 have hsl : 0 < set.length := hset.1
 have hsl2 : set.length ≤ 7 := hset7
 clear hn hT hT2 hq hd1 hd2 hd3 hset hdd
 simp only at s4 hT3
 generalize a7 3 (r5 wordsL d) = t at *
 generalize x8 3 (r5 wordsL d) = d2 at *
 generalize r5 wordsL d = d1 at *
 generalize a8 wordsL d = a at *
 generalize a8 wordsU d2 = b at *
 generalize r5 wordsU d2 = d3 at *
 generalize hmm : min most 6 = mm at *
 have hw0 : y2 wordsL = .list [sV [97, 101, 115], sV [115, 104, 101, 116, 97], sV [115, 109, 105, 116, 121, 104, 97], sV [99, 104, 106, 97], sV [97, 110, 110, 101]] := rfl
 have hw1 : y2 wordsU = .list [sV [65, 69, 83], sV [88, 69, 84, 65], sV [83, 77, 73, 84, 89, 65], sV [67, 74, 65, 88], sV [65, 78, 78, 69]] := rfl
 rw [hw0] at s1
 rw [hw1] at s3
 clear hw0 hw1 hset7
 have hmi : zLn most 6 = mm := by rw [← hmm]; unfold zLn; omega
 clear hmm
 cases t
 ·have hp : (a, d2) = (set, d4) := hp
  cases hp
  clear s3
  refine q7 func25 rfl (fun E hE => ?_); simp only [go_sem, ntmps25]
  repeat' (first | (refine Qr rfl ?_; try intro _ hK; try simp only [go_sem, *]) | refine Qh rfl ?_ | (refine Qc rfl rfl ?_ ?_ <;> (intro hb; have hc := hb; try simp only [go_sem] at hc)) | refine q6 rfl ?_ | ((with_reducible apply And.intro); focus omega) | (refine z8 hK ?_; clear hK; simp only [go_sem, *]) | simp only [z7, z6, go_sem, *])
  refine c7 [0] [1] s1 rfl (by simp only [go_sem]) (by simp) ?_ ?_ (by simp [go_sem]) (by simp [go_sem]) ?_
  ·simp only [go_sem, *]
  ·simp only [go_sem, *]
  simp only [go_sem, w3, *]
  repeat' (first | (refine Qr rfl ?_; try intro _ hK; try simp only [go_sem, *]) | refine Qh rfl ?_ | (refine Qc rfl rfl ?_ ?_ <;> (intro hb; have hc := hb; try simp only [go_sem] at hc)) | refine q6 rfl ?_ | (refine x4 [0] (s2) ?_; simp only [go_sem, *]) | ((with_reducible apply And.intro); focus omega) | (refine z8 hK ?_; clear hK; simp only [go_sem, *]) | simp only [z7, z6, go_sem, *])
  all_goals try contradiction
  repeat' (first | (refine Qr rfl ?_; try intro _ hK; try simp only [go_sem, *]) | refine Qh rfl ?_ | (refine Qc rfl rfl ?_ ?_ <;> (intro hb; have hc := hb; try simp only [go_sem] at hc)) | refine q6 rfl ?_ | (refine x4 [0] (s4) ?_; simp only [go_sem, *]) | ((with_reducible apply And.intro); focus omega) | (refine z8 hK ?_; clear hK; simp only [go_sem, *]) | simp only [z7, z6, go_sem, *])
  all_goals try contradiction
  refine K6 rfl (n) (fun i (d' : Dice) (s : Str) => j0 set (n - i) d' s = T ∧ d'.list.length ≤ 4294967296 ∧ s.length ≤ i) 38 (fun i d' s => [(7, iV ((n - i : Nat) : Int)), (6, sV s), (5, sV set), (0, .ptr 0 0)]) (fun i d' s => [w5 d']) [some 0] [] (dd) ([]) (by exact ⟨hT3, hdl, by simp⟩) ?_; intro i d' s hi hP
  clear hT3 hdl s4 s2 s1
  obtain ⟨hP, hdl, hsi⟩ := hP
  by_cases hi2 : i < n
  ·rw [show n - i = (n - (i + 1)) + 1 by omega, zBA] at hP
   have st := Q5 d' ((set.length : Int) - 1) hdl (by omega)
   have hle := i6 (n := (set.length : Int) - 1) (by omega) d'
   have hdl2 : (toD ((set.length : Int) - 1) d').list.length ≤ 4294967296 := by rw [u7]; exact hdl
   obtain ⟨k, hk0⟩ : ∃ k : Nat, toN ((set.length : Int) - 1) d' = k := ⟨_, (Int.toNat_of_nonneg hle.1).symm⟩
   rw [hk0] at st hle hP
   rw [Int.toNat_natCast] at hP
   have hkl : k < set.length := by omega
   have hw : IntKind.i64.wrap ((set.length : Int) - 1) = (set.length : Int) - 1 := wrap_i64 (by omega) (by omega)
   have hw1 : IntKind.i64.wrap ((k : Int) + 1) = ((k + 1 : Nat) : Int) := u9 (by omega)
   have hw2 : IntKind.i64.wrap (((n - i : Nat) : Int) - 1) = ((n - (i + 1) : Nat) : Int) := by rw [wrap_i64 (by omega) (by omega)]; omega
   have hj : (0 : Int) < ((n - i : Nat) : Int) := by omega
   have hdt := G3 hkl
   generalize toD ((set.length : Int) - 1) d' = d3 at *
   clear hk0 hle
   repeat' (first | (refine Qr rfl ?_; try intro _ hK; try simp only [go_sem, *]) | refine Qh rfl ?_ | (refine Qc rfl rfl ?_ ?_ <;> (intro hb; have hc := hb; try simp only [go_sem] at hc)) | refine q6 rfl ?_ | (refine x4 [0] (st) ?_; simp only [go_sem, *]) | ((with_reducible apply And.intro); focus omega) | (refine z8 hK ?_; clear hK; simp only [go_sem, *]) | simp only [z7, z6, go_sem, *])
   exact Q1 (i' := i + 1) [some 0] [] (d3) (s ++ [set.getD k 0]) (by exact ⟨hP, hdl2, by simp; omega⟩)
  ·rw [show n - i = 0 by omega] at hP
   have hP : (s, d') = T := hP
   subst hP
   have hj : ¬ (0 : Int) < ((n - i : Nat) : Int) := by omega
   repeat' (first | (refine Qr rfl ?_; try intro _ hK; try simp only [go_sem, *]) | refine Qh rfl ?_ | (refine Qc rfl rfl ?_ ?_ <;> (intro hb; have hc := hb; try simp only [go_sem] at hc)) | refine q6 rfl ?_ | ((with_reducible apply And.intro); focus omega) | (refine z8 hK ?_; clear hK; simp only [go_sem, *]) | simp only [z7, z6, go_sem, *])
   all_goals first | contradiction | omega | skip
   refine ⟨[_], [some 0], [], ⟨rfl, trivial⟩, ?_⟩
   simp only [go_sem, *]
 ·have hp : (b, d3) = (set, d4) := hp
  cases hp
  refine q7 func25 rfl (fun E hE => ?_); simp only [go_sem, ntmps25]
  repeat' (first | (refine Qr rfl ?_; try intro _ hK; try simp only [go_sem, *]) | refine Qh rfl ?_ | (refine Qc rfl rfl ?_ ?_ <;> (intro hb; have hc := hb; try simp only [go_sem] at hc)) | refine q6 rfl ?_ | ((with_reducible apply And.intro); focus omega) | (refine z8 hK ?_; clear hK; simp only [go_sem, *]) | simp only [z7, z6, go_sem, *])
  refine c7 [0] [1] s1 rfl (by simp only [go_sem]) (by simp) ?_ ?_ (by simp [go_sem]) (by simp [go_sem]) ?_
  ·simp only [go_sem, *]
  ·simp only [go_sem, *]
  simp only [go_sem, w3, *]
  repeat' (first | (refine Qr rfl ?_; try intro _ hK; try simp only [go_sem, *]) | refine Qh rfl ?_ | (refine Qc rfl rfl ?_ ?_ <;> (intro hb; have hc := hb; try simp only [go_sem] at hc)) | refine q6 rfl ?_ | (refine x4 [0] (s2) ?_; simp only [go_sem, *]) | ((with_reducible apply And.intro); focus omega) | (refine z8 hK ?_; clear hK; simp only [go_sem, *]) | simp only [z7, z6, go_sem, *])
  all_goals try contradiction
  refine c7 [0] [2] s3 rfl (by simp only [go_sem]) (by simp) ?_ ?_ (by simp [go_sem]) (by simp [go_sem]) ?_
  ·simp only [go_sem, *]
  ·simp only [go_sem, *]
  simp only [go_sem, w3, *]
  repeat' (first | (refine Qr rfl ?_; try intro _ hK; try simp only [go_sem, *]) | refine Qh rfl ?_ | (refine Qc rfl rfl ?_ ?_ <;> (intro hb; have hc := hb; try simp only [go_sem] at hc)) | refine q6 rfl ?_ | (refine x4 [0] (s4) ?_; simp only [go_sem, *]) | ((with_reducible apply And.intro); focus omega) | (refine z8 hK ?_; clear hK; simp only [go_sem, *]) | simp only [z7, z6, go_sem, *])
  all_goals try contradiction
  refine K6 rfl (n) (fun i (d' : Dice) (s : Str) => j0 set (n - i) d' s = T ∧ d'.list.length ≤ 4294967296 ∧ s.length ≤ i) 38 (fun i d' s => [(7, iV ((n - i : Nat) : Int)), (6, sV s), (5, sV set), (0, .ptr 0 0)]) (fun i d' s => [w5 d']) [some 0] [] (dd) ([]) (by exact ⟨hT3, hdl, by simp⟩) ?_; intro i d' s hi hP
  clear hT3 hdl s4 s3 s2 s1
  obtain ⟨hP, hdl, hsi⟩ := hP
  by_cases hi2 : i < n
  ·rw [show n - i = (n - (i + 1)) + 1 by omega, zBA] at hP
   have st := Q5 d' ((set.length : Int) - 1) hdl (by omega)
   have hle := i6 (n := (set.length : Int) - 1) (by omega) d'
   have hdl2 : (toD ((set.length : Int) - 1) d').list.length ≤ 4294967296 := by rw [u7]; exact hdl
   obtain ⟨k, hk0⟩ : ∃ k : Nat, toN ((set.length : Int) - 1) d' = k := ⟨_, (Int.toNat_of_nonneg hle.1).symm⟩
   rw [hk0] at st hle hP
   rw [Int.toNat_natCast] at hP
   have hkl : k < set.length := by omega
   have hw : IntKind.i64.wrap ((set.length : Int) - 1) = (set.length : Int) - 1 := wrap_i64 (by omega) (by omega)
   have hw1 : IntKind.i64.wrap ((k : Int) + 1) = ((k + 1 : Nat) : Int) := u9 (by omega)
   have hw2 : IntKind.i64.wrap (((n - i : Nat) : Int) - 1) = ((n - (i + 1) : Nat) : Int) := by rw [wrap_i64 (by omega) (by omega)]; omega
   have hj : (0 : Int) < ((n - i : Nat) : Int) := by omega
   have hdt := G3 hkl
   generalize toD ((set.length : Int) - 1) d' = d3' at *
   clear hk0 hle
   repeat' (first | (refine Qr rfl ?_; try intro _ hK; try simp only [go_sem, *]) | refine Qh rfl ?_ | (refine Qc rfl rfl ?_ ?_ <;> (intro hb; have hc := hb; try simp only [go_sem] at hc)) | refine q6 rfl ?_ | (refine x4 [0] (st) ?_; simp only [go_sem, *]) | ((with_reducible apply And.intro); focus omega) | (refine z8 hK ?_; clear hK; simp only [go_sem, *]) | simp only [z7, z6, go_sem, *])
   exact Q1 (i' := i + 1) [some 0] [] (d3') (s ++ [set.getD k 0]) (by exact ⟨hP, hdl2, by simp; omega⟩)
  ·rw [show n - i = 0 by omega] at hP
   have hP : (s, d') = T := hP
   subst hP
   have hj : ¬ (0 : Int) < ((n - i : Nat) : Int) := by omega
   repeat' (first | (refine Qr rfl ?_; try intro _ hK; try simp only [go_sem, *]) | refine Qh rfl ?_ | (refine Qc rfl rfl ?_ ?_ <;> (intro hb; have hc := hb; try simp only [go_sem] at hc)) | refine q6 rfl ?_ | ((with_reducible apply And.intro); focus omega) | (refine z8 hK ?_; clear hK; simp only [go_sem, *]) | simp only [z7, z6, go_sem, *])
   all_goals first | contradiction | omega | skip
   refine ⟨[_], [some 0], [], ⟨rfl, trivial⟩, ?_⟩
   simp only [go_sem, *]
end Go.Abs

namespace Go.Abs
open Go Go.Proofs Tryz
attribute [local irreducible] q9 Hold y3
theorem zFA (most : Int) (n : Nat) (d : Dice) (out : List Str) : f9 most (n + 1) d out = f9 most n (i8 out (o7 d most)).2 (out ++ [(i8 out (o7 d most)).1]) := rfl
theorem zGQ (d : Dice) (many most : Int) (h : d.list.length ≤ 4294967296) (hm : 0 ≤ many ∧ many ≤ 1000) (h1 : 1 ≤ most ∧ most ≤ 1000) :
  zKq prog 24 [.ptr 0 0, iV many, iV most] [w5 d] (.own 1 1 0 (X5 d many most).1.length) [w5 (X5 d many most).2, .row 1 ((X5 d many most).1.map sV)] := by
 have st := Q5 d many h (by omega)
 have hle := i6 hm.1 d
 have hT : X5 d many most = f9 most (toN many d).toNat (toD many d) [] := rfl
 rw [hT]
 clear hT
 obtain ⟨n, hn⟩ : ∃ n : Nat, toN many d = n := ⟨_, (Int.toNat_of_nonneg hle.1).symm⟩
 rw [hn] at st hle ⊢
 rw [Int.toNat_natCast]
 have hn6 : n ≤ 1000 := by omega
 generalize hT3 : f9 most n (toD many d) [] = T at *
 have hdl : (toD many d).list.length ≤ 4294967296 := by rw [u7]; exact h
 generalize toD many d = dd at *
 clear hn hle h hm
 refine q7 func24 rfl (fun E hE => ?_); simp only [go_sem, ntmps24]
 repeat' (first | (refine Qr rfl ?_; try intro _ hK; try simp only [go_sem, *]) | (refine Qi rfl rfl rfl rfl ?_ ?_ <;> (intro hb; (try intro _ hK); have hc := hb; try simp only [go_sem] at hc; simp only [go_sem, *])) | refine Qh rfl ?_ | refine Qd rfl (by kernel_rfl) ?_ | (refine Qc rfl rfl ?_ ?_ <;> (intro hb; have hc := hb; try simp only [go_sem] at hc)) | refine q6 rfl ?_ | (refine Qb ?_ ?_; focus kernel_rfl) | (refine x4 [0] (st) ?_; simp only [go_sem, *]) | ((with_reducible apply And.intro); focus omega) | (refine z8 hK ?_; clear hK; simp only [go_sem, *]) | simp only [z7, z6, go_sem, *])
 all_goals try contradiction
 refine K6 rfl (n) (fun i (d' : Dice) (outs : List Str) => f9 most (n - i) d' outs = T ∧ d'.list.length ≤ 4294967296 ∧ outs.length = i ∧ ∀ s, s ∈ outs → Y2 most s) 66 (fun i d' outs => [(8, iV ((n - i : Nat) : Int)), (7, .own 1 1 0 i), (0, .ptr 0 0), (2, iV most)]) (fun i d' outs => [w5 d', .row 1 (outs.map sV)]) [some 0, none] [] (dd) ([]) (by exact ⟨hT3, hdl, rfl, fun s hs => by cases hs⟩) ?_; intro i d' outs hi hP
 clear hT3 hdl st
 obtain ⟨hP, hdl, hlen, hok⟩ := hP
 by_cases hi2 : i < n
 ·rw [show n - i = (n - (i + 1)) + 1 by omega, zFA] at hP
  have sN := zBw d' most hdl h1
  have hN := D5 h1.1 (d := d')
  obtain ⟨x, d1, hx⟩ : ∃ x d1, o7 d' most = (x, d1) := ⟨_, _, rfl⟩
  rw [hx] at sN hN hP
  have hA := A4 hok (p := (x, d1)) ⟨hN.1, hN.2.1⟩
  simp only at sN hN hA
  have hd1 : d1.list.length ≤ 4294967296 := by rw [hN.2.2]; exact hdl
  have hxl : x.length ≤ 6 := hN.1.len
  have hw2 : IntKind.i64.wrap (((n - i : Nat) : Int) - 1) = ((n - (i + 1) : Nat) : Int) := by rw [wrap_i64 (by omega) (by omega)]; omega
  have hj : (0 : Int) < ((n - i : Nat) : Int) := by omega
  obtain ⟨y, d9, hq⟩ : ∃ y d9, i8 outs (x, d1) = (y, d9) := ⟨_, _, rfl⟩
  rw [hq] at hP hA
  have hnext : f9 most (n - (i + 1)) d9 (outs ++ [y]) = T ∧ d9.list.length ≤ 4294967296 ∧ (outs ++ [y]).length = i + 1 ∧ ∀ s, s ∈ outs ++ [y] → Y2 most s :=
   ⟨hP, by rw [hA.2]; exact hd1, by simp [hlen], fun s hs => by
    rcases List.mem_append.1 hs with hs | hs
    ·exact hok s hs
    ·rw [List.mem_singleton.1 hs]; exact hA.1⟩
  clear hP hA hN hx
  by_cases h0 : 0 < outs.length
  ·have so := I9 d1 3 hd1 (by omega)
   have hd2 : (x8 3 d1).list.length ≤ 4294967296 := by unfold x8; rw [u7]; exact hd1
   unfold i8 at hq
   rw [if_pos h0] at hq
   have hq : H4 outs (x, d1) (a7 3 d1) (x8 3 d1) = (y, d9) := hq
   have h0i : (0 : Int) < (i : Int) := by omega
   generalize x8 3 d1 = d2 at *
   generalize a7 3 d1 = t at *
   cases t
   ·have hq : (x, d2) = (y, d9) := hq
    obtain ⟨e1, e2⟩ := Prod.mk.inj hq
    clear hq
    subst e1 e2
    clear hok
    repeat' (first | (refine Qr rfl ?_; try intro _ hK; try simp only [go_sem, *]) | (refine Qi rfl rfl rfl rfl ?_ ?_ <;> (intro hb; (try intro _ hK); have hc := hb; try simp only [go_sem] at hc; simp only [go_sem, *])) | refine Qh rfl ?_ | refine Qd rfl (by kernel_rfl) ?_ | (refine Qc rfl rfl ?_ ?_ <;> (intro hb; have hc := hb; try simp only [go_sem] at hc)) | refine q6 rfl ?_ | (refine Qb ?_ ?_; focus kernel_rfl) | (refine w9 [0] [] (sN) (by simp) ?_ ?_ (by simp) (.inl rfl) ?_ ?_ ?_; (iterate 2 (focus (simp only [go_sem, *]; done))); (iterate 2 (focus (first | (simp; done) | (simp [go_sem]; done)))); simp only [go_sem, *]) | (refine w9 [0] [] (so) (by simp) ?_ ?_ (by simp) (.inl rfl) ?_ ?_ ?_; (iterate 2 (focus (simp only [go_sem, *]; done))); (iterate 2 (focus (first | (simp; done) | (simp [go_sem]; done)))); simp only [go_sem, *]) | ((with_reducible apply And.intro); focus omega) | (refine z8 hK ?_; clear hK; simp only [go_sem, *]) | simp only [z7, z6, go_sem, *])
    all_goals first | contradiction | omega | skip
    exact Q1 (i' := i + 1) [some 0, some 3] [] (d2) (outs ++ [x]) (by exact hnext)
   ·have hq : X9 (S8 outs d2) (toD ((outs.length : Int) - 1) d2) = (y, d9) := hq
    have hpk0 : ∀ e : Int, S8 outs d2 = outs.getD (toN ((outs.length : Int) - 1) d2).toNat default := fun _ => rfl
    rw [hlen] at hq hpk0
    have st := Q5 d2 ((i : Int) - 1) hd2 (by omega)
    have hle := i6 (n := (i : Int) - 1) (by omega) d2
    have hd3 : (toD ((i : Int) - 1) d2).list.length ≤ 4294967296 := by rw [u7]; exact hd2
    obtain ⟨k, hk0⟩ : ∃ k : Nat, toN ((i : Int) - 1) d2 = k := ⟨_, (Int.toNat_of_nonneg hle.1).symm⟩
    have hpk : S8 outs d2 = outs.getD k default := by rw [hpk0 0, hk0, Int.toNat_natCast]
    rw [hk0] at st hle
    rw [hpk] at hq
    have hkl : k < outs.length := by omega
    have hkli : k < i := by omega
    have hz := (hok _ (l9 hkl)).1
    have hw : IntKind.i64.wrap ((i : Int) - 1) = (i : Int) - 1 := wrap_i64 (by omega) (by omega)
    generalize toD ((i : Int) - 1) d2 = d3 at *
    have hz1 : 0 < (outs.getD k default).length := hz.ne
    have hz6 : (outs.getD k default).length ≤ 6 := hz.len
    clear hk0 hle hpk hpk0 hok hz
    generalize hzz : outs.getD k default = z at *
    by_cases hv : 97 ≤ (z.getD 0 0).toNat ∧ 1 < z.length
    ·have s2 := I9 d3 2 hd3 (by omega)
     have hd4 : (x8 2 d3).list.length ≤ 4294967296 := by unfold x8; rw [u7]; exact hd3
     unfold X9 at hq
     rw [if_pos hv] at hq
     generalize x8 2 d3 = d4 at *
     generalize a7 2 d3 = t2 at *
     obtain ⟨hv1, hv2⟩ := hv
     cases t2
     ·have hq : (z, d4) = (y, d9) := hq
      obtain ⟨e1, e2⟩ := Prod.mk.inj hq
      clear hq
      subst e1 e2
      repeat' (first | (refine Qr rfl ?_; try intro _ hK; try simp only [go_sem, *]) | (refine Qi rfl rfl rfl rfl ?_ ?_ <;> (intro hb; (try intro _ hK); have hc := hb; try simp only [go_sem] at hc; simp only [go_sem, *])) | refine Qh rfl ?_ | refine Qd rfl (by kernel_rfl) ?_ | (refine Qc rfl rfl ?_ ?_ <;> (intro hb; have hc := hb; try simp only [go_sem] at hc)) | refine q6 rfl ?_ | (refine Qb ?_ ?_; focus kernel_rfl) | (refine w9 [0] [] (sN) (by simp) ?_ ?_ (by simp) (.inl rfl) ?_ ?_ ?_; (iterate 2 (focus (simp only [go_sem, *]; done))); (iterate 2 (focus (first | (simp; done) | (simp [go_sem]; done)))); simp only [go_sem, *]) | (refine w9 [0] [] (so) (by simp) ?_ ?_ (by simp) (.inl rfl) ?_ ?_ ?_; (iterate 2 (focus (simp only [go_sem, *]; done))); (iterate 2 (focus (first | (simp; done) | (simp [go_sem]; done)))); simp only [go_sem, *]) | (refine w9 [0] [] (s2) (by simp) ?_ ?_ (by simp) (.inl rfl) ?_ ?_ ?_; (iterate 2 (focus (simp only [go_sem, *]; done))); (iterate 2 (focus (first | (simp; done) | (simp [go_sem]; done)))); simp only [go_sem, *]) | (refine w9 [0] [] (st) (by simp) ?_ ?_ (by simp) (.inl rfl) ?_ ?_ ?_; (iterate 2 (focus (simp only [go_sem, *]; done))); (iterate 2 (focus (first | (simp; done) | (simp [go_sem]; done)))); simp only [go_sem, *]) | ((with_reducible apply And.intro); focus omega) | (refine z8 hK ?_; clear hK; simp only [go_sem, *]) | simp only [z7, z6, go_sem, *])
      all_goals first | contradiction | omega | skip
      exact Q1 (i' := i + 1) [some 0, some 3] [] (d4) (outs ++ [z]) (by exact hnext)
     ·have hq : (c9 z (toN ((z.length : Int) - 1) d4).toNat, toD ((z.length : Int) - 1) d4) = (y, d9) := hq
      have s5 := Q5 d4 ((z.length : Int) - 1) hd4 (by omega)
      have hle := i6 (n := (z.length : Int) - 1) (by omega) d4
      obtain ⟨m, hm0⟩ : ∃ m : Nat, toN ((z.length : Int) - 1) d4 = m := ⟨_, (Int.toNat_of_nonneg hle.1).symm⟩
      rw [hm0] at s5 hle hq
      rw [Int.toNat_natCast] at hq
      have hml : m < z.length := by omega
      have hwz : IntKind.i64.wrap ((z.length : Int) - 1) = (z.length : Int) - 1 := wrap_i64 (by omega) (by omega)
      have hwm : IntKind.i64.wrap ((m : Int) + 1) = ((m + 1 : Nat) : Int) := u9 (by omega)
      generalize toD ((z.length : Int) - 1) d4 = d5 at *
      obtain ⟨e1, e2⟩ := Prod.mk.inj hq
      clear hq hm0 hle
      subst e1 e2
      have hcut : List.take m z ++ List.drop (m + 1) z = c9 z m := rfl
      repeat' (first | (refine Qr rfl ?_; try intro _ hK; try simp only [go_sem, *]) | (refine Qi rfl rfl rfl rfl ?_ ?_ <;> (intro hb; (try intro _ hK); have hc := hb; try simp only [go_sem] at hc; simp only [go_sem, *])) | refine Qh rfl ?_ | refine Qd rfl (by kernel_rfl) ?_ | (refine Qc rfl rfl ?_ ?_ <;> (intro hb; have hc := hb; try simp only [go_sem] at hc)) | refine q6 rfl ?_ | (refine Qb ?_ ?_; focus kernel_rfl) | (refine w9 [0] [] (sN) (by simp) ?_ ?_ (by simp) (.inl rfl) ?_ ?_ ?_; (iterate 2 (focus (simp only [go_sem, *]; done))); (iterate 2 (focus (first | (simp; done) | (simp [go_sem]; done)))); simp only [go_sem, *]) | (refine w9 [0] [] (so) (by simp) ?_ ?_ (by simp) (.inl rfl) ?_ ?_ ?_; (iterate 2 (focus (simp only [go_sem, *]; done))); (iterate 2 (focus (first | (simp; done) | (simp [go_sem]; done)))); simp only [go_sem, *]) | (refine w9 [0] [] (s2) (by simp) ?_ ?_ (by simp) (.inl rfl) ?_ ?_ ?_; (iterate 2 (focus (simp only [go_sem, *]; done))); (iterate 2 (focus (first | (simp; done) | (simp [go_sem]; done)))); simp only [go_sem, *]) | (refine w9 [0] [] (st) (by simp) ?_ ?_ (by simp) (.inl rfl) ?_ ?_ ?_; (iterate 2 (focus (simp only [go_sem, *]; done))); (iterate 2 (focus (first | (simp; done) | (simp [go_sem]; done)))); simp only [go_sem, *]) | (refine w9 [0] [] (s5) (by simp) ?_ ?_ (by simp) (.inl rfl) ?_ ?_ ?_; (iterate 2 (focus (simp only [go_sem, *]; done))); (iterate 2 (focus (first | (simp; done) | (simp [go_sem]; done)))); simp only [go_sem, *]) | ((with_reducible apply And.intro); focus omega) | (refine z8 hK ?_; clear hK; simp only [go_sem, *]) | simp only [z7, z6, go_sem, *])
      all_goals first | contradiction | omega | skip
      exact Q1 (i' := i + 1) [some 0, some 3] [] (d5) (outs ++ [c9 z m]) (by exact hnext)
    ·unfold X9 at hq
     rw [if_neg hv] at hq
     obtain ⟨e1, e2⟩ := Prod.mk.inj hq
     clear hq
     subst e1 e2
     by_cases hv1 : 97 ≤ (z.getD 0 0).toNat
     ·have hv2 : ¬ 1 < z.length := fun h => hv ⟨hv1, h⟩
      clear hv
      repeat' (first | (refine Qr rfl ?_; try intro _ hK; try simp only [go_sem, *]) | (refine Qi rfl rfl rfl rfl ?_ ?_ <;> (intro hb; (try intro _ hK); have hc := hb; try simp only [go_sem] at hc; simp only [go_sem, *])) | refine Qh rfl ?_ | refine Qd rfl (by kernel_rfl) ?_ | (refine Qc rfl rfl ?_ ?_ <;> (intro hb; have hc := hb; try simp only [go_sem] at hc)) | refine q6 rfl ?_ | (refine Qb ?_ ?_; focus kernel_rfl) | (refine w9 [0] [] (sN) (by simp) ?_ ?_ (by simp) (.inl rfl) ?_ ?_ ?_; (iterate 2 (focus (simp only [go_sem, *]; done))); (iterate 2 (focus (first | (simp; done) | (simp [go_sem]; done)))); simp only [go_sem, *]) | (refine w9 [0] [] (so) (by simp) ?_ ?_ (by simp) (.inl rfl) ?_ ?_ ?_; (iterate 2 (focus (simp only [go_sem, *]; done))); (iterate 2 (focus (first | (simp; done) | (simp [go_sem]; done)))); simp only [go_sem, *]) | (refine w9 [0] [] (st) (by simp) ?_ ?_ (by simp) (.inl rfl) ?_ ?_ ?_; (iterate 2 (focus (simp only [go_sem, *]; done))); (iterate 2 (focus (first | (simp; done) | (simp [go_sem]; done)))); simp only [go_sem, *]) | ((with_reducible apply And.intro); focus omega) | (refine z8 hK ?_; clear hK; simp only [go_sem, *]) | simp only [z7, z6, go_sem, *])
      all_goals first | contradiction | omega | skip
      exact Q1 (i' := i + 1) [some 0, some 3] [] (d3) (outs ++ [z]) (by exact hnext)
     ·clear hv
      repeat' (first | (refine Qr rfl ?_; try intro _ hK; try simp only [go_sem, *]) | (refine Qi rfl rfl rfl rfl ?_ ?_ <;> (intro hb; (try intro _ hK); have hc := hb; try simp only [go_sem] at hc; simp only [go_sem, *])) | refine Qh rfl ?_ | refine Qd rfl (by kernel_rfl) ?_ | (refine Qc rfl rfl ?_ ?_ <;> (intro hb; have hc := hb; try simp only [go_sem] at hc)) | refine q6 rfl ?_ | (refine Qb ?_ ?_; focus kernel_rfl) | (refine w9 [0] [] (sN) (by simp) ?_ ?_ (by simp) (.inl rfl) ?_ ?_ ?_; (iterate 2 (focus (simp only [go_sem, *]; done))); (iterate 2 (focus (first | (simp; done) | (simp [go_sem]; done)))); simp only [go_sem, *]) | (refine w9 [0] [] (so) (by simp) ?_ ?_ (by simp) (.inl rfl) ?_ ?_ ?_; (iterate 2 (focus (simp only [go_sem, *]; done))); (iterate 2 (focus (first | (simp; done) | (simp [go_sem]; done)))); simp only [go_sem, *]) | (refine w9 [0] [] (st) (by simp) ?_ ?_ (by simp) (.inl rfl) ?_ ?_ ?_; (iterate 2 (focus (simp only [go_sem, *]; done))); (iterate 2 (focus (first | (simp; done) | (simp [go_sem]; done)))); simp only [go_sem, *]) | ((with_reducible apply And.intro); focus omega) | (refine z8 hK ?_; clear hK; simp only [go_sem, *]) | simp only [z7, z6, go_sem, *])
      all_goals first | contradiction | omega | skip
      exact Q1 (i' := i + 1) [some 0, some 3] [] (d3) (outs ++ [z]) (by exact hnext)
  ·unfold i8 at hq
   rw [if_neg h0] at hq
   obtain ⟨e1, e2⟩ := Prod.mk.inj hq
   clear hq
   subst e1 e2
   have h0i : ¬ (0 : Int) < (i : Int) := by omega
   clear hok
   repeat' (first | (refine Qr rfl ?_; try intro _ hK; try simp only [go_sem, *]) | (refine Qi rfl rfl rfl rfl ?_ ?_ <;> (intro hb; (try intro _ hK); have hc := hb; try simp only [go_sem] at hc; simp only [go_sem, *])) | refine Qh rfl ?_ | refine Qd rfl (by kernel_rfl) ?_ | (refine Qc rfl rfl ?_ ?_ <;> (intro hb; have hc := hb; try simp only [go_sem] at hc)) | refine q6 rfl ?_ | (refine Qb ?_ ?_; focus kernel_rfl) | (refine x4 [0] (sN) ?_; simp only [go_sem, *]) | ((with_reducible apply And.intro); focus omega) | (refine z8 hK ?_; clear hK; simp only [go_sem, *]) | simp only [z7, z6, go_sem, *])
   all_goals first | contradiction | omega | skip
   exact Q1 (i' := i + 1) [some 0, some 3] [] (d1) (outs ++ [x]) (by exact hnext)
 ·rw [show n - i = 0 by omega] at hP
  have hP : (outs, d') = T := hP
  subst hP
  have hj : ¬ (0 : Int) < ((n - i : Nat) : Int) := by omega
  clear hok
  repeat' (first | (refine Qr rfl ?_; try intro _ hK; try simp only [go_sem, *]) | (refine Qi rfl rfl rfl rfl ?_ ?_ <;> (intro hb; (try intro _ hK); have hc := hb; try simp only [go_sem] at hc; simp only [go_sem, *])) | refine Qh rfl ?_ | refine Qd rfl (by kernel_rfl) ?_ | (refine Qc rfl rfl ?_ ?_ <;> (intro hb; have hc := hb; try simp only [go_sem] at hc)) | refine q6 rfl ?_ | (refine Qb ?_ ?_; focus kernel_rfl) | ((with_reducible apply And.intro); focus omega) | (refine z8 hK ?_; clear hK; simp only [go_sem, *]) | simp only [z7, z6, go_sem, *])
  all_goals first | contradiction | omega | skip
  refine ⟨[_], [some 0, some 1], [], ⟨rfl, trivial⟩, ?_⟩
  simp only [go_sem, *]
end Go.Abs

namespace Go.Abs
open Go Go.Proofs Tryz
attribute [local irreducible] q9 Hold y3
end Go.Abs

namespace Go.Abs
open Go
theorem O0 {α : Type} (cmp : α → α → Int) : ∀ (xs ys : List α) (b : Option α), y4 cmp b (xs ++ ys) = y4 cmp (y4 cmp b xs) ys
 | [], ys, b => by rw [List.nil_append]; cases b <;> rfl
 | x :: r, ys, none => by
  rw [List.cons_append, y4, y4]; exact O0 cmp r ys _
 | x :: r, ys, some y => by
  rw [List.cons_append, y4, y4]
  split
  ·exact O0 cmp r ys _
  ·exact O0 cmp r ys _
theorem zAW {α : Type} (cmp : α → α → Int) (x : α) : ∀ b : Option α, y4 cmp b [x] = match b with
  | none => some x
  | some y => if cmp x y < 0 then some x else some y
 | none => rfl
 | some y => by
  rw [y4]
  by_cases h : cmp x y < 0
  ·simp only [if_pos h, y4]
  ·simp only [if_neg h, y4]
def e8 (l : List Rule) (to : Str) (n : Nat) (pre : List Str) (S : List Str × Option (List Str)) (s : Str) : List Str × Option (List Str) :=
 if s ∈ S.1 then S else (S.1 ++ [s], y4 zKw S.2 (u6 l to n s pre))
theorem F0 (l : List Rule) (to : Str) (n : Nat) (pre : List Str) : ∀ (L m m' : List Str) (B : Option (List Str)), (∀ x, x ∈ m ↔ x ∈ m') →
  (L.foldl (e8 l to n pre) (m, B)).2 = y4 zKw B ((Z5 m' L).flatMap fun s => u6 l to n s pre)
 | [], m, m', B, _ => by
  simp only [List.foldl_nil, Z5, List.flatMap_nil]
  cases B <;> rfl
 | x :: r, m, m', B, h => by
  rw [List.foldl_cons, Z5]
  by_cases hx : x ∈ m'
  ·rw [if_pos hx, e8, if_pos ((h x).2 hx)]
   exact F0 l to n pre r m m' B h
  ·rw [if_neg hx, e8, if_neg (fun k => hx ((h x).1 k)), List.flatMap_cons, O0]
   exact F0 l to n pre r _ _ _ (fun y => by simp only [List.mem_append, List.mem_cons, List.not_mem_nil, or_false, h y]; exact or_comm)
theorem zD6 (l : List Rule) (to : Str) (n : Nat) (now : Str) (pre : List Str) (B : Option (List Str)) :
  ((u5 l now).foldl (e8 l to n (pre ++ [now])) ([], B)).2 = y4 zKw B (u6 l to (n + 1) now pre) := by
 rw [F0 l to n (pre ++ [now]) (u5 l now) [] [] B (fun _ => Iff.rfl), u6, L9]
def zLC (m : List Str) (x : Str) : List Str := if x ∈ m then m else m ++ [x]
theorem zE7 {m : List Str} {x y : Str} : y ∈ zLC m x ↔ y ∈ m ∨ y = x := by
 unfold zLC
 split
 ·rename_i h
  constructor
  ·exact .inl
  ·rintro (h2 | rfl)
   ·exact h2
   ·exact h
 ·rw [List.mem_append, List.mem_singleton]
def zK8 (k : Str) (m : List Str) (now : Str) : List Str := if now.length < k.length then zLC m now else m
def goC (k : Str) : Nat → List Str → Str → Nat → List Str
 | 0, m, now, _ => zK8 k m now
 | n + 1, m, now, at_ => (List.range' at_ (k.length - at_)).foldl (fun m i => goC k n m (now ++ [k.getD i 0]) (i + 1)) (zK8 k m now)
def d7 (k : Str) (n : Nat) (m : List Str) (now : Str) (i : Nat) : List Str := (List.range' i (k.length - i)).foldl (fun m i => goC k n m (now ++ [k.getD i 0]) (i + 1)) m
theorem F6 (k : Str) (n : Nat) (m : List Str) (now : Str) (i : Nat) : goC k (n + 1) m now i = d7 k n (zK8 k m now) now i := rfl
theorem K3 {k : Str} {n : Nat} {m : List Str} {now : Str} {i : Nat} (h : k.length ≤ i) : d7 k n m now i = m := by
 unfold d7
 rw [show k.length - i = 0 by omega]; rfl
theorem F5 {k : Str} {n : Nat} {m : List Str} {now : Str} {i : Nat} (h : i < k.length) : d7 k n m now i = d7 k n (goC k n m (now ++ [k.getD i 0]) (i + 1)) now (i + 1) := by
 unfold d7
 rw [show k.length - i = (k.length - (i + 1)) + 1 by omega, List.range'_succ, List.foldl_cons]
theorem mem_metC {k : Str} {m : List Str} {now x : Str} : x ∈ zK8 k m now ↔ x ∈ m ∨ (x = now ∧ x.length < k.length) := by
 unfold zK8
 split
 ·rename_i h
  rw [zE7]
  constructor
  ·rintro (h1 | rfl)
   ·exact .inl h1
   ·exact .inr ⟨rfl, h⟩
  ·rintro (h1 | ⟨rfl, _⟩)
   ·exact .inl h1
   ·exact .inr rfl
 ·rename_i h
  constructor
  ·exact .inl
  ·rintro (h1 | ⟨rfl, h1⟩)
   ·exact h1
   ·exact absurd h1 h
theorem D3 {k : Str} : ∀ {n : Nat} {m : List Str} {now : Str} {i : Nat} {x : Str}, k.length - i ≤ n → (x ∈ goC k n m now i ↔ x ∈ m ∨ ∃ t : Str, t.Sublist (k.drop i) ∧ x = now ++ t ∧ x.length < k.length)
 | 0, m, now, i, x, h => by
  rw [goC, mem_metC, List.drop_eq_nil_of_le (by omega)]
  constructor
  ·rintro (h1 | ⟨rfl, h1⟩)
   ·exact .inl h1
   ·exact .inr ⟨[], List.Sublist.refl _, by simp, h1⟩
  ·rintro (h1 | ⟨t, ht, rfl, h1⟩)
   ·exact .inl h1
   ·rw [List.sublist_nil.1 ht] at h1 ⊢
    exact .inr ⟨by simp, h1⟩
 | n + 1, m, now, i, x, h => by
  have key : ∀ (d i : Nat) (m : List Str), k.length - i = d → d ≤ n + 1 → (x ∈ d7 k n m now i ↔ x ∈ m ∨ ∃ t : Str, t ≠ [] ∧ t.Sublist (k.drop i) ∧ x = now ++ t ∧ x.length < k.length) := by
   intro d
   induction d with
   | zero =>
    intro i m hi _
    rw [K3 (by omega), List.drop_eq_nil_of_le (by omega)]
    constructor
    ·exact .inl
    ·rintro (h1 | ⟨t, hn, ht, _⟩)
     ·exact h1
     ·exact absurd (List.sublist_nil.1 ht) hn
   | succ d ih =>
    intro i m hi hd
    have hlt : i < k.length := by omega
    rw [F5 hlt, ih (i + 1) _ (by omega) (by omega), D3 (by omega)]
    have hdr : k.drop i = k.getD i 0 :: k.drop (i + 1) := by
     rw [List.drop_eq_getElem_cons hlt]; simp [List.getD, hlt]
    rw [hdr]
    constructor
    ·rintro ((h1 | ⟨t, ht, rfl, h1⟩) | ⟨t, hn, ht, rfl, h1⟩)
     ·exact .inl h1
     ·exact .inr ⟨k.getD i 0 :: t, by simp, ht.cons_cons _, by simp, h1⟩
     ·exact .inr ⟨t, hn, ht.cons _, rfl, h1⟩
    ·rintro (h1 | ⟨t, hn, ht, rfl, h1⟩)
     ·exact .inl (.inl h1)
     ·cases ht with
      | cons _ ht => exact .inr ⟨t, hn, ht, rfl, h1⟩
      | cons_cons _ ht => exact .inl (.inr ⟨_, ht, by simp, h1⟩)
  rw [F6, key _ i _ rfl (by omega), mem_metC]
  constructor
  ·rintro ((h1 | ⟨rfl, h1⟩) | ⟨t, _, h2⟩)
   ·exact .inl h1
   ·exact .inr ⟨[], List.nil_sublist _, by simp, h1⟩
   ·exact .inr ⟨t, h2⟩
  ·rintro (h1 | ⟨t, ht, rfl, h1⟩)
   ·exact .inl (.inl h1)
   ·by_cases hn : t = []
    ·subst hn
     exact .inl (.inr ⟨by simp, h1⟩)
    ·exact .inr ⟨t, hn, ht, rfl, h1⟩
def Y5 (k : Str) : List Str := goC k k.length [] (k.take 1) 1
theorem zBL {k x : Str} : x ∈ Y5 k ↔ Z1 k x := by
 unfold Y5 Z1
 rw [D3 (by omega)]
 simp
end Go.Abs

namespace Go.Abs
open Go Go.Proofs Tryz
attribute [local irreducible] q9 Hold y3
theorem zA1 : Maps.Keyed prog 90 := Maps.Keyed.of_law (WideMaps.string_law (by kernel_rfl))
abbrev zKz (s : Str) : Value := .string ⟨s.toArray⟩
theorem K5 (s : Str) (hs : s.length ≤ 1000) : zLJ prog 90 (zKz s) := by
 have hu : prog.underlying 90 = some .string := by kernel_rfl
 unfold zLJ keyOf
 rw [hu]
 simp [mapKey, hu, maxLen]
 omega
theorem sKey_inj {a b : Str} : zKz a = zKz b ↔ a = b := by simp [zKz]
theorem F7 (h : Str) : ∀ hs : List Str, zK5 (zKz h) (hs.map zKz) = if h ∈ hs then some (hs.idxOf h) else none
 | [] => by simp [zK5]
 | x :: r => by
  have ih := F7 h r
  rw [List.map_cons]
  unfold zK5
  by_cases e : x = h
  ·subst e; simp
  ·have e' : ¬ zKz x = zKz h := fun k => e (sKey_inj.1 k)
   rw [if_neg e', ih]
   by_cases hm : h ∈ r
   ·rw [if_pos hm, if_pos (by simp [hm])]
    have hb : (x == h) = false := by simpa using e
    simp [List.idxOf_cons, hb]
   ·rw [if_neg hm, if_neg (by simp only [List.mem_cons, not_or]; exact ⟨fun k => e k.symm, hm⟩)]; rfl
theorem zEx (m : List Str) (s : Str) : d8 (m.map zKz) (m.map fun _ => bV true) (zKz s) (bV false) = bV (decide (s ∈ m)) := by
 unfold d8; rw [F7]
 by_cases hm : s ∈ m
 ·rw [if_pos hm]
  have hlt := List.idxOf_lt_length_of_mem hm
  simp [hlt, hm]
 ·rw [if_neg hm]; simp [hm]
theorem zFT (m : List Str) (s : Str) : zLb (m.map zKz) (zKz s) = (zLC m s).map zKz ∧ zLc (m.map zKz) (m.map fun _ => bV true) (zKz s) (bV true) = (zLC m s).map fun _ => bV true := by
 unfold zLb zLc zLC
 rw [F7]
 by_cases hm : s ∈ m
 ·rw [if_pos hm, if_pos hm]
  refine ⟨rfl, ?_⟩
  have hlt := List.idxOf_lt_length_of_mem hm
  apply List.ext_getElem (by simp)
  intro i h1 h2
  simp [List.getElem_set]
 ·rw [if_neg hm, if_neg hm]
  simp
theorem zBN : zLP prog 155 = some (90, 4) := by kernel_rfl
theorem zBI {m : List Str} {s : Str} {o : Nat} {H : Nat → AObj} {K : Cont} (hm : ∀ x, x ∈ m → x.length ≤ 1000) (hs : s.length ≤ 1000) (ho : H o = .mapo (m.map zKz) (m.map fun _ => bV true)) (hk : K (bV (decide (s ∈ m))) [o] []) : Z9 prog 155 (.mp o) (sV s) false H K := by
 have hz : zeroT prog 4 = some (.bool false) := by kernel_rfl
 unfold Z9
 rw [zBN]
 simp only [zLV, hz, ho]
 refine ⟨zA1, K5 s hs, by simp [Value.cells, Value.oneCell'], fun q hq => ?_, ?_⟩
 ·obtain ⟨k, hk, rfl⟩ := List.mem_map.1 hq; exact K5 k (hm k hk)
 ·have e : zAV (.bool false) = bV false := rfl
  rw [e, zEx]; simpa using hk
theorem B4 {m : List Str} {s : Str} {o : Nat} {H : Nat → AObj} {K : Cont} (hm : ∀ x, x ∈ m → x.length ≤ 1000) (hs : s.length ≤ 1000) (ho : H o = .mapo (m.map zKz) (m.map fun _ => bV true)) (hk : K (.tup []) [o] [(o, .mapo ((zLC m s).map zKz) ((zLC m s).map fun _ => bV true))]) : b8 prog 155 (.mp o) (sV s) (bV true) H K := by
 unfold b8
 rw [zBN]
 simp only [zLV, ho]
 obtain ⟨h1, h2⟩ := zFT m s
 refine ⟨zA1, K5 s hs, fun q hq => ?_, .raw _, rfl, ?_⟩
 ·obtain ⟨k, hk, rfl⟩ := List.mem_map.1 hq; exact K5 k (hm k hk)
 ·have e : zKr H 3 (bV true) = (bV true, []) := rfl
  rw [e, h1, h2]; simpa [w3] using hk
theorem C6 (l : List Str) (h1 : l.length ≤ 4294967296) : zKq prog 148 [y2 l] [] (.own 0 1 0 l.length) [.row 1 (l.map sV)] := by
 cases l with
 | nil =>
  refine zHA (fun a c => ?_)
  refine q7 func148 rfl (fun E hE => ?_); simp only [go_sem, ntmps148]
  repeat' (first | (refine Qr rfl ?_; try intro _ hK; try simp only [go_sem, *]) | refine Qh rfl ?_ | (refine Qc rfl rfl ?_ ?_ <;> (intro hb; have hc := hb; try simp only [go_sem] at hc)) | refine q6 rfl ?_ | ((with_reducible apply And.intro); focus omega) | (refine z8 hK ?_; clear hK; simp only [go_sem, *]) | simp only [z7, z6, go_sem, *])
  ·refine ⟨[_], [none], [], ⟨rfl, trivial⟩, ?_⟩
   simp only [go_sem, *]
   simp
  ·refine ⟨[_], [some 1], [], ⟨rfl, trivial⟩, ?_⟩
   simp only [go_sem, *]
 | cons x r =>
  have h2 : r.length + 1 ≤ 4294967296 := by simpa using h1
  refine q7 func148 rfl (fun E hE => ?_); simp only [go_sem, ntmps148]
  repeat' (first | (refine Qr rfl ?_; try intro _ hK; try simp only [go_sem, *]) | refine Qh rfl ?_ | (refine Qc rfl rfl ?_ ?_ <;> (intro hb; have hc := hb; try simp only [go_sem] at hc)) | refine q6 rfl ?_ | ((with_reducible apply And.intro); focus omega) | (refine z8 hK ?_; clear hK; simp only [go_sem, *]) | simp only [z7, z6, go_sem, *])
  all_goals try contradiction
  refine ⟨fun y hy => ?_, fun y hy => ?_, by omega, by omega, ?_⟩
  ·obtain ⟨z, _, rfl⟩ := List.mem_map.1 hy
   simp [go_sem]
  ·obtain ⟨z, _, rfl⟩ := List.mem_map.1 hy
   simp [go_sem]
  ·repeat' (first | (refine Qr rfl ?_; try intro _ hK; try simp only [go_sem, *]) | refine Qh rfl ?_ | (refine Qc rfl rfl ?_ ?_ <;> (intro hb; have hc := hb; try simp only [go_sem] at hc)) | refine q6 rfl ?_ | ((with_reducible apply And.intro); focus omega) | (refine z8 hK ?_; clear hK; simp only [go_sem, *]) | simp only [z7, z6, go_sem, *])
   refine ⟨[_], [some 1], [], ⟨rfl, trivial⟩, ?_⟩
   simp only [go_sem, *]
end Go.Abs

namespace Go.Abs
open Go Go.Proofs Tryz
attribute [local irreducible] q9 Hold y3
noncomputable def zAT : Code := sub [0, 1, 0, 1, 1, 1] (Y3 Tryz.f124)
noncomputable def l4 (fn : FuncId) : LoopK := ⟨fn, #[10], R1 zAT, R2 zAT, 23⟩
def u2 : Option (List Str) → AV
 | none => .raw (.slice none 0 0)
 | some c => y2 c
@[go_sem] theorem zIM : u2 none = .raw (.slice none 0 0) := rfl
@[go_sem] theorem zCj (c : List Str) : u2 (some c) = .list (c.map sV) := rfl
@[go_sem] theorem zHs (H : Nat → AObj) (m : List (Option Nat)) (ex : List Nat) (B : Option (List Str)) : XpF H m ex (u2 B) (u2 B) ↔ True := by cases B <;> simp [u2, XpF]
@[go_sem] theorem zKM (f : Nat → Nat) (B : Option (List Str)) : AV.ren f (u2 B) = u2 B := by cases B <;> simp [u2, AV.ren]
@[go_sem] theorem zIW (B : Option (List Str)) : (u2 B).cells = [u2 B] := by cases B <;> rfl
@[go_sem] theorem zJz (B : Option (List Str)) : (u2 B).one = true := by cases B <;> rfl
@[go_sem] theorem zIc (B : Option (List Str)) : (u2 B).flat = true := by cases B <;> rfl
@[go_sem] theorem zKd (B : Option (List Str)) : (u2 B).sized = true := by cases B <;> rfl
abbrev f0 : AV := fnV 126
abbrev zIX (c : List Str) : Prop := c.length ≤ 1000
theorem zHe (fn : FuncId) (c : List Str) : l7 prog [y2 c] [.loopo (l4 fn) [(3, .ptr 1 0), (6, .ptr 2 0), (7, .ptr 3 0)] (some none), .box [f0], .box [.raw (.slice none 0 0)], .box [bV false]] (bV true)
  [.loopo (l4 fn) [(3, .ptr 1 0), (6, .ptr 2 0), (7, .ptr 3 0)] (some none), .box [f0], .box [y2 c], .box [bV true]] := by
 refine V7 (L := l4 fn) (env := [(3, .ptr 1 0), (6, .ptr 2 0), (7, .ptr 3 0)]) (j := none) rfl rfl (fun E l hE => ?_)
 refine r6 rfl ?_
 simp only [l4, j3, go_sem]
 repeat' (first | (refine Qr (ops := _ :: _) rfl ?_; try intro _ hK; try simp only [go_sem, *]) | (refine Qi rfl rfl rfl rfl ?_ ?_ <;> (intro hb; (try intro _ hK); have hc := hb; try simp only [go_sem] at hc; simp only [go_sem, *])) | (refine Qb ?_ ?_; focus kernel_rfl) | ((with_reducible apply And.intro); focus omega) | (refine z8 hK ?_; clear hK; simp only [go_sem, *]) | simp only [z7, z6, go_sem, *])
 refine u1 ?_
 refine ⟨by simp only [go_sem], ?_⟩
 refine V1 (id := 1) rfl ?_
 refine c4 rfl ?_
 refine r6 rfl ?_
 simp only [go_sem]
 repeat' (first | (refine Qr (ops := _ :: _) rfl ?_; try intro _ hK; try simp only [go_sem, *]) | (refine Qi rfl rfl rfl rfl ?_ ?_ <;> (intro hb; (try intro _ hK); have hc := hb; try simp only [go_sem] at hc; simp only [go_sem, *])) | (refine Qb ?_ ?_; focus kernel_rfl) | ((with_reducible apply And.intro); focus omega) | (refine z8 hK ?_; clear hK; simp only [go_sem, *]) | simp only [z7, z6, go_sem, *])
 refine u1 ?_
 refine X7 (t := true) rfl (by simp only [go_sem]) (fun _ => ?_) (fun h => by cases h)
 refine r6 rfl ?_
 simp only [go_sem]
 repeat' (first | (refine Qr (ops := _ :: _) rfl ?_; try intro _ hK; try simp only [go_sem, *]) | (refine Qi rfl rfl rfl rfl ?_ ?_ <;> (intro hb; (try intro _ hK); have hc := hb; try simp only [go_sem] at hc; simp only [go_sem, *])) | (refine Qb ?_ ?_; focus kernel_rfl) | ((with_reducible apply And.intro); focus omega) | (refine z8 hK ?_; clear hK; simp only [go_sem, *]) | simp only [z7, z6, go_sem, *])
 refine u1 ?_
 simp only [z6, go_sem]
 refine ⟨rfl, [some 0, some 1, some 2, some 3], [], ?_⟩
 simp only [go_sem, *]
theorem zHf (fn : FuncId) (b c : List Str) (hb1 : b.length ≤ 1000) (hc1 : c.length ≤ 1000) : l7 prog [y2 c] [.loopo (l4 fn) [(3, .ptr 1 0), (6, .ptr 2 0), (7, .ptr 3 0)] (some none), .box [f0], .box [y2 b], .box [bV true]] (bV true)
  [.loopo (l4 fn) [(3, .ptr 1 0), (6, .ptr 2 0), (7, .ptr 3 0)] (some none), .box [f0], .box [y2 (if zKw c b < 0 then c else b)], .box [bV true]] := by
 have hca : u0 prog 126 = true := by kernel_rfl
 have sc := zGD c b (by omega) (by omega)
 refine V7 (L := l4 fn) (env := [(3, .ptr 1 0), (6, .ptr 2 0), (7, .ptr 3 0)]) (j := none) rfl rfl (fun E l hE => ?_)
 refine r6 rfl ?_
 simp only [l4, j3, go_sem]
 repeat' (first | (refine Qr (ops := _ :: _) rfl ?_; try intro _ hK; try simp only [go_sem, *]) | (refine Qi rfl rfl rfl rfl ?_ ?_ <;> (intro hb; (try intro _ hK); have hc := hb; try simp only [go_sem] at hc; simp only [go_sem, *])) | (refine Qb ?_ ?_; focus kernel_rfl) | ((with_reducible apply And.intro); focus omega) | (refine z8 hK ?_; clear hK; simp only [go_sem, *]) | simp only [z7, z6, go_sem, *])
 refine u1 ?_
 refine ⟨by simp only [go_sem], ?_⟩
 refine V1 (id := 1) rfl ?_
 refine c4 rfl ?_
 refine r6 rfl ?_
 simp only [go_sem]
 repeat' (first | (refine Qr (ops := _ :: _) rfl ?_; try intro _ hK; try simp only [go_sem, *]) | (refine Qi rfl rfl rfl rfl ?_ ?_ <;> (intro hb; (try intro _ hK); have hc := hb; try simp only [go_sem] at hc; simp only [go_sem, *])) | (refine Qb ?_ ?_; focus kernel_rfl) | ((with_reducible apply And.intro); focus omega) | (refine z8 hK ?_; clear hK; simp only [go_sem, *]) | simp only [z7, z6, go_sem, *])
 refine y1 sc ?_
 simp only [go_sem]
 repeat' (first | (refine Qr (ops := _ :: _) rfl ?_; try intro _ hK; try simp only [go_sem, *]) | (refine Qi rfl rfl rfl rfl ?_ ?_ <;> (intro hb; (try intro _ hK); have hc := hb; try simp only [go_sem] at hc; simp only [go_sem, *])) | (refine Qb ?_ ?_; focus kernel_rfl) | ((with_reducible apply And.intro); focus omega) | (refine z8 hK ?_; clear hK; simp only [go_sem, *]) | simp only [z7, z6, go_sem, *])
 refine u1 ?_
 refine X7 (t := decide (zKw c b < 0)) rfl (by simp only [go_sem]) (fun h => ?_) (fun h => ?_)
 ·rw [if_pos (by simpa using h)]
  refine r6 rfl ?_
  simp only [go_sem]
  repeat' (first | (refine Qr (ops := _ :: _) rfl ?_; try intro _ hK; try simp only [go_sem, *]) | (refine Qi rfl rfl rfl rfl ?_ ?_ <;> (intro hb; (try intro _ hK); have hc := hb; try simp only [go_sem] at hc; simp only [go_sem, *])) | (refine Qb ?_ ?_; focus kernel_rfl) | ((with_reducible apply And.intro); focus omega) | (refine z8 hK ?_; clear hK; simp only [go_sem, *]) | simp only [z7, z6, go_sem, *])
  refine u1 ?_
  simp only [z6, go_sem]
  refine ⟨rfl, [some 0, some 1, some 2, some 3], [], ?_⟩
  simp only [go_sem, *]
 ·rw [if_neg (by simpa using h)]
  refine N7 rfl ?_
  simp only [z6, go_sem]
  refine ⟨rfl, [some 0, some 1, some 2, some 3], [], ?_⟩
  simp only [go_sem, *]
theorem zHd (fn : FuncId) (B : Option (List Str)) (c : List Str) (hb1 : ∀ b, B = some b → b.length ≤ 1000) (hc1 : c.length ≤ 1000) : l7 prog [y2 c] [.loopo (l4 fn) [(3, .ptr 1 0), (6, .ptr 2 0), (7, .ptr 3 0)] (some none), .box [f0], .box [u2 B], .box [bV B.isSome]] (bV true)
  [.loopo (l4 fn) [(3, .ptr 1 0), (6, .ptr 2 0), (7, .ptr 3 0)] (some none), .box [f0], .box [u2 (y4 zKw B [c])], .box [bV (y4 zKw B [c]).isSome]] := by
 cases B with
 | none => exact zHe fn c
 | some b =>
  have := zHf fn b c (hb1 b rfl) hc1
  rw [zAW]
  by_cases h : zKw c b < 0
  ·simp only [if_pos h] at this ⊢; exact this
  ·simp only [if_neg h] at this ⊢; exact this
end Go.Abs

namespace Go.Abs
open Go Go.Proofs Tryz
attribute [local irreducible] q9 Hold y3
noncomputable def zAi : Code := sub [0, 1, 0, 1, 1, 1, 1] (Y3 Tryz.f147)
noncomputable def T4 (fn : FuncId) : LoopK := ⟨fn, #[34], R1 zAi, R2 zAi, 45⟩
abbrev CS := List Str × Option (List Str)
structure ChainD where
 many : Int
 to : Str
 l : List Rule
 fnG : FuncId
 fnF : FuncId
noncomputable def t6 (o : Nat) (D : ChainD) (chain : List Str) (S : CS) : List AObj :=
 [.loopo (T4 D.fnG) [(11, .ptr (o + 11) 0), (10, .ptr (o + 10) 0), (6, .ptr (o + 5) 0), (9, .ptr (o + 13) 0)] (some none), .box [iV D.many], .box [sV D.to], .box [.yld (o + 6)], .box [x6 D.l],
  .box [.fn 147 [.ptr (o + 1) 0, .ptr (o + 2) 0, .ptr (o + 3) 0, .ptr (o + 4) 0, .ptr (o + 5) 0]],
  .loopo (l4 D.fnF) [(3, .ptr (o + 7) 0), (6, .ptr (o + 8) 0), (7, .ptr (o + 9) 0)] (some none), .box [f0], .box [u2 S.2], .box [bV S.2.isSome], .box [y2 chain], .box [.mp (o + 12)], .mapo (S.1.map zKz) (S.1.map fun _ => bV true), .box [bV false]]
structure UsesD where
 k : Str
 u : Str
 v : Str
 i : Nat
 j : Nat
 l : List Rule
 fnU : FuncId
abbrev D9 (u v : Str) : List AV := [.agg [sV u, sV v], .agg [sV v, sV u]]
noncomputable def zCJ : Code := sub [0, 1, 1, 0, 0, 1, 1, 0, 0, 1, 1, 0, 0, 1, 1, 0, 0, 1, 1] (Y3 Tryz.f170)
noncomputable def H0 (fn : FuncId) : LoopK := ⟨fn, #[37], R1 zCJ, R2 zCJ, 44⟩
noncomputable def Q9 (D : ChainD) (chain : List Str) (U : UsesD) (S : CS) : List AObj :=
 .loopo (H0 U.fnU) [(3, .ptr 15 0), (2, .ptr 16 0), (25, .own 17 2 0 2), (27, iV U.j), (26, iV 2), (11, iV U.i), (10, iV U.l.length), (9, x6 U.l)] (some none) :: (t6 1 D chain S ++ [.box [.yld 1], .box [sV U.k], .row 2 (D9 U.u U.v)])
attribute [go_sem] t6 Q9
theorem zFZ {k a b : Str} {i : Nat} (h : i ≤ k.length) : Q3 k a b i = (if a.isPrefixOf (k.drop i) = true ∧ y8 (k.take i ++ b ++ k.drop (i + a.length)) 1 12 = true then [k.take i ++ b ++ k.drop (i + a.length)] else []) ++ Q3 k a b (i + 1) := by
 unfold Q3
 rw [show k.length + 1 - i = (k.length + 1 - (i + 1)) + 1 by omega, List.range'_succ, List.flatMap_cons]
theorem zFY {k a b : Str} {i : Nat} (h : k.length < i) : Q3 k a b i = [] := by
 unfold Q3
 rw [show k.length + 1 - i = 0 by omega]; rfl
theorem zBc {a x : Str} (h : a.isPrefixOf x = true) : a.length ≤ x.length := (List.isPrefixOf_iff_prefix.1 h).length_le
theorem zGx (D : ChainD) (chain : List Str) (U : UsesD) (zK2 : CS → Prop) (step : CS → Str → CS)
  (hy : ∀ S s, zK2 S → y8 s 1 12 = true → l7 prog [sV s] (Q9 D chain U S) (bV true) (Q9 D chain U (step S s))) (hg : ∀ S s, zK2 S → y8 s 1 12 = true → zK2 (step S s))
  (k a b : Str) (hk1 : k.length ≤ 1000) (ha : a.length ≤ 1000) (hb1 : b.length ≤ 1000) (S0 : CS) (hS : zK2 S0) :
  zKq prog 190 [.yld 0, .ptr 18 0, .ptr 19 0, .ptr 20 0] (Q9 D chain U S0 ++ [.box [sV k], .box [sV a], .box [sV b]]) (.tup []) (Q9 D chain U ((p6 k a b).foldl step S0) ++ [.box [sV k], .box [sV a], .box [sV b]]) := by
 obtain ⟨T, hT⟩ : ∃ T, (p6 k a b).foldl step S0 = T := ⟨_, rfl⟩
 rw [hT]
 have h0 : (Q3 k a b 0).foldl step S0 = T := hT
 clear hT
 simp only [Q9, t6, List.cons_append, List.nil_append]
 refine q7 func190 rfl (fun E hE => ?_); simp only [go_sem, ntmps190]
 repeat' (first | (refine Qr rfl ?_; try intro _ hK; try simp only [go_sem, *]) | (refine Qi rfl rfl rfl rfl ?_ ?_ <;> (intro hb; (try intro _ hK); have hc := hb; try simp only [go_sem] at hc; simp only [go_sem, *])) | refine Qh rfl ?_ | (refine Qc rfl rfl ?_ ?_ <;> (intro hb; have hc := hb; try simp only [go_sem] at hc)) | refine q6 rfl ?_ | (refine Qb ?_ ?_; focus kernel_rfl) | ((with_reducible apply And.intro); focus omega) | (refine z8 hK ?_; clear hK; simp only [go_sem, *]) | simp only [z7, z6, go_sem, *])
 refine b7 rfl (k.length + 1) (fun i (S : CS) => (Q3 k a b i).foldl step S = T ∧ zK2 S) 40 (fun i S => [(10, iV i), (9, iV ((k.length + 1 : Nat) : Int)), (0, .yld 0), (1, .ptr 18 0), (2, .ptr 19 0), (3, .ptr 20 0)]) (fun i S => Q9 D chain U S ++ [.box [sV k], .box [sV a], .box [sV b]]) [some 0, some 1, some 2, some 3, some 4, some 5, some 6, some 7, some 8, some 9, some 10, some 11, some 12, some 13, some 14, some 15, some 16, some 17, some 18, some 19, some 20] [] (S0) (by exact ⟨h0, hS⟩) ?_; intro i S hi hP
 obtain ⟨hP, hG⟩ := hP
 by_cases hi2 : i ≤ k.length
 ·have hp := zGM (k.drop i) a (by simp; omega) (by omega)
  rw [zFZ hi2] at hP
  by_cases q : a.isPrefixOf (k.drop i) = true
  ·rw [q] at hp
   have hle := zBc q
   have hil : i + a.length ≤ k.length := by simp at hle; omega
   have hwl : IntKind.i64.wrap ((i : Int) + (a.length : Int)) = ((i + a.length : Nat) : Int) := by rw [wrap_i64 (by omega) (by omega)]; omega
   obtain ⟨t, ht⟩ : ∃ t, k.take i ++ b ++ k.drop (i + a.length) = t := ⟨_, rfl⟩
   have htl : t.length ≤ 3000 := by rw [← ht]; simp; omega
   have sl := C8 t 1 12 (by omega)
   rw [ht] at hP
   by_cases ql : y8 t 1 12 = true
   ·rw [if_pos ⟨q, ql⟩] at hP
    have hstep := hP
    rw [List.foldl_append] at hstep
    have hyt := hy S t hG ql
    have hgt := hg S t hG ql
    rw [ql] at sl
    clear q hle hP hg hy
    repeat' (first | ((refine M3 5 rfl rfl rfl ?_; simp only [List.take_succ_cons, List.take_zero, List.drop_succ_cons, List.drop_zero])) | (refine Qr rfl ?_; try intro _ hK; try simp only [go_sem, *]) | (refine Qi rfl rfl rfl rfl ?_ ?_ <;> (intro hb; (try intro _ hK); have hc := hb; try simp only [go_sem] at hc; simp only [go_sem, *])) | refine Qh rfl ?_ | refine Qd rfl (by kernel_rfl) ?_ | (refine Qc rfl rfl ?_ ?_ <;> (intro hb; have hc := hb; try simp only [go_sem] at hc)) | refine q6 rfl ?_ | (refine Qb ?_ ?_; focus kernel_rfl) | ((first | refine y1 (hp) ?_ | refine y1 (sl) ?_); simp only [go_sem, *]) | ((with_reducible apply And.intro); focus omega) | (refine z8 hK ?_; clear hK; simp only [go_sem, *]) | simp only [z7, z6, go_sem, *])
    all_goals first | contradiction | omega | skip
    refine zAl rfl rfl (by simp only [go_sem]) ?_
    refine H1 [0, 1, 2, 3, 4, 5, 6, 7, 8, 9, 10, 11, 12, 13, 14, 15, 16, 17] [] hyt rfl rfl (by simp) (by simp only [go_sem]) (by simp only [go_sem]) (by simp) (.inl rfl) (by simp [go_sem]) (by simp [go_sem]) ?_
    simp only [go_sem]
    repeat' (first | (refine Qr rfl ?_; try intro _ hK; try simp only [go_sem, *]) | (refine Qi rfl rfl rfl rfl ?_ ?_ <;> (intro hb; (try intro _ hK); have hc := hb; try simp only [go_sem] at hc; simp only [go_sem, *])) | refine Qh rfl ?_ | refine Qd rfl (by kernel_rfl) ?_ | (refine Qc rfl rfl ?_ ?_ <;> (intro hb; have hc := hb; try simp only [go_sem] at hc)) | refine q6 rfl ?_ | (refine Qb ?_ ?_; focus kernel_rfl) | ((with_reducible apply And.intro); focus omega) | (refine z8 hK ?_; clear hK; simp only [go_sem, *]) | simp only [z7, z6, go_sem, *])
    all_goals first | contradiction | omega | skip
    exact o8 (i' := i + 1) [some 0, some 1, some 2, some 3, some 4, some 5, some 6, some 7, some 8, some 9, some 10, some 11, some 12, some 13, some 14, some 15, some 16, some 17, some 18, some 19, some 20] [] (step S t) (by exact ⟨hstep, hgt⟩)
   ·have ql2 : y8 t 1 12 = false := (Bool.not_eq_true _).mp ql
    rw [if_neg (fun h => ql h.2), List.nil_append] at hP
    rw [ql2] at sl
    clear q hle hg hy ql ql2
    repeat' (first | ((refine M3 5 rfl rfl rfl ?_; simp only [List.take_succ_cons, List.take_zero, List.drop_succ_cons, List.drop_zero])) | (refine Qr rfl ?_; try intro _ hK; try simp only [go_sem, *]) | (refine Qi rfl rfl rfl rfl ?_ ?_ <;> (intro hb; (try intro _ hK); have hc := hb; try simp only [go_sem] at hc; simp only [go_sem, *])) | refine Qh rfl ?_ | refine Qd rfl (by kernel_rfl) ?_ | (refine Qc rfl rfl ?_ ?_ <;> (intro hb; have hc := hb; try simp only [go_sem] at hc)) | refine q6 rfl ?_ | (refine Qb ?_ ?_; focus kernel_rfl) | ((first | refine y1 (hp) ?_ | refine y1 (sl) ?_); simp only [go_sem, *]) | ((with_reducible apply And.intro); focus omega) | (refine z8 hK ?_; clear hK; simp only [go_sem, *]) | simp only [z7, z6, go_sem, *])
    all_goals first | contradiction | omega | skip
    refine zAj rfl rfl (by simp only [go_sem]) ?_
    repeat' (first | (refine Qr rfl ?_; try intro _ hK; try simp only [go_sem, *]) | (refine Qi rfl rfl rfl rfl ?_ ?_ <;> (intro hb; (try intro _ hK); have hc := hb; try simp only [go_sem] at hc; simp only [go_sem, *])) | refine Qh rfl ?_ | refine Qd rfl (by kernel_rfl) ?_ | (refine Qc rfl rfl ?_ ?_ <;> (intro hb; have hc := hb; try simp only [go_sem] at hc)) | refine q6 rfl ?_ | (refine Qb ?_ ?_; focus kernel_rfl) | ((with_reducible apply And.intro); focus omega) | (refine z8 hK ?_; clear hK; simp only [go_sem, *]) | simp only [z7, z6, go_sem, *])
    all_goals first | contradiction | omega | skip
    exact o8 (i' := i + 1) [some 0, some 1, some 2, some 3, some 4, some 5, some 6, some 7, some 8, some 9, some 10, some 11, some 12, some 13, some 14, some 15, some 16, some 17, some 18, some 19, some 20] [] (S) (by exact ⟨hP, hG⟩)
  ·have q2 : a.isPrefixOf (k.drop i) = false := (Bool.not_eq_true _).mp q
   rw [if_neg (fun h => q h.1), List.nil_append] at hP
   rw [q2] at hp
   clear q q2
   repeat' (first | (refine Qr rfl ?_; try intro _ hK; try simp only [go_sem, *]) | (refine Qi rfl rfl rfl rfl ?_ ?_ <;> (intro hb; (try intro _ hK); have hc := hb; try simp only [go_sem] at hc; simp only [go_sem, *])) | refine Qh rfl ?_ | refine Qd rfl (by kernel_rfl) ?_ | (refine Qc rfl rfl ?_ ?_ <;> (intro hb; have hc := hb; try simp only [go_sem] at hc)) | refine q6 rfl ?_ | (refine Qb ?_ ?_; focus kernel_rfl) | (refine y1 (hp) ?_; simp only [go_sem, *]) | ((with_reducible apply And.intro); focus omega) | (refine z8 hK ?_; clear hK; simp only [go_sem, *]) | simp only [z7, z6, go_sem, *])
   all_goals first | contradiction | omega | skip
   exact o8 (i' := i + 1) [some 0, some 1, some 2, some 3, some 4, some 5, some 6, some 7, some 8, some 9, some 10, some 11, some 12, some 13, some 14, some 15, some 16, some 17, some 18, some 19, some 20] [] (S) (by exact ⟨hP, hG⟩)
 ·rw [zFY (by omega)] at hP
  have hP : S = T := hP
  subst hP
  repeat' (first | (refine Qr rfl ?_; try intro _ hK; try simp only [go_sem, *]) | (refine Qi rfl rfl rfl rfl ?_ ?_ <;> (intro hb; (try intro _ hK); have hc := hb; try simp only [go_sem] at hc; simp only [go_sem, *])) | refine Qh rfl ?_ | refine Qd rfl (by kernel_rfl) ?_ | (refine Qc rfl rfl ?_ ?_ <;> (intro hb; have hc := hb; try simp only [go_sem] at hc)) | refine q6 rfl ?_ | (refine Qb ?_ ?_; focus kernel_rfl) | ((with_reducible apply And.intro); focus omega) | (refine z8 hK ?_; clear hK; simp only [go_sem, *]) | simp only [z7, z6, go_sem, *])
  all_goals first | contradiction | omega | skip
  refine ⟨[], [some 0, some 1, some 2, some 3, some 4, some 5, some 6, some 7, some 8, some 9, some 10, some 11, some 12, some 13, some 14, some 15, some 16, some 17, some 18, some 19, some 20], [], trivial, ?_⟩
  simp only [go_sem, l5, *]
end Go.Abs

namespace Go.Abs
open Go Go.Proofs Tryz
attribute [local irreducible] q9 Hold y3
theorem zGw (k a b : Str) : zKq prog 171 [sV k, sV a, sV b] [] (.fn 190 [.ptr 0 0, .ptr 1 0, .ptr 2 0]) [.box [sV k], .box [sV a], .box [sV b]] := by
 refine q7 func171 rfl (fun E hE => ?_); simp only [go_sem, ntmps171]
 repeat' (first | (refine Qr rfl ?_; try intro _ hK; try simp only [go_sem, *]) | refine Qh rfl ?_ | (refine Qc rfl rfl ?_ ?_ <;> (intro hb; have hc := hb; try simp only [go_sem] at hc)) | refine q6 rfl ?_ | ((with_reducible apply And.intro); focus omega) | (refine z8 hK ?_; clear hK; simp only [go_sem, *]) | simp only [z7, z6, go_sem, *])
 refine ⟨[_], [some 0, some 1, some 2], [], ⟨rfl, trivial⟩, ?_⟩
 simp only [go_sem, *]
theorem zG6 (k : Str) (l : List Rule) : zKq prog 149 [sV k, x6 l] [] (.fn 170 [.ptr 0 0, .ptr 1 0]) [.box [x6 l], .box [sV k]] := by
 refine q7 func149 rfl (fun E hE => ?_); simp only [go_sem, ntmps149]
 repeat' (first | (refine Qr rfl ?_; try intro _ hK; try simp only [go_sem, *]) | refine Qh rfl ?_ | (refine Qc rfl rfl ?_ ?_ <;> (intro hb; have hc := hb; try simp only [go_sem] at hc)) | refine q6 rfl ?_ | ((with_reducible apply And.intro); focus omega) | (refine z8 hK ?_; clear hK; simp only [go_sem, *]) | simp only [z7, z6, go_sem, *])
 refine ⟨[_], [some 1, some 0], [], ⟨rfl, trivial⟩, ?_⟩
 simp only [go_sem, *]
theorem zHl (D : ChainD) (chain : List Str) (U : UsesD) (S S' : CS) (s : Str) (hyG : l7 prog [sV s] (t6 0 D chain S) (bV true) (t6 0 D chain S')) : l7 prog [sV s] (Q9 D chain U S) (bV true) (Q9 D chain U S') := by
 refine V7 (L := H0 U.fnU) (env := [(3, .ptr 15 0), (2, .ptr 16 0), (25, .own 17 2 0 2), (27, iV U.j), (26, iV 2), (11, iV U.i), (10, iV U.l.length), (9, x6 U.l)]) (j := none) rfl rfl (fun E l hE => ?_)
 refine r6 rfl ?_
 simp only [H0, j3, go_sem]
 repeat' (first | (refine Qr (ops := _ :: _) rfl ?_; try intro _ hK; try simp only [go_sem, *]) | (refine Qi rfl rfl rfl rfl ?_ ?_ <;> (intro hb; (try intro _ hK); have hc := hb; try simp only [go_sem] at hc; simp only [go_sem, *])) | (refine Qb ?_ ?_; focus kernel_rfl) | ((with_reducible apply And.intro); focus omega) | (refine z8 hK ?_; clear hK; simp only [go_sem, *]) | simp only [z7, z6, go_sem, *])
 refine u1 ?_
 refine ⟨by simp only [go_sem], ?_⟩
 refine V1 (id := 5) rfl ?_
 refine c4 rfl ?_
 refine zFV 2 rfl rfl rfl ?_
 simp only [List.take_succ_cons, List.take_zero, List.drop_succ_cons, List.drop_zero, go_sem]
 repeat' (first | (refine Qr (ops := _ :: _) rfl ?_; try intro _ hK; try simp only [go_sem, *]) | (refine Qi rfl rfl rfl rfl ?_ ?_ <;> (intro hb; (try intro _ hK); have hc := hb; try simp only [go_sem] at hc; simp only [go_sem, *])) | (refine Qb ?_ ?_; focus kernel_rfl) | ((with_reducible apply And.intro); focus omega) | (refine z8 hK ?_; clear hK; simp only [go_sem, *]) | simp only [z7, z6, go_sem, *])
 refine u1 ?_
 refine zAk rfl ?_
 refine ⟨by show 40 < 44; omega, ?_⟩
 simp only [go_sem]
 refine H1 [1, 2, 3, 4, 5, 6, 7, 8, 9, 10, 11, 12, 13, 14] [] hyG rfl rfl (by simp) (by simp only [go_sem]) (by simp only [go_sem]) (by simp) (.inl rfl) (by simp [go_sem]) (by simp [go_sem]) ?_
 simp only [go_sem]
 repeat' (first | (refine Qr (ops := _ :: _) rfl ?_; try intro _ hK; try simp only [go_sem, *]) | (refine Qi rfl rfl rfl rfl ?_ ?_ <;> (intro hb; (try intro _ hK); have hc := hb; try simp only [go_sem] at hc; simp only [go_sem, *])) | (refine Qb ?_ ?_; focus kernel_rfl) | ((with_reducible apply And.intro); focus omega) | (refine z8 hK ?_; clear hK; simp only [go_sem, *]) | simp only [z7, z6, go_sem, *])
 refine u1 ?_
 refine X7 (t := false) rfl (by simp only [go_sem]) (fun h => by cases h) (fun _ => ?_)
 refine N7 rfl ?_
 simp only [z6, go_sem]
 refine ⟨rfl, [some 0, some 1, some 2, some 3, some 4, some 5, some 6, some 7, some 8, some 9, some 10, some 11, some 12, some 13, some 14, some 15, some 16, some 17], [], ?_⟩
 simp only [go_sem, *]
theorem zHO {l : List Rule} {k : Str} {i : Nat} (h : i < l.length) : u5 (l.drop i) k = (p6 k (l.getD i default).src (l.getD i default).dst ++ p6 k (l.getD i default).dst (l.getD i default).src) ++ u5 (l.drop (i + 1)) k := by
 rw [o0 h]; rfl
def S6 (k u v : Str) : Nat → List Str
 | 0 => p6 k u v ++ p6 k v u
 | 1 => p6 k v u
 | _ => []
theorem zFO (k u v : Str) {j : Nat} (h : j < 2) : ∃ x y : Str, ([.agg [sV u, sV v], .agg [sV v, sV u]] : List AV).getD j .any = .agg [sV x, sV y] ∧ S6 k u v j = p6 k x y ++ S6 k u v (j + 1) ∧ (x = u ∧ y = v ∨ x = v ∧ y = u) := by
 rcases (by omega : j = 0 ∨ j = 1) with rfl | rfl
 ·exact ⟨u, v, rfl, rfl, .inl ⟨rfl, rfl⟩⟩
 ·exact ⟨v, u, rfl, by simp [S6], .inr ⟨rfl, rfl⟩⟩
theorem zAh {zK2 : CS → Prop} {step : CS → Str → CS} (hg : ∀ S s, zK2 S → y8 s 1 12 = true → zK2 (step S s)) : ∀ (L : List Str) (S : CS), (∀ s, s ∈ L → y8 s 1 12 = true) → zK2 S → zK2 (L.foldl step S)
 | [], _, _, h => h
 | x :: r, S, hl, h => zAh hg r _ (fun s hs => hl s (by simp [hs])) (hg S x h (hl x (by simp)))
theorem zFa {k a b s : Str} (h : s ∈ p6 k a b) : y8 s 1 12 = true := by
 obtain ⟨_, _, _, h, _⟩ := mem_replacedN.1 h; exact h
theorem zG7 (D : ChainD) (chain : List Str) (zK2 : CS → Prop) (step : CS → Str → CS)
    (hy : ∀ S s, zK2 S → y8 s 1 12 = true → l7 prog [sV s] (t6 0 D chain S) (bV true) (t6 0 D chain (step S s))) (hg : ∀ S s, zK2 S → y8 s 1 12 = true → zK2 (step S s))
    (k : Str) (l : List Rule) (hk1 : k.length ≤ 1000) (hl : l.length ≤ 1000) (hr : ∀ r, r ∈ l → r.src.length ≤ 1000 ∧ r.dst.length ≤ 1000) (S0 : CS) (hS : zK2 S0) :
    zKq prog 170 [.yld 0, .ptr 14 0, .ptr 15 0] (t6 0 D chain S0 ++ [.box [x6 l], .box [sV k]]) (.tup []) (t6 0 D chain ((u5 l k).foldl step S0) ++ [.box [x6 l], .box [sV k]]) := by
  obtain ⟨T, hT⟩ : ∃ T, (u5 l k).foldl step S0 = T := ⟨_, rfl⟩
  rw [hT]
  have h0 : (u5 (l.drop 0) k).foldl step S0 = T := hT
  clear hT
  simp only [t6, List.cons_append, List.nil_append]
  refine q7 func170 rfl (fun E hE => ?_); simp only [go_sem, ntmps170]
  repeat' (first | (refine Qr rfl ?_; try intro _ hK; try simp only [go_sem, *]) | refine Qh rfl ?_ | (refine Qc rfl rfl ?_ ?_ <;> (intro hb; have hc := hb; try simp only [go_sem] at hc)) | refine q6 rfl ?_ | ((with_reducible apply And.intro); focus omega) | (refine z8 hK ?_; clear hK; simp only [go_sem, *]) | simp only [z7, z6, go_sem, *])
  refine b7 rfl (l.length) (fun i (S : CS) => (u5 (l.drop i) k).foldl step S = T ∧ zK2 S) 44 (fun i S => [(11, iV i), (10, iV l.length), (9, x6 l), (3, .ptr 16 0), (2, .ptr 15 0)]) (fun i S => t6 0 D chain S ++ [.box [x6 l], .box [sV k], .box [.yld 0]]) [some 0, some 1, some 2, some 3, some 4, some 5, some 6, some 7, some 8, some 9, some 10, some 11, some 12, some 13, some 14, some 15, some 16] [] (S0) (by exact ⟨h0, hS⟩) ?_; intro i S hi hP
  obtain ⟨hP, hG⟩ := hP
  by_cases hi2 : i < l.length
  · have hrl := hr _ (l9 hi2)
    rw [zHO hi2] at hP
    generalize hsu : (l.getD i default).src = u at *
    generalize hsv : (l.getD i default).dst = v at *
    rw [List.foldl_append] at hP
    have hQ0 : (u5 (l.drop (i + 1)) k).foldl step ((S6 k u v 0).foldl step S) = T := hP
    clear hP hr
    repeat' (first | (refine Qr rfl ?_; try intro _ hK; try simp only [go_sem, *]) | refine Qh rfl ?_ | (refine Qc rfl rfl ?_ ?_ <;> (intro hb; have hc := hb; try simp only [go_sem] at hc)) | refine q6 rfl ?_ | ((with_reducible apply And.intro); focus omega) | (refine z8 hK ?_; clear hK; simp only [go_sem, *]) | simp only [z7, z6, go_sem, *])
    refine b7 rfl (2) (fun j (S2 : CS) => (u5 (l.drop (i + 1)) k).foldl step ((S6 k u v j).foldl step S2) = T ∧ zK2 S2) 44 (fun j S2 => [(27, iV j), (26, iV 2), (25, .own 17 2 0 2), (11, iV i), (10, iV l.length), (9, x6 l), (3, .ptr 16 0), (2, .ptr 15 0)]) (fun j S2 => t6 0 D chain S2 ++ [.box [x6 l], .box [sV k], .box [.yld 0], .row 2 (D9 u v)]) [some 0, some 1, some 2, some 3, some 4, some 5, some 6, some 7, some 8, some 9, some 10, some 11, some 12, some 13, some 14, some 15, some 16, some 18] [] (S) (by exact ⟨hQ0, hG⟩) ?_; intro j S2 hj hQ
    obtain ⟨hQ, hG2⟩ := hQ
    by_cases hj2 : j < 2
    · obtain ⟨x, y, hxy, hst, hlen⟩ := zFO k u v hj2
      rw [hst, List.foldl_append] at hQ
      have sr := zGw k x y
      have hxl : x.length ≤ 1000 ∧ y.length ≤ 1000 := by
        rcases hlen with ⟨rfl, rfl⟩ | ⟨rfl, rfl⟩
        · exact hrl
        · exact ⟨hrl.2, hrl.1⟩
      have s1 := fun fn => zGx D chain ⟨k, u, v, i, j, l, fn⟩ zK2 step (fun S s h1 h2 => zHl D chain _ S _ s (hy S s h1 h2)) hg k x y hk1 hxl.1 hxl.2 S2 hG2
      have hG3 := zAh hg (p6 k x y) S2 (fun s hs => zFa hs) hG2
      obtain ⟨S3, hS3⟩ : ∃ S3, (p6 k x y).foldl step S2 = S3 := ⟨_, rfl⟩
      rw [hS3] at hQ hG3
      simp only [hS3] at s1
      clear hlen hst hS3 hy hg hrl hxl hG2
      repeat' (first | (refine Qr rfl ?_; try intro _ hK; try simp only [go_sem, *]) | refine Qh rfl ?_ | (refine Qc rfl rfl ?_ ?_ <;> (intro hb; have hc := hb; try simp only [go_sem] at hc)) | refine q6 rfl ?_ | ((with_reducible apply And.intro); focus omega) | (refine z8 hK ?_; clear hK; simp only [go_sem, *]) | simp only [z7, z6, go_sem, *])
      refine r7 sr ?_ (hu := by (intro j hj; simp only [List.length_cons, List.length_nil] at hj; (obtain rfl | rfl | rfl : j = 0 ∨ j = 1 ∨ j = 2 := by omega) <;> simp [go_sem]))
      simp only [go_sem, *]
      repeat' (first | (refine Qr rfl ?_; try intro _ hK; try simp only [go_sem, *]) | refine Qh rfl ?_ | (refine Qc rfl rfl ?_ ?_ <;> (intro hb; have hc := hb; try simp only [go_sem] at hc)) | refine q6 rfl ?_ | ((with_reducible apply And.intro); focus omega) | (refine z8 hK ?_; clear hK; simp only [go_sem, *]) | simp only [z7, z6, go_sem, *])
      refine Z7 (N := 44) (env := [(36, .fn 190 [.ptr 18 0, .ptr 19 0, .ptr 20 0]), (27, iV j), (26, iV 2), (25, .own 17 2 0 2), (11, iV i), (10, iV l.length), (9, x6 l), (3, .ptr 16 0), (2, .ptr 15 0)]) (As := t6 0 D chain S2 ++ [.box [x6 l], .box [sV k], .box [.yld 0], .row 2 (D9 u v), .box [sV k], .box [sV x], .box [sV y]]) [some 0, some 1, some 2, some 3, some 4, some 5, some 6, some 7, some 8, some 9, some 10, some 11, some 12, some 13, some 14, some 15, some 16, some 17, some 19, some 20, some 21] [] (by (simp only [Weak, go_sem, List.map_append, List.map_set, *] <;> (try simp (disch := omega) only [u9]) <;> (try simp) <;> (try omega))) ?_
      refine I7 (f := 190) (caps := [.ptr 18 0, .ptr 19 0, .ptr 20 0]) rfl (by simp only [go_sem]) (by kernel_rfl) (nx := 21) (by simp only [go_sem]) (fun fn => ⟨22, ?_⟩)
      refine w9 [21, 0, 1, 2, 3, 4, 5, 6, 7, 8, 9, 10, 11, 12, 13, 16, 15, 17, 18, 19, 20] [] (s1 fn) (by simp) (by simp only [go_sem]) ?_ (by simp) (.inl rfl) (by simp [go_sem]) (by simp [go_sem]) ?_
      · simp only [go_sem, *]
        rfl
      · simp only [go_sem, *]
        refine ⟨H0 fn, [(3, .ptr 16 0), (2, .ptr 15 0), (25, .own 17 2 0 2), (27, iV j), (26, iV 2), (11, iV i), (10, iV l.length), (9, x6 l)], none, by simp only [go_sem], ?_⟩
        simp only [go_sem]
        repeat' (first | (refine Qr rfl ?_; try intro _ hK; try simp only [go_sem, *]) | refine Qh rfl ?_ | (refine Qc rfl rfl ?_ ?_ <;> (intro hb; have hc := hb; try simp only [go_sem] at hc)) | refine q6 rfl ?_ | ((with_reducible apply And.intro); focus omega) | (refine z8 hK ?_; clear hK; simp only [go_sem, *]) | simp only [z7, z6, go_sem, *])
        all_goals first | contradiction | omega | skip
        exact o8 (i' := j + 1) [some 0, some 1, some 2, some 3, some 4, some 5, some 6, some 7, some 8, some 9, some 10, some 11, some 12, some 13, some 14, some 15, some 16, some 17] [] (S3) (by exact ⟨hQ, hG3⟩)
    · have e2 : S6 k u v j = [] := by
        rcases (by omega : j = 2) with rfl
        rfl
      rw [e2] at hQ
      have hQ : (u5 (l.drop (i + 1)) k).foldl step S2 = T := hQ
      repeat' (first | (refine Qr rfl ?_; try intro _ hK; try simp only [go_sem, *]) | refine Qh rfl ?_ | (refine Qc rfl rfl ?_ ?_ <;> (intro hb; have hc := hb; try simp only [go_sem] at hc)) | refine q6 rfl ?_ | ((with_reducible apply And.intro); focus omega) | (refine z8 hK ?_; clear hK; simp only [go_sem, *]) | simp only [z7, z6, go_sem, *])
      all_goals first | contradiction | omega | skip
      exact o8 (i' := i + 1) [some 0, some 1, some 2, some 3, some 4, some 5, some 6, some 7, some 8, some 9, some 10, some 11, some 12, some 13, some 14, some 15, some 16] [] (S2) (by exact ⟨hQ, hG2⟩)
  · have e : l.drop i = [] := f5 (by omega)
    rw [e] at hP
    have hP : S = T := hP
    subst hP
    repeat' (first | (refine Qr rfl ?_; try intro _ hK; try simp only [go_sem, *]) | refine Qh rfl ?_ | (refine Qc rfl rfl ?_ ?_ <;> (intro hb; have hc := hb; try simp only [go_sem] at hc)) | refine q6 rfl ?_ | ((with_reducible apply And.intro); focus omega) | (refine z8 hK ?_; clear hK; simp only [go_sem, *]) | simp only [z7, z6, go_sem, *])
    all_goals first | contradiction | omega | skip
    refine ⟨[], [some 0, some 1, some 2, some 3, some 4, some 5, some 6, some 7, some 8, some 9, some 10, some 11, some 12, some 13, some 14, some 15], [], trivial, ?_⟩
    simp only [go_sem, l5, *]
end Go.Abs

namespace Go.Abs
open Go Go.Proofs Tryz
attribute [local irreducible] q9 Hold y3
noncomputable def l3 (o : Nat) (D : ChainD) (B : Option (List Str)) : List AObj :=
 [.box [iV D.many], .box [sV D.to], .box [.yld (o + 5)], .box [x6 D.l],
  .box [.fn 147 [.ptr o 0, .ptr (o + 1) 0, .ptr (o + 2) 0, .ptr (o + 3) 0, .ptr (o + 4) 0]],
  .loopo (l4 D.fnF) [(3, .ptr (o + 6) 0), (6, .ptr (o + 7) 0), (7, .ptr (o + 8) 0)] (some none), .box [f0], .box [u2 B], .box [bV B.isSome]]
attribute [go_sem] l3
abbrev T3 (s : Str) (chain : List Str) : List AV := [sV s, y2 chain, .ptr 0 0, .ptr 1 0, .ptr 2 0, .ptr 3 0, .ptr 4 0]
theorem zHk (D : ChainD) (chain : List Str) (S : CS) (s : Str) (hm : ∀ x, x ∈ S.1 → x.length ≤ 1000) (hs : s.length ≤ 1000) (h : s ∈ S.1) :
  l7 prog [sV s] (t6 0 D chain S) (bV true) (t6 0 D chain S) := by
 refine V7 (L := T4 D.fnG) (env := [(11, .ptr 11 0), (10, .ptr 10 0), (6, .ptr 5 0), (9, .ptr 13 0)]) (j := none) rfl rfl (fun E l hE => ?_)
 refine r6 rfl ?_
 simp only [T4, j3, go_sem]
 repeat' (first | (refine Qr (ops := _ :: _) rfl ?_; try intro _ hK; try simp only [go_sem, *]) | (refine Qi rfl rfl rfl rfl ?_ ?_ <;> (intro hb; (try intro _ hK); have hc := hb; try simp only [go_sem] at hc; simp only [go_sem, *])) | (refine Qb ?_ ?_; focus kernel_rfl) | ((with_reducible apply And.intro); focus omega) | (refine z8 hK ?_; clear hK; simp only [go_sem, *]) | simp only [z7, z6, go_sem, *])
 refine u1 ?_
 refine ⟨by simp only [go_sem], ?_⟩
 refine V1 (id := 1) rfl ?_
 refine c4 rfl ?_
 refine c4 rfl ?_
 refine r6 rfl ?_
 simp only [go_sem]
 repeat' (first | (refine Qr (ops := _ :: _) rfl ?_; try intro _ hK; try simp only [go_sem, *]) | (refine Qi rfl rfl rfl rfl ?_ ?_ <;> (intro hb; (try intro _ hK); have hc := hb; try simp only [go_sem] at hc; simp only [go_sem, *])) | (refine Qb ?_ ?_; focus kernel_rfl) | ((with_reducible apply And.intro); focus omega) | (refine z8 hK ?_; clear hK; simp only [go_sem, *]) | simp only [z7, z6, go_sem, *])
 refine zBI hm hs (by simp only [go_sem]) ?_
 simp only [go_sem, *]
 repeat' (first | (refine Qr (ops := _ :: _) rfl ?_; try intro _ hK; try simp only [go_sem, *]) | (refine Qi rfl rfl rfl rfl ?_ ?_ <;> (intro hb; (try intro _ hK); have hc := hb; try simp only [go_sem] at hc; simp only [go_sem, *])) | (refine Qb ?_ ?_; focus kernel_rfl) | ((with_reducible apply And.intro); focus omega) | (refine z8 hK ?_; clear hK; simp only [go_sem, *]) | simp only [z7, z6, go_sem, *])
 refine u1 ?_
 refine X7 (t := true) rfl (by simp only [go_sem]) (fun _ => ?_) (fun h => by cases h)
 refine zFU rfl ?_
 simp only [z7, z6, go_sem]
 refine ⟨rfl, [some 0, some 1, some 2, some 3, some 4, some 5, some 6, some 7, some 8, some 9, some 10, some 11, some 12, some 13], [], ?_⟩
 simp only [go_sem, *]
theorem zHj (D : ChainD) (chain : List Str) (S : CS) (B' : Option (List Str)) (s : Str) (hm : ∀ x, x ∈ S.1 → x.length ≤ 1000) (hs : s.length ≤ 1000) (h : s ∉ S.1)
  (sg : zKq prog 147 (T3 s chain) (l3 0 D S.2) (bV true) (l3 0 D B')) :
  l7 prog [sV s] (t6 0 D chain S) (bV true) (t6 0 D chain (S.1 ++ [s], B')) := by
 have hca : u0 prog 147 = true := by kernel_rfl
 have hput : zLC S.1 s = S.1 ++ [s] := by unfold zLC; rw [if_neg h]
 refine V7 (L := T4 D.fnG) (env := [(11, .ptr 11 0), (10, .ptr 10 0), (6, .ptr 5 0), (9, .ptr 13 0)]) (j := none) rfl rfl (fun E l hE => ?_)
 refine r6 rfl ?_
 simp only [T4, j3, go_sem]
 repeat' (first | (refine Qr (ops := _ :: _) rfl ?_; try intro _ hK; try simp only [go_sem, *]) | (refine Qi rfl rfl rfl rfl ?_ ?_ <;> (intro hb; (try intro _ hK); have hc := hb; try simp only [go_sem] at hc; simp only [go_sem, *])) | (refine Qb ?_ ?_; focus kernel_rfl) | ((with_reducible apply And.intro); focus omega) | (refine z8 hK ?_; clear hK; simp only [go_sem, *]) | simp only [z7, z6, go_sem, *])
 refine u1 ?_
 refine ⟨by simp only [go_sem], ?_⟩
 refine V1 (id := 1) rfl ?_
 refine c4 rfl ?_
 refine c4 rfl ?_
 refine r6 rfl ?_
 try simp only [go_sem]
 repeat' (first | (refine Qr (ops := _ :: _) rfl ?_; try intro _ hK; try simp only [go_sem, *]) | (refine Qi rfl rfl rfl rfl ?_ ?_ <;> (intro hb; (try intro _ hK); have hc := hb; try simp only [go_sem] at hc; simp only [go_sem, *])) | (refine Qb ?_ ?_; focus kernel_rfl) | ((with_reducible apply And.intro); focus omega) | (refine z8 hK ?_; clear hK; simp only [go_sem, *]) | simp only [z7, z6, go_sem, *])
 refine zBI hm hs (by simp only [go_sem]) ?_
 simp only [go_sem, *]
 repeat' (first | (refine Qr (ops := _ :: _) rfl ?_; try intro _ hK; try simp only [go_sem, *]) | (refine Qi rfl rfl rfl rfl ?_ ?_ <;> (intro hb; (try intro _ hK); have hc := hb; try simp only [go_sem] at hc; simp only [go_sem, *])) | (refine Qb ?_ ?_; focus kernel_rfl) | ((with_reducible apply And.intro); focus omega) | (refine z8 hK ?_; clear hK; simp only [go_sem, *]) | simp only [z7, z6, go_sem, *])
 refine u1 ?_
 refine X7 (t := false) rfl (by simp only [go_sem]) (fun h => by cases h) (fun _ => ?_)
 refine N7 rfl ?_
 refine c4 rfl ?_
 refine r6 rfl ?_
 try simp only [go_sem]
 repeat' (first | (refine Qr (ops := _ :: _) rfl ?_; try intro _ hK; try simp only [go_sem, *]) | (refine Qi rfl rfl rfl rfl ?_ ?_ <;> (intro hb; (try intro _ hK); have hc := hb; try simp only [go_sem] at hc; simp only [go_sem, *])) | (refine Qb ?_ ?_; focus kernel_rfl) | ((with_reducible apply And.intro); focus omega) | (refine z8 hK ?_; clear hK; simp only [go_sem, *]) | simp only [z7, z6, go_sem, *])
 refine B4 hm hs (by simp only [go_sem]) ?_
 rw [hput]
 repeat' (first | (refine Qr (ops := _ :: _) rfl ?_; try intro _ hK; try simp only [go_sem, *]) | (refine Qi rfl rfl rfl rfl ?_ ?_ <;> (intro hb; (try intro _ hK); have hc := hb; try simp only [go_sem] at hc; simp only [go_sem, *])) | (refine Qb ?_ ?_; focus kernel_rfl) | ((with_reducible apply And.intro); focus omega) | (refine z8 hK ?_; clear hK; simp only [go_sem, *]) | simp only [z7, z6, go_sem, *])
 refine u1 ?_
 refine c4 rfl ?_
 refine r6 rfl ?_
 try simp only [go_sem]
 repeat' (first | (refine Qr (ops := _ :: _) rfl ?_; try intro _ hK; try simp only [go_sem, *]) | (refine Qi rfl rfl rfl rfl ?_ ?_ <;> (intro hb; (try intro _ hK); have hc := hb; try simp only [go_sem] at hc; simp only [go_sem, *])) | (refine Qb ?_ ?_; focus kernel_rfl) | ((with_reducible apply And.intro); focus omega) | (refine z8 hK ?_; clear hK; simp only [go_sem, *]) | simp only [z7, z6, go_sem, *])
 refine x4 [1, 2, 3, 4, 5, 6, 7, 8, 9] sg ?_
 simp only [go_sem, *]
 repeat' (first | (refine Qr (ops := _ :: _) rfl ?_; try intro _ hK; try simp only [go_sem, *]) | (refine Qi rfl rfl rfl rfl ?_ ?_ <;> (intro hb; (try intro _ hK); have hc := hb; try simp only [go_sem] at hc; simp only [go_sem, *])) | (refine Qb ?_ ?_; focus kernel_rfl) | ((with_reducible apply And.intro); focus omega) | (refine z8 hK ?_; clear hK; simp only [go_sem, *]) | simp only [z7, z6, go_sem, *])
 refine u1 ?_
 refine X7 (t := false) rfl (by simp only [go_sem]) (fun h => by cases h) (fun _ => ?_)
 refine N7 rfl ?_
 simp only [z6, go_sem]
 refine ⟨rfl, [some 0, some 1, some 2, some 3, some 4, some 5, some 6, some 7, some 8, some 9, some 10, some 11, some 12, some 13], [], ?_⟩
 simp only [go_sem, *]
end Go.Abs

namespace Go.Abs
open Go Go.Proofs Tryz
attribute [local irreducible] q9 Hold y3
theorem O1 {α : Type} {cmp : α → α → Int} : ∀ {L : List α} {B : Option α} {b : α}, y4 cmp B L = some b → B = some b ∨ b ∈ L
 | [], B, b, h => by cases B <;> exact .inl h
 | x :: r, none, b, h => by
  rw [y4] at h
  rcases O1 h with h | h
  ·cases h; exact .inr (by simp)
  ·exact .inr (by simp [h])
 | x :: r, some y, b, h => by
  rw [y4] at h
  split at h
  ·rcases O1 h with h | h
   ·cases h; exact .inr (by simp)
   ·exact .inr (by simp [h])
  ·rcases O1 h with h | h
   ·exact .inl h
   ·exact .inr (by simp [h])
@[go_sem] theorem zKi (pre : List Str) (x : AV) : List.take (pre.length + 1) (List.map sV pre ++ [x]) = List.map sV pre ++ [x] := List.take_of_length_le (by simp)
def Y0 (B : Option (List Str)) : Prop := ∀ b, B = some b → b.length ≤ 1000
theorem zCk {l : List Rule} {to now : Str} {n : Nat} {pre : List Str} {B : Option (List Str)} (h : pre.length + n ≤ 900) (hB : Y0 B) : Y0 (y4 zKw B (u6 l to n now pre)) := fun b hb => by
 rcases O1 hb with h1 | h1
 ·exact hB b h1
 ·obtain ⟨d, rfl, hd⟩ := mem_chainsN.1 h1
  have := zC0 hd
  rw [List.length_append]; omega
theorem zGg (D : ChainD) (now : Str) (pre : List Str) (B : Option (List Str)) (hm : (pre.length : Int) = D.many) (hp : pre.length ≤ 100) (q : ¬ now = D.to) :
  zKq prog 147 (T3 now pre) (l3 0 D B) (bV true) (l3 0 D B) := by
 have sc := C6 pre (by omega)
 have g : D.many < ((pre.length + 1 : Nat) : Int) := by omega
 have hq : (now == D.to) = false := by simpa using q
 refine q7 func147 rfl (fun E hE => ?_); simp only [go_sem, ntmps147]
 repeat' (first | (refine Qr rfl ?_; try intro _ hK; try simp only [go_sem, *]) | (refine Qi rfl rfl rfl rfl ?_ ?_ <;> (intro hb; (try intro _ hK); have hc := hb; try simp only [go_sem] at hc; simp only [go_sem, *])) | refine Qh rfl ?_ | (refine r7 (sc) ?_; simp only [go_sem, *]) | ((with_reducible apply And.intro); focus omega) | (refine z8 hK ?_; clear hK; simp only [go_sem, *]) | simp only [z7, z6, go_sem, *])
 refine I6 rfl ⟨true, by simp only [go_sem, *], fun _ => ?_, fun e => by cases e⟩
 refine I8 rfl ?_
 refine M3 6 rfl rfl rfl ?_
 simp only [List.take_succ_cons, List.take_zero, List.drop_succ_cons, List.drop_zero]
 repeat' (first | (refine Qr (ops := _ :: _) rfl ?_; try intro _ hK; try simp only [go_sem, *]) | (refine Qi rfl rfl rfl rfl ?_ ?_ <;> (intro hb; (try intro _ hK); have hc := hb; try simp only [go_sem] at hc; simp only [go_sem, *])) | ((with_reducible apply And.intro); focus omega) | (refine z8 hK ?_; clear hK; simp only [go_sem, *]) | simp only [z7, z6, go_sem, *])
 refine u1 ?_
 refine zAj rfl rfl (by simp only [go_sem, *]) ?_
 refine ⟨by show 28 < 45; omega, ?_⟩
 simp only [go_sem, *]
 repeat' (first | (refine Qr rfl ?_; try intro _ hK; try simp only [go_sem, *]) | (refine Qi rfl rfl rfl rfl ?_ ?_ <;> (intro hb; (try intro _ hK); have hc := hb; try simp only [go_sem] at hc; simp only [go_sem, *])) | refine Qh rfl ?_ | (refine Qc rfl rfl ?_ ?_ <;> (intro hb; have hc := hb; try simp only [go_sem] at hc)) | refine q6 rfl ?_ | ((with_reducible apply And.intro); focus omega) | (refine z8 hK ?_; clear hK; simp only [go_sem, *]) | simp only [z7, z6, go_sem, *])
 refine ⟨[bV true], [some 0, some 1, some 2, some 3, some 4, some 5, some 6, some 7, some 8], [], ⟨by simp only [V2, go_sem], trivial⟩, ?_⟩
 simp only [go_sem, *]
theorem zGh (D : ChainD) (now : Str) (pre : List Str) (B : Option (List Str)) (hm : (pre.length : Int) = D.many) (hp : pre.length ≤ 100) (q : now = D.to) (hB : Y0 B) :
  zKq prog 147 (T3 now pre) (l3 0 D B) (bV true) (l3 0 D (y4 zKw B [pre ++ [now]])) := by
 have sc := C6 pre (by omega)
 have g : D.many < ((pre.length + 1 : Nat) : Int) := by omega
 have hq : (now == D.to) = true := by simpa using q
 have sy := zHd D.fnF B (pre ++ [now]) hB (by simp; omega)
 generalize y4 zKw B [pre ++ [now]] = B' at *
 clear q
 refine q7 func147 rfl (fun E hE => ?_); simp only [go_sem, ntmps147]
 repeat' (first | (refine Qr rfl ?_; try intro _ hK; try simp only [go_sem, *]) | (refine Qi rfl rfl rfl rfl ?_ ?_ <;> (intro hb; (try intro _ hK); have hc := hb; try simp only [go_sem] at hc; simp only [go_sem, *])) | refine Qh rfl ?_ | (refine r7 (sc) ?_; simp only [go_sem, *]) | ((with_reducible apply And.intro); focus omega) | (refine z8 hK ?_; clear hK; simp only [go_sem, *]) | simp only [z7, z6, go_sem, *])
 refine Z7 (N := 45) (env := [(21, bV true), (0, sV now), (3, .ptr 1 0), (4, .ptr 2 0), (10, .ptr 10 0), (9, .ptr 9 0)]) (As := l3 0 D B ++ [.box [bV false], .box [y2 (pre ++ [now])]]) [some 0, some 1, some 2, some 3, some 4, some 5, some 6, some 7, some 8, some 9, some 13] [12] (by (simp only [Weak, go_sem, List.map_append, List.map_set, *] <;> (try simp (disch := omega) only [u9]) <;> (try simp) <;> (try omega))) ?_
 refine I6 rfl ⟨true, by simp only [go_sem, *], fun _ => ?_, fun e => by cases e⟩
 refine I8 rfl ?_
 refine M3 6 rfl rfl rfl ?_
 simp only [List.take_succ_cons, List.take_zero, List.drop_succ_cons, List.drop_zero, go_sem]
 repeat' (first | (refine Qr (ops := _ :: _) rfl ?_; try intro _ hK; try simp only [go_sem, *]) | (refine Qi rfl rfl rfl rfl ?_ ?_ <;> (intro hb; (try intro _ hK); have hc := hb; try simp only [go_sem] at hc; simp only [go_sem, *])) | ((with_reducible apply And.intro); focus omega) | (refine z8 hK ?_; clear hK; simp only [go_sem, *]) | simp only [z7, z6, go_sem, *])
 refine u1 ?_
 refine zAl rfl rfl (by simp only [go_sem, *]) ?_
 refine ⟨by show 28 < 45; omega, ?_⟩
 simp only [go_sem]
 refine H1 [5, 6, 7, 8] [] sy rfl rfl (by simp) (by simp only [go_sem]) (by simp only [go_sem]) (by simp) (.inl rfl) (by simp [go_sem]) (by simp [go_sem]) ?_
 simp only [go_sem]
 repeat' (first | (refine Qr rfl ?_; try intro _ hK; try simp only [go_sem, *]) | (refine Qi rfl rfl rfl rfl ?_ ?_ <;> (intro hb; (try intro _ hK); have hc := hb; try simp only [go_sem] at hc; simp only [go_sem, *])) | refine Qh rfl ?_ | (refine Qc rfl rfl ?_ ?_ <;> (intro hb; have hc := hb; try simp only [go_sem] at hc)) | refine q6 rfl ?_ | ((with_reducible apply And.intro); focus omega) | (refine z8 hK ?_; clear hK; simp only [go_sem, *]) | simp only [z7, z6, go_sem, *])
 refine ⟨[bV true], [some 0, some 1, some 2, some 3, some 4, some 5, some 6, some 7, some 8], [], ⟨by simp only [V2, go_sem], trivial⟩, ?_⟩
 simp only [go_sem, *]
theorem zGi (D : ChainD) (n : Nat) (IH : ∀ (D : ChainD) (now : Str) (pre : List Str) (B : Option (List Str)), (pre.length : Int) + n = D.many → pre.length + n ≤ 100 → y8 now 1 12 = true → Y0 B → D.l.length ≤ 1000 → (∀ r, r ∈ D.l → r.src.length ≤ 1000 ∧ r.dst.length ≤ 1000) →
      zKq prog 147 (T3 now pre) (l3 0 D B) (bV true) (l3 0 D (y4 zKw B (u6 D.l D.to n now pre))))
    (now : Str) (pre : List Str) (B : Option (List Str)) (hm : (pre.length : Int) + (n + 1 : Nat) = D.many) (hp : pre.length + (n + 1) ≤ 100) (hn : y8 now 1 12 = true) (hB : Y0 B) (hl : D.l.length ≤ 1000) (hr : ∀ r, r ∈ D.l → r.src.length ≤ 1000 ∧ r.dst.length ≤ 1000) :
    zKq prog 147 (T3 now pre) (l3 0 D B) (bV true) (l3 0 D (y4 zKw B (u6 D.l D.to (n + 1) now pre))) := by
  have sc := C6 pre (by omega)
  have su := zG6 now D.l
  have g : ¬ D.many < ((pre.length + 1 : Nat) : Int) := by omega
  have hnl : now.length ≤ 1000 := by
    unfold y8 at hn
    simp only [Bool.and_eq_true, decide_eq_true_eq] at hn
    omega
  have s1 : ∀ fn, zKq prog 170 [.yld 0, .ptr 14 0, .ptr 15 0] (t6 0 { D with fnG := fn } (pre ++ [now]) ([], B) ++ [.box [x6 D.l], .box [sV now]]) (.tup []) (t6 0 { D with fnG := fn } (pre ++ [now]) ((u5 D.l now).foldl (e8 D.l D.to n (pre ++ [now])) ([], B)) ++ [.box [x6 D.l], .box [sV now]]) := fun fn =>
    zG7 { D with fnG := fn } (pre ++ [now]) (fun S => (∀ x, x ∈ S.1 → x.length ≤ 1000) ∧ Y0 S.2) (e8 D.l D.to n (pre ++ [now]))
      (fun S s hG hs => by
        have hsl : s.length ≤ 1000 := by
          unfold y8 at hs
          simp only [Bool.and_eq_true, decide_eq_true_eq] at hs
          omega
        by_cases h : s ∈ S.1
        · have e : e8 D.l D.to n (pre ++ [now]) S s = S := by unfold e8; rw [if_pos h]
          rw [e]; exact zHk _ _ S s hG.1 hsl h
        · have e : e8 D.l D.to n (pre ++ [now]) S s = (S.1 ++ [s], y4 zKw S.2 (u6 D.l D.to n s (pre ++ [now]))) := by unfold e8; rw [if_neg h]
          rw [e]
          exact zHj _ _ S _ s hG.1 hsl h (IH { D with fnG := fn } s (pre ++ [now]) S.2 (by simp; omega) (by simp; omega) hs hG.2 hl hr))
      (fun S s hG hs => by
        have hsl : s.length ≤ 1000 := by
          unfold y8 at hs
          simp only [Bool.and_eq_true, decide_eq_true_eq] at hs
          omega
        unfold e8
        split
        · exact hG
        · refine ⟨fun x hx => ?_, zCk (by simp; omega) hG.2⟩
          rcases List.mem_append.1 hx with hx | hx
          · exact hG.1 x hx
          · rw [List.mem_singleton.1 hx]; exact hsl)
      now D.l hnl hl hr ([], B) ⟨fun x hx => (by cases hx), hB⟩
  have e := zD6 D.l D.to n now pre B
  obtain ⟨S', hS'⟩ : ∃ S', (u5 D.l now).foldl (e8 D.l D.to n (pre ++ [now])) ([], B) = S' := ⟨_, rfl⟩
  rw [hS'] at e
  simp only [hS'] at s1
  rw [← e]
  clear e hS' IH hn hnl hr hB
  refine q7 func147 rfl (fun E hE => ?_); simp only [go_sem, ntmps147]
  repeat' (first | (refine Qr rfl ?_; try intro _ hK; try simp only [go_sem, *]) | (refine Qi rfl rfl rfl rfl ?_ ?_ <;> (intro hb; (try intro _ hK); have hc := hb; try simp only [go_sem] at hc; simp only [go_sem, *])) | refine Qh rfl ?_ | (refine r7 (sc) ?_; simp only [go_sem, *]) | ((with_reducible apply And.intro); focus omega) | (refine z8 hK ?_; clear hK; simp only [go_sem, *]) | simp only [z7, z6, go_sem, *])
  refine I6 rfl ⟨false, by simp only [go_sem, *], fun e => (by cases e), fun _ => ?_⟩
  repeat' (first | (refine Qr rfl ?_; try intro _ hK; try simp only [go_sem, *]) | (refine Qi rfl rfl rfl rfl ?_ ?_ <;> (intro hb; (try intro _ hK); have hc := hb; try simp only [go_sem] at hc; simp only [go_sem, *])) | refine Qh rfl ?_ | (refine Qc rfl rfl ?_ ?_ <;> (intro hb; have hc := hb; try simp only [go_sem] at hc)) | refine q6 rfl ?_ | ((with_reducible apply And.intro); focus omega) | (refine z8 hK ?_; clear hK; simp only [go_sem, *]) | simp only [z7, z6, go_sem, *])
  refine r7 su ?_ (hu := by (intro j hj; simp only [List.length_cons, List.length_nil] at hj; (obtain rfl | rfl : j = 0 ∨ j = 1 := by omega) <;> simp [go_sem]))
  simp only [go_sem, *]
  repeat' (first | (refine Qr rfl ?_; try intro _ hK; try simp only [go_sem, *]) | (refine Qi rfl rfl rfl rfl ?_ ?_ <;> (intro hb; (try intro _ hK); have hc := hb; try simp only [go_sem] at hc; simp only [go_sem, *])) | refine Qh rfl ?_ | (refine Qc rfl rfl ?_ ?_ <;> (intro hb; have hc := hb; try simp only [go_sem] at hc)) | refine q6 rfl ?_ | ((with_reducible apply And.intro); focus omega) | (refine z8 hK ?_; clear hK; simp only [go_sem, *]) | simp only [z7, z6, go_sem, *])
  refine Z7 (N := 45) (env := [(33, .fn 170 [.ptr 13 0, .ptr 14 0]), (11, .ptr 11 0), (10, .ptr 10 0), (6, .ptr 4 0), (9, .ptr 9 0)]) (As := l3 0 D B ++ [.box [bV false], .box [y2 (pre ++ [now])], .box [.mp 12], .mapo [] [], .box [x6 D.l], .box [sV now]]) [some 0, some 1, some 2, some 3, some 4, some 5, some 6, some 7, some 8, some 9, some 13, some 15, some 14, some 16, some 17] [12] (by (simp only [Weak, go_sem, List.map_append, List.map_set, *] <;> (try simp (disch := omega) only [u9]) <;> (try simp) <;> (try omega))) ?_
  refine I7 (f := 170) (caps := [.ptr 13 0, .ptr 14 0]) rfl (by simp only [go_sem]) (by kernel_rfl) (nx := 15) (by simp only [go_sem]) (fun fn => ⟨16, ?_⟩)
  refine w9 [15, 0, 1, 2, 3, 4, 5, 6, 7, 8, 10, 11, 12, 9, 13, 14] [] (s1 fn) (by simp) (by simp only [go_sem]) ?_ (by simp) (.inl rfl) (by simp [go_sem]) (by simp [go_sem]) ?_
  · simp only [go_sem, *]
    rfl
  · simp only [go_sem, *]
    refine ⟨T4 fn, [(11, .ptr 11 0), (10, .ptr 10 0), (6, .ptr 4 0), (9, .ptr 9 0)], none, by simp only [go_sem], ?_⟩
    simp only [go_sem]
    repeat' (first | (refine Qr rfl ?_; try intro _ hK; try simp only [go_sem, *]) | (refine Qi rfl rfl rfl rfl ?_ ?_ <;> (intro hb; (try intro _ hK); have hc := hb; try simp only [go_sem] at hc; simp only [go_sem, *])) | refine Qh rfl ?_ | (refine Qc rfl rfl ?_ ?_ <;> (intro hb; have hc := hb; try simp only [go_sem] at hc)) | refine q6 rfl ?_ | ((with_reducible apply And.intro); focus omega) | (refine z8 hK ?_; clear hK; simp only [go_sem, *]) | simp only [z7, z6, go_sem, *])
    refine ⟨[bV true], [some 0, some 1, some 2, some 3, some 4, some 5, some 6, some 7, some 8], [], ⟨by simp only [V2, go_sem], trivial⟩, ?_⟩
    simp only [go_sem, *]
end Go.Abs

namespace Go.Abs
open Go Go.Proofs Tryz
attribute [local irreducible] q9 Hold y3
theorem zDY {α : Type} (cmp : α → α → Int) (B : Option α) : y4 cmp B [] = B := by cases B <;> rfl
theorem zB2 : ∀ (n : Nat) (D : ChainD) (now : Str) (pre : List Str) (B : Option (List Str)), (pre.length : Int) + n = D.many → pre.length + n ≤ 100 → y8 now 1 12 = true → Y0 B → D.l.length ≤ 1000 → (∀ r, r ∈ D.l → r.src.length ≤ 1000 ∧ r.dst.length ≤ 1000) →
  zKq prog 147 (T3 now pre) (l3 0 D B) (bV true) (l3 0 D (y4 zKw B (u6 D.l D.to n now pre)))
 | 0, D, now, pre, B, hm, hp, hn, hB, hl, hr => by
  rw [u6]
  by_cases q : now = D.to
  ·rw [if_pos q]; exact zGh D now pre B (by simpa using hm) (by omega) q hB
  ·rw [if_neg q, zDY]; exact zGg D now pre B (by simpa using hm) (by omega) q
 | n + 1, D, now, pre, B, hm, hp, hn, hB, hl, hr => zGi D n (zB2 n) now pre B hm hp hn hB hl hr
theorem zGa (D : ChainD) (k : Str) (n : Nat) (B : Option (List Str)) (hm : (n : Int) = D.many) (hp : n ≤ 100) (hk1 : y8 k 1 12 = true) (hB : Y0 B) (hl : D.l.length ≤ 1000) (hr : ∀ r, r ∈ D.l → r.src.length ≤ 1000 ∧ r.dst.length ≤ 1000) :
  zKq prog 146 [.yld 0, .ptr 4 0, .ptr 5 0, .ptr 6 0, .ptr 7 0] [.loopo (l4 D.fnF) [(3, .ptr 1 0), (6, .ptr 2 0), (7, .ptr 3 0)] (some none), .box [f0], .box [u2 B], .box [bV B.isSome], .box [iV D.many], .box [sV D.to], .box [x6 D.l], .box [sV k]] (.tup [])
   [.loopo (l4 D.fnF) [(3, .ptr 1 0), (6, .ptr 2 0), (7, .ptr 3 0)] (some none), .box [f0], .box [u2 (y4 zKw B (u6 D.l D.to n k []))], .box [bV (y4 zKw B (u6 D.l D.to n k [])).isSome], .box [iV D.many], .box [sV D.to], .box [x6 D.l], .box [sV k]] := by
 have hca : u0 prog 147 = true := by kernel_rfl
 have sg := zB2 n D k [] B (by simpa using hm) (by simpa using hp) hk1 hB hl hr
 generalize y4 zKw B (u6 D.l D.to n k []) = B' at *
 clear hr
 refine q7 func146 rfl (fun E hE => ?_); simp only [go_sem, ntmps146]
 repeat' (first | (refine Qr rfl ?_; try intro _ hK; try simp only [go_sem, *]) | refine Qh rfl ?_ | (refine Qc rfl rfl ?_ ?_ <;> (intro hb; have hc := hb; try simp only [go_sem] at hc)) | refine q6 rfl ?_ | ((with_reducible apply And.intro); focus omega) | (refine z8 hK ?_; clear hK; simp only [go_sem, *]) | simp only [z7, z6, go_sem, *])
 refine x4 [4, 5, 8, 6, 9, 0, 1, 2, 3] sg ?_
 simp only [go_sem, *]
 repeat' (first | (refine Qr rfl ?_; try intro _ hK; try simp only [go_sem, *]) | refine Qh rfl ?_ | (refine Qc rfl rfl ?_ ?_ <;> (intro hb; have hc := hb; try simp only [go_sem] at hc)) | refine q6 rfl ?_ | ((with_reducible apply And.intro); focus omega) | (refine z8 hK ?_; clear hK; simp only [go_sem, *]) | simp only [z7, z6, go_sem, *])
 refine ⟨[], [some 0, some 1, some 2, some 3, some 4, some 5, some 6, some 7], [], trivial, ?_⟩
 simp only [go_sem, l5, *]
theorem zGZ (k : Str) (l : List Rule) (to : Str) (many : Int) : zKq prog 125 [sV k, x6 l, sV to, iV many] [] (.fn 146 [.ptr 0 0, .ptr 1 0, .ptr 2 0, .ptr 3 0]) [.box [iV many], .box [sV to], .box [x6 l], .box [sV k]] := by
 refine q7 func125 rfl (fun E hE => ?_); simp only [go_sem, ntmps125]
 repeat' (first | (refine Qr rfl ?_; try intro _ hK; try simp only [go_sem, *]) | refine Qh rfl ?_ | (refine Qc rfl rfl ?_ ?_ <;> (intro hb; have hc := hb; try simp only [go_sem] at hc)) | refine q6 rfl ?_ | ((with_reducible apply And.intro); focus omega) | (refine z8 hK ?_; clear hK; simp only [go_sem, *]) | simp only [z7, z6, go_sem, *])
 refine ⟨[_], [some 3, some 2, some 1, some 0], [], ⟨rfl, trivial⟩, ?_⟩
 simp only [go_sem, *]
theorem zGe (k : Str) (l : List Rule) (to : Str) (n : Nat) (hp : n ≤ 100) (hk1 : y8 k 1 12 = true) (hl : l.length ≤ 1000) (hr : ∀ r, r ∈ l → r.src.length ≤ 1000 ∧ r.dst.length ≤ 1000) :
  zKq prog 124 [.fn 146 [.ptr 0 0, .ptr 1 0, .ptr 2 0, .ptr 3 0], f0] [.box [iV n], .box [sV to], .box [x6 l], .box [sV k]] (.tup [u2 (Z4 l n k to), bV (Z4 l n k to).isSome]) [.box [iV n], .box [sV to], .box [x6 l], .box [sV k]] := by
 have s1 := fun fn => zGa ⟨n, to, l, 0, fn⟩ k n none rfl hp hk1 (fun b h => by cases h) hl hr
 have e : Z4 l n k to = y4 zKw none (u6 l to n k []) := rfl
 rw [e]
 simp only at s1
 generalize y4 zKw none (u6 l to n k []) = B at *
 clear hr e
 refine q7 func124 rfl (fun E hE => ?_); simp only [go_sem, ntmps124]
 repeat' (first | (refine Qr rfl ?_; try intro _ hK; try simp only [go_sem, *]) | refine Qh rfl ?_ | refine Qd rfl (by kernel_rfl) ?_ | (refine Qc rfl rfl ?_ ?_ <;> (intro hb; have hc := hb; try simp only [go_sem] at hc)) | refine q6 rfl ?_ | (refine Qb ?_ ?_; focus kernel_rfl) | ((with_reducible apply And.intro); focus omega) | (refine z8 hK ?_; clear hK; simp only [go_sem, *]) | simp only [z7, z6, go_sem, *])
 refine Z7 (N := 23) (env := [(9, .fn 146 [.ptr 0 0, .ptr 1 0, .ptr 2 0, .ptr 3 0]), (3, .ptr 4 0), (6, .ptr 5 0), (7, .ptr 6 0)]) (As := [.box [iV n], .box [sV to], .box [x6 l], .box [sV k], .box [f0], .box [u2 none], .box [bV false]]) [some 0, some 1, some 2, some 3, some 4, some 5, some 6] [] (by (simp only [Weak, go_sem, List.map_append, List.map_set, *] <;> (try simp (disch := omega) only [u9]) <;> (try simp) <;> (try omega))) ?_
 refine I7 (f := 146) (caps := [.ptr 0 0, .ptr 1 0, .ptr 2 0, .ptr 3 0]) rfl (by simp only [go_sem]) (by kernel_rfl) (nx := 7) (by simp only [go_sem]) (fun fn => ⟨8, ?_⟩)
 refine w9 [7, 4, 5, 6, 0, 1, 2, 3] [] (s1 fn) (by simp) (by simp only [go_sem]) ?_ (by simp) (.inl rfl) (by simp [go_sem]) (by simp [go_sem]) ?_
 ·simp only [go_sem, *]
  first | rfl | exact ⟨rfl, rfl⟩
 ·simp only [go_sem, *]
  refine ⟨l4 fn, [(3, .ptr 4 0), (6, .ptr 5 0), (7, .ptr 6 0)], none, by simp only [go_sem], ?_⟩
  simp only [go_sem]
  repeat' (first | (refine Qr rfl ?_; try intro _ hK; try simp only [go_sem, *]) | refine Qh rfl ?_ | refine Qd rfl (by kernel_rfl) ?_ | (refine Qc rfl rfl ?_ ?_ <;> (intro hb; have hc := hb; try simp only [go_sem] at hc)) | refine q6 rfl ?_ | (refine Qb ?_ ?_; focus kernel_rfl) | ((with_reducible apply And.intro); focus omega) | (refine z8 hK ?_; clear hK; simp only [go_sem, *]) | simp only [z7, z6, go_sem, *])
  refine ⟨[_, _], [some 0, some 1, some 2, some 3], [], ⟨rfl, rfl, trivial⟩, ?_⟩
  simp only [go_sem, *]
end Go.Abs

namespace Go.Abs
open Go
theorem ValidN.mem0 {s : Str} (v : ValidN s) : s.getD 0 0 ∈ s := by
 cases s with
 | nil => have := v.ne; simp at this
 | cons c r => simp
theorem ValidN.other {s : Str} (v : ValidN s) (h : y6 (s.getD 0 0) = false) : s.all e7 = true := by
 have hf := v.form
 unfold o3 at hf
 rw [Bool.or_eq_true] at hf
 rcases hf with hf | hf
 ·have := List.all_eq_true.1 hf _ v.mem0
  rw [h] at this; cases this
 ·exact hf
theorem ValidN.check {s : Str} (v : ValidN s) : y9 s = 0 := checkN_zero.2 v
end Go.Abs

namespace Go.Abs
open Go Go.Proofs Tryz
attribute [local irreducible] q9 Hold y3
theorem zFi {r : List Rule} (h : p7 r = 0) : r.length ≤ 4 ∧ ∀ x, x ∈ r → x.src.length ≤ 2 ∧ x.dst.length ≤ 2 := by
 unfold p7 at h
 by_cases h4 : 4 < r.length
 ·rw [if_pos h4] at h; cases h
 ·rw [if_neg h4] at h
  by_cases ha : r.all Rule.ok = true
  ·refine ⟨by omega, fun x hx => ?_⟩
   have := List.all_eq_true.1 ha x hx
   unfold Rule.ok y8 at this
   simp only [Bool.and_eq_true, decide_eq_true_eq] at this
   exact ⟨this.1.2.1, this.2.1.2.1⟩
  ·rw [if_neg ha] at h; cases h
theorem zFP {a b : Str} (h : v8 [a, b] = 0) : ValidN a ∧ ValidN b := by
 rw [zBZ] at h
 by_cases q : y9 a = 0
 ·rw [if_pos q] at h; exact ⟨checkN_zero.1 q, checkN_zero.1 h⟩
 ·rw [if_neg q] at h; exact absurd h q
theorem zC1 {α : Type} {f : Nat → Option α} {i : Nat} (h : i < 3) : f6 f (List.range' i (3 - i)) = match f i with
  | some b => some b
  | none => f6 f (List.range' (i + 1) (3 - (i + 1))) := by
 obtain rfl | rfl | rfl : i = 0 ∨ i = 1 ∨ i = 2 := by omega
 all_goals rfl
def U6 (k : Str) (l : List Rule) (to : Str) : Option (List Str) := f6 (fun n => Z4 l n k to) [0, 1, 2]
theorem zGY (k : Str) (l : List Rule) (to : Str) (hk1 : y8 k 1 12 = true) (hl : l.length ≤ 1000) (hr : ∀ r, r ∈ l → r.src.length ≤ 1000 ∧ r.dst.length ≤ 1000) :
  zKq prog 88 [sV k, x6 l, sV to] [] (.tup [u2 (U6 k l to), bV (U6 k l to).isSome]) [] := by
 have hca : u0 prog 126 = true := by kernel_rfl
 obtain ⟨T, hT⟩ : ∃ T, U6 k l to = T := ⟨_, rfl⟩
 rw [hT]
 have h0 : f6 (fun n => Z4 l n k to) (List.range' 0 (3 - 0)) = T := hT
 clear hT
 have s1 := zGZ k l to
 have s2 := fun n hn => zGe k l to n hn hk1 hl hr
 clear hk1 hl hr
 refine q7 func88 rfl (fun E hE => ?_); simp only [go_sem, ntmps88]
 repeat' (first | (refine Qr rfl ?_; try intro _ hK; try simp only [go_sem, *]) | refine Qh rfl ?_ | (refine Qc rfl rfl ?_ ?_ <;> (intro hb; have hc := hb; try simp only [go_sem] at hc)) | refine q6 rfl ?_ | ((with_reducible apply And.intro); focus omega) | (refine z8 hK ?_; clear hK; simp only [go_sem, *]) | simp only [z7, z6, go_sem, *])
 refine o6 rfl (3) (fun i => f6 (fun n => Z4 l n k to) (List.range' i (3 - i)) = T) 26 (fun i => [(11, iV i), (0, sV k), (1, x6 l), (2, sV to)]) (fun i => []) [] [] (by exact h0) ?_; intro i hi hP
 clear h0
 by_cases hi2 : i < 3
 ·rw [zC1 hi2] at hP
  have s1 := s1 (i : Int)
  have s2 := s2 i (by omega)
  have hi3 : (i : Int) < 3 := by omega
  have hw : IntKind.i64.wrap ((i : Int) + 1) = ((i + 1 : Nat) : Int) := u9 (by omega)
  cases hc : Z4 l i k to with
  | some c =>
   rw [hc] at hP s2
   have hP : some c = T := hP
   subst hP
   clear hc
   repeat' (first | (refine Qr rfl ?_; try intro _ hK; try simp only [go_sem, *]) | refine Qh rfl ?_ | (refine Qc rfl rfl ?_ ?_ <;> (intro hb; have hc := hb; try simp only [go_sem] at hc)) | refine q6 rfl ?_ | ((with_reducible apply And.intro); focus omega) | (refine z8 hK ?_; clear hK; simp only [go_sem, *]) | simp only [z7, z6, go_sem, *])
   refine r7 s1 ?_ (hu := by (intro j hj; simp only [List.length_cons, List.length_nil] at hj; (obtain rfl | rfl | rfl | rfl : j = 0 ∨ j = 1 ∨ j = 2 ∨ j = 3 := by omega) <;> simp [go_sem]))
   simp only [go_sem, *]
   repeat' (first | (refine Qr rfl ?_; try intro _ hK; try simp only [go_sem, *]) | refine Qh rfl ?_ | (refine Qc rfl rfl ?_ ?_ <;> (intro hb; have hc := hb; try simp only [go_sem] at hc)) | refine q6 rfl ?_ | ((with_reducible apply And.intro); focus omega) | (refine z8 hK ?_; clear hK; simp only [go_sem, *]) | simp only [z7, z6, go_sem, *])
   refine x4 [0, 1, 2, 3] s2 ?_
   simp only [go_sem, *]
   repeat' (first | (refine Qr rfl ?_; try intro _ hK; try simp only [go_sem, *]) | refine Qh rfl ?_ | (refine Qc rfl rfl ?_ ?_ <;> (intro hb; have hc := hb; try simp only [go_sem] at hc)) | refine q6 rfl ?_ | ((with_reducible apply And.intro); focus omega) | (refine z8 hK ?_; clear hK; simp only [go_sem, *]) | simp only [z7, z6, go_sem, *])
   all_goals try contradiction
   (refine ⟨[_, _], [], [], ⟨rfl, rfl, trivial⟩, ?_⟩; simp only [go_sem, *])
  | none =>
   rw [hc] at hP s2
   have hP : f6 (fun n => Z4 l n k to) (List.range' (i + 1) (3 - (i + 1))) = T := hP
   clear hc
   repeat' (first | (refine Qr rfl ?_; try intro _ hK; try simp only [go_sem, *]) | refine Qh rfl ?_ | (refine Qc rfl rfl ?_ ?_ <;> (intro hb; have hc := hb; try simp only [go_sem] at hc)) | refine q6 rfl ?_ | ((with_reducible apply And.intro); focus omega) | (refine z8 hK ?_; clear hK; simp only [go_sem, *]) | simp only [z7, z6, go_sem, *])
   refine r7 s1 ?_ (hu := by (intro j hj; simp only [List.length_cons, List.length_nil] at hj; (obtain rfl | rfl | rfl | rfl : j = 0 ∨ j = 1 ∨ j = 2 ∨ j = 3 := by omega) <;> simp [go_sem]))
   simp only [go_sem, *]
   repeat' (first | (refine Qr rfl ?_; try intro _ hK; try simp only [go_sem, *]) | refine Qh rfl ?_ | (refine Qc rfl rfl ?_ ?_ <;> (intro hb; have hc := hb; try simp only [go_sem] at hc)) | refine q6 rfl ?_ | ((with_reducible apply And.intro); focus omega) | (refine z8 hK ?_; clear hK; simp only [go_sem, *]) | simp only [z7, z6, go_sem, *])
   refine x4 [0, 1, 2, 3] s2 ?_
   simp only [go_sem, *]
   repeat' (first | (refine Qr rfl ?_; try intro _ hK; try simp only [go_sem, *]) | refine Qh rfl ?_ | (refine Qc rfl rfl ?_ ?_ <;> (intro hb; have hc := hb; try simp only [go_sem] at hc)) | refine q6 rfl ?_ | ((with_reducible apply And.intro); focus omega) | (refine z8 hK ?_; clear hK; simp only [go_sem, *]) | simp only [z7, z6, go_sem, *])
   all_goals try contradiction
   exact c0 (i' := i + 1) [] [] (by exact hP)
 ·have e : 3 - i = 0 := by omega
  rw [e] at hP
  have hP : none = T := hP
  subst hP
  have hi3 : ¬ (i : Int) < 3 := by omega
  clear s1 s2
  repeat' (first | (refine Qr rfl ?_; try intro _ hK; try simp only [go_sem, *]) | refine Qh rfl ?_ | (refine Qc rfl rfl ?_ ?_ <;> (intro hb; have hc := hb; try simp only [go_sem] at hc)) | refine q6 rfl ?_ | ((with_reducible apply And.intro); focus omega) | (refine z8 hK ?_; clear hK; simp only [go_sem, *]) | simp only [z7, z6, go_sem, *])
  all_goals try contradiction
  (refine ⟨[_, _], [], [], ⟨rfl, rfl, trivial⟩, ?_⟩; simp only [go_sem, *])
  all_goals rfl
def U7 (r : List Rule) (a b : Str) : Option (List Str) := if i3 r a b = 0 then P7 r a b else none
theorem D8 {r : List Rule} {a b : Str} (q : p7 r = 0) : i3 r a b = v8 [a, b] := by
 unfold i3; rw [if_pos q, zBZ]
theorem zCx {r : List Rule} {a b : Str} (h : i3 r a b = 0) : U7 r a b = U6 (zKs a) r (zKs b) := if_pos h
theorem zCw {r : List Rule} {a b : Str} (h : i3 r a b = 0) : l8 r a b = if (U6 (zKs a) r (zKs b)).isSome = true then 0 else 11 := if_pos h
theorem zGB (r : List Rule) (a b : Str) (hl : r.length ≤ 4294967296) (hr : ∀ x, x ∈ r → x.src.length ≤ 4294967296 ∧ x.dst.length ≤ 4294967296) :
  zKq prog 38 [x6 r, sV a, sV b] [] (.tup [u2 (U7 r a b), iV (l8 r a b)]) [] := by
 have s1 := zGy r hl hr
 have sc : zKq prog 87 [.list [sV a, sV b]] [] (iV (v8 [a, b])) [] := zBz [a, b] (by simp)
 by_cases q1 : p7 r = 0
 ·rw [q1] at s1
  by_cases q2 : v8 [a, b] = 0
  ·obtain ⟨va, vb⟩ := zFP q2
   have hp : i3 r a b = 0 := by rw [D8 q1, q2]
   obtain ⟨h4, h5⟩ := zFi q1
   have s2 := V5 a va.form (by have := va.len; omega)
   have s3 := V5 b vb.form (by have := vb.len; omega)
   have s4 := zGY (zKs a) r (zKs b) (E2 va) (by omega) (fun x hx => by have := h5 x hx; omega)
   rw [zCx hp, zCw hp]
   rw [q2] at sc
   generalize U6 (zKs a) r (zKs b) = o at *
   generalize zKs a = ka at *
   generalize zKs b = kb at *
   clear q1 q2 va vb hp h4 h5 hl hr
   cases o with
   | none =>
    simp only [Option.isSome_none, Bool.false_eq_true, if_false] at s4 ⊢
    refine q7 func38 rfl (fun E hE => ?_); simp only [go_sem, ntmps38]
    repeat' (first | (refine Qr rfl ?_; try intro _ hK; try simp only [go_sem, *]) | refine Qh rfl ?_ | (refine Qc rfl rfl ?_ ?_ <;> (intro hb; have hc := hb; try simp only [go_sem] at hc)) | refine q6 rfl ?_ | (refine y1 (s1) ?_; simp only [go_sem, *]) | ((with_reducible apply And.intro); focus omega) | (refine z8 hK ?_; clear hK; simp only [go_sem, *]) | simp only [z7, z6, go_sem, *])
    all_goals try contradiction
    (refine U5 [0] (sc) (by simp only [go_sem, *]) (.raw _) ?_; simp only [go_sem, *])
    repeat' (first | (refine Qr rfl ?_; try intro _ hK; try simp only [go_sem, *]) | refine Qh rfl ?_ | (refine Qc rfl rfl ?_ ?_ <;> (intro hb; have hc := hb; try simp only [go_sem] at hc)) | refine q6 rfl ?_ | (refine y5 (s2) ?_ ?_; (focus (simp only [go_sem, *]; done)); simp only [go_sem, *]) | (refine y5 (s3) ?_ ?_; (focus (simp only [go_sem, *]; done)); simp only [go_sem, *]) | (refine y1 (s4) ?_; simp only [go_sem, *]) | ((with_reducible apply And.intro); focus omega) | (refine z8 hK ?_; clear hK; simp only [go_sem, *]) | simp only [z7, z6, go_sem, *])
    all_goals try contradiction
    (refine ⟨[_, _], [], [], ⟨rfl, rfl, trivial⟩, ?_⟩; simp only [go_sem, *])
   | some c =>
    simp only [Option.isSome_some, if_true] at s4 ⊢
    refine q7 func38 rfl (fun E hE => ?_); simp only [go_sem, ntmps38]
    repeat' (first | (refine Qr rfl ?_; try intro _ hK; try simp only [go_sem, *]) | refine Qh rfl ?_ | (refine Qc rfl rfl ?_ ?_ <;> (intro hb; have hc := hb; try simp only [go_sem] at hc)) | refine q6 rfl ?_ | (refine y1 (s1) ?_; simp only [go_sem, *]) | ((with_reducible apply And.intro); focus omega) | (refine z8 hK ?_; clear hK; simp only [go_sem, *]) | simp only [z7, z6, go_sem, *])
    all_goals try contradiction
    (refine U5 [0] (sc) (by simp only [go_sem, *]) (.raw _) ?_; simp only [go_sem, *])
    repeat' (first | (refine Qr rfl ?_; try intro _ hK; try simp only [go_sem, *]) | refine Qh rfl ?_ | (refine Qc rfl rfl ?_ ?_ <;> (intro hb; have hc := hb; try simp only [go_sem] at hc)) | refine q6 rfl ?_ | (refine y5 (s2) ?_ ?_; (focus (simp only [go_sem, *]; done)); simp only [go_sem, *]) | (refine y5 (s3) ?_ ?_; (focus (simp only [go_sem, *]; done)); simp only [go_sem, *]) | (refine y1 (s4) ?_; simp only [go_sem, *]) | ((with_reducible apply And.intro); focus omega) | (refine z8 hK ?_; clear hK; simp only [go_sem, *]) | simp only [z7, z6, go_sem, *])
    all_goals try contradiction
    (refine ⟨[_, _], [], [], ⟨rfl, rfl, trivial⟩, ?_⟩; simp only [go_sem, *])
  ·have hp : ¬ i3 r a b = 0 := by rw [D8 q1]; exact q2
   have e1 : U7 r a b = none := if_neg hp
   have e2 : l8 r a b = v8 [a, b] := by unfold l8; rw [if_neg hp, D8 q1]
   rw [e1, e2]
   clear e1 e2 hp q1 hl hr
   generalize v8 [a, b] = e at *
   refine q7 func38 rfl (fun E hE => ?_); simp only [go_sem, ntmps38]
   repeat' (first | (refine Qr rfl ?_; try intro _ hK; try simp only [go_sem, *]) | refine Qh rfl ?_ | (refine Qc rfl rfl ?_ ?_ <;> (intro hb; have hc := hb; try simp only [go_sem] at hc)) | refine q6 rfl ?_ | (refine y1 (s1) ?_; simp only [go_sem, *]) | ((with_reducible apply And.intro); focus omega) | (refine z8 hK ?_; clear hK; simp only [go_sem, *]) | simp only [z7, z6, go_sem, *])
   all_goals try contradiction
   (refine U5 [0] (sc) (by simp only [go_sem, *]) (.raw _) ?_; simp only [go_sem, *])
   repeat' (first | (refine Qr rfl ?_; try intro _ hK; try simp only [go_sem, *]) | refine Qh rfl ?_ | (refine Qc rfl rfl ?_ ?_ <;> (intro hb; have hc := hb; try simp only [go_sem] at hc)) | refine q6 rfl ?_ | ((with_reducible apply And.intro); focus omega) | (refine z8 hK ?_; clear hK; simp only [go_sem, *]) | simp only [z7, z6, go_sem, *])
   all_goals try contradiction
   (refine ⟨[_, _], [], [], ⟨rfl, rfl, trivial⟩, ?_⟩; simp only [go_sem, *])
 ·have hp : i3 r a b = p7 r := by unfold i3; rw [if_neg q1]
  have e1 : U7 r a b = none := if_neg (by rw [hp]; exact q1)
  have e2 : l8 r a b = p7 r := by unfold l8; rw [hp, if_neg q1]
  rw [e1, e2]
  clear e1 e2 hp hl hr sc
  generalize p7 r = e at *
  refine q7 func38 rfl (fun E hE => ?_); simp only [go_sem, ntmps38]
  repeat' (first | (refine Qr rfl ?_; try intro _ hK; try simp only [go_sem, *]) | refine Qh rfl ?_ | (refine Qc rfl rfl ?_ ?_ <;> (intro hb; have hc := hb; try simp only [go_sem] at hc)) | refine q6 rfl ?_ | (refine y1 (s1) ?_; simp only [go_sem, *]) | ((with_reducible apply And.intro); focus omega) | (refine z8 hK ?_; clear hK; simp only [go_sem, *]) | simp only [z7, z6, go_sem, *])
  all_goals try contradiction
  (refine ⟨[_, _], [], [], ⟨rfl, rfl, trivial⟩, ?_⟩; simp only [go_sem, *])
end Go.Abs

namespace Go.Abs
open Go Go.Proofs Tryz
attribute [local irreducible] q9 Hold y3
def zJh (r : List Rule) (s : Str) (l : List Str) (m : Nat) : List Int := (List.range' m (3 - m)).flatMap fun (n : Nat) => J0 r s l n 0
end Go.Abs

namespace Go.Abs
open Go Go.Proofs Tryz
attribute [local irreducible] q9 Hold y3
def Q8 (s p : Str) : Str := if p.isPrefixOf s = true then s.drop p.length else s
theorem zGV (s p : Str) (h1 : s.length ≤ 4294967296) (h2 : p.length ≤ 4294967296) : zKq prog 161 [sV s, sV p] [] (sV (Q8 s p)) [] := by
 have sh := zBv s p h1 h2
 unfold Q8
 cases q : p.isPrefixOf s
 ·rw [q] at sh
  rw [if_neg (by decide)]
  clear q
  refine q7 func161 rfl (fun E hE => ?_); simp only [go_sem, ntmps161]
  repeat' (first | (refine Qr rfl ?_; try intro _ hK; try simp only [go_sem, *]) | refine Qh rfl ?_ | (refine Qc rfl rfl ?_ ?_ <;> (intro hb; have hc := hb; try simp only [go_sem] at hc)) | refine q6 rfl ?_ | (refine y1 (sh) ?_; simp only [go_sem, *]) | ((with_reducible apply And.intro); focus omega) | (refine z8 hK ?_; clear hK; simp only [go_sem, *]) | simp only [z7, z6, go_sem, *])
  all_goals try contradiction
  (refine ⟨[_], [], [], ⟨rfl, trivial⟩, ?_⟩; simp only [go_sem, *])
 ·rw [q] at sh
  have hpl := zBc q
  rw [if_pos rfl]
  clear q
  refine q7 func161 rfl (fun E hE => ?_); simp only [go_sem, ntmps161]
  repeat' (first | (refine Qr rfl ?_; try intro _ hK; try simp only [go_sem, *]) | refine Qh rfl ?_ | (refine Qc rfl rfl ?_ ?_ <;> (intro hb; have hc := hb; try simp only [go_sem] at hc)) | refine q6 rfl ?_ | (refine y1 (sh) ?_; simp only [go_sem, *]) | ((with_reducible apply And.intro); focus omega) | (refine z8 hK ?_; clear hK; simp only [go_sem, *]) | simp only [z7, z6, go_sem, *])
  all_goals try contradiction
  (refine ⟨[_], [], [], ⟨rfl, trivial⟩, ?_⟩; simp only [go_sem, *])
theorem zGU (s p : Str) (h1 : s.length ≤ 4294967296) (h2 : p.length ≤ 4294967296) : zKq prog 136 [sV s, sV p] [] (sV (Q8 s p)) [] := by
 have sh := zGV s p h1 h2
 generalize Q8 s p = t at *
 refine q7 func136 rfl (fun E hE => ?_); simp only [go_sem, ntmps136]
 repeat' (first | (refine Qr rfl ?_; try intro _ hK; try simp only [go_sem, *]) | refine Qh rfl ?_ | (refine Qc rfl rfl ?_ ?_ <;> (intro hb; have hc := hb; try simp only [go_sem] at hc)) | refine q6 rfl ?_ | (refine y1 (sh) ?_; simp only [go_sem, *]) | ((with_reducible apply And.intro); focus omega) | (refine z8 hK ?_; clear hK; simp only [go_sem, *]) | simp only [z7, z6, go_sem, *])
 (refine ⟨[_], [], [], ⟨rfl, trivial⟩, ?_⟩; simp only [go_sem, *])
theorem zHJ (a : UInt8) (x : Str) : Q8 (a :: x) [a] = x := by simp [Q8]
theorem zHI {a c : UInt8} (h : ¬ a = c) (x : Str) : Q8 (a :: x) [c] = a :: x := by
 have : ¬ c = a := fun e => h e.symm
 simp [Q8, this]
theorem zEt {s : Str} (v : s.all y6 = true) {i : Nat} (h : i < s.length) : (s.getD i 0).toNat < 128 := by
 have hm : s.getD i 0 ∈ s := by simp [List.getD, h]
 have := List.all_eq_true.1 v _ hm
 unfold y6 at this
 simp only [Bool.and_eq_true, decide_eq_true_eq] at this
 omega
theorem zG5 (k whole : Str) (hk0 : 0 < k.length) (hk1 : k.length ≤ 1000) (hw : whole.all y6 = true) (hw1 : whole.length ≤ 1000) : zKq prog 111 [sV k, sV whole] [] (bV (c5 k whole)) [] := by
  by_cases q1 : k.length < whole.length
  · have q1i : ¬ (k.length : Int) ≥ (whole.length : Int) := by omega
    by_cases q2 : k.getD 0 0 = whole.getD 0 0
    · have e : c5 k whole = zLM k whole := by
        unfold c5
        rw [decide_eq_true q1, q2]; simp
      rw [e]
      have hP0 : zLM k (whole.drop 0) = zLM k whole := rfl
      generalize zLM k whole = R at *
      have q2n : ((k.getD 0 0).toNat : Int) = (whole.getD 0 0).toNat := by rw [q2]
      have hwa := fun i => zEt (i := i) hw
      clear e q2 hw
      refine q7 func111 rfl (fun E hE => ?_); simp only [go_sem, ntmps111]
      repeat' (first | (refine Qr rfl ?_; try intro _ hK; try simp only [go_sem, *]) | (refine Qi rfl rfl rfl rfl ?_ ?_ <;> (intro hb; (try intro _ hK); have hc := hb; try simp only [go_sem] at hc; simp only [go_sem, *])) | refine Qh rfl ?_ | refine Qd rfl (by kernel_rfl) ?_ | (refine Qc rfl rfl ?_ ?_ <;> (intro hb; have hc := hb; try simp only [go_sem] at hc)) | refine q6 rfl ?_ | (refine Qb ?_ ?_; focus kernel_rfl) | ((with_reducible apply And.intro); focus omega) | (refine z8 hK ?_; clear hK; simp only [go_sem, *]) | simp only [z7, z6, go_sem, *])
      all_goals first | contradiction | omega | skip
      refine b7 rfl (whole.length) (fun i (rest : Str) => 0 < rest.length ∧ rest.length ≤ 1000 ∧ zLM rest (whole.drop i) = R) 32 (fun i rest => [(22, .ptr 0 0), (5, sV rest)]) (fun i rest => [.siter ⟨whole.toArray⟩ i]) [some 0] [] (k) (by exact ⟨hk0, hk1, hP0⟩) ?_; intro i rest hi hP
      clear hP0 q2n
      obtain ⟨hr0, hr1, hP⟩ := hP
      obtain ⟨a, x, rfl⟩ : ∃ a x, rest = a :: x := by
        cases rest with
        | nil => simp at hr0
        | cons a x => exact ⟨a, x, rfl⟩
      by_cases hi2 : i < whole.length
      · have ha := hwa i hi2
        have hd := G2 hi2 ha
        have ee := zAL (n := ((whole.getD i 0).toNat : Int)) (by omega) (by omega)
        rw [Int.toNat_natCast, UInt8.ofNat_toNat] at ee
        have st := zGU (a :: x) [whole.getD i 0] (by omega) (by simp)
        rw [o0 hi2] at hP
        have hP : (if a = whole.getD i default then zLM x (whole.drop (i + 1)) else zLM (a :: x) (whole.drop (i + 1))) = R := hP
        have hdef : whole.getD i default = whole.getD i 0 := rfl
        rw [hdef] at hP
        clear hdef hwa
        generalize whole.getD i 0 = c at *
        generalize he : Utf8.encode (c.toNat : Int) = eb at *
        have st : zKq prog 136 [sV (a :: x), .raw (.string eb)] [] (sV (Q8 (a :: x) [c])) [] := by rw [ee]; exact st
        clear ee
        by_cases hac : a = c
        · subst hac
          rw [if_pos rfl] at hP
          rw [zHJ] at st
          cases x with
          | nil =>
            have hP : true = R := by rw [← hP]; cases whole.drop (i + 1) <;> rfl
            subst hP
            repeat' (first | (refine Qr rfl ?_; try intro _ hK; try simp only [go_sem, *]) | (refine Qi rfl rfl rfl rfl ?_ ?_ <;> (intro hb; (try intro _ hK); have hc := hb; try simp only [go_sem] at hc; simp only [go_sem, *])) | refine Qh rfl ?_ | refine Qd rfl (by kernel_rfl) ?_ | (refine Qc rfl rfl ?_ ?_ <;> (intro hb; have hc := hb; try simp only [go_sem] at hc)) | refine q6 rfl ?_ | (refine Qb ?_ ?_; focus kernel_rfl) | (refine y1 (st) ?_; simp only [go_sem, *]) | ((with_reducible apply And.intro); focus omega) | (refine z8 hK ?_; clear hK; simp only [go_sem, *]) | simp only [z7, z6, go_sem, *])
            all_goals ((try clear hd he); first | contradiction | skip)
            (refine ⟨[_], [], [], ⟨rfl, trivial⟩, ?_⟩; simp only [go_sem, *])
          | cons b y =>
            have hr1' : (b :: y).length ≤ 1000 := by simp at hr1 ⊢; omega
            clear hr0 hr1
            repeat' (first | (refine Qr rfl ?_; try intro _ hK; try simp only [go_sem, *]) | (refine Qi rfl rfl rfl rfl ?_ ?_ <;> (intro hb; (try intro _ hK); have hc := hb; try simp only [go_sem] at hc; simp only [go_sem, *])) | refine Qh rfl ?_ | refine Qd rfl (by kernel_rfl) ?_ | (refine Qc rfl rfl ?_ ?_ <;> (intro hb; have hc := hb; try simp only [go_sem] at hc)) | refine q6 rfl ?_ | (refine Qb ?_ ?_; focus kernel_rfl) | (refine y1 (st) ?_; simp only [go_sem, *]) | ((with_reducible apply And.intro); focus omega) | (refine z8 hK ?_; clear hK; simp only [go_sem, *]) | simp only [z7, z6, go_sem, *])
            all_goals ((try clear hd he); first | contradiction | skip)
            exact o8 (i' := i + 1) [some 0] [] (b :: y) (by exact ⟨by simp, hr1', hP⟩)
        · rw [if_neg hac] at hP
          rw [zHI hac] at st
          clear hac
          repeat' (first | (refine Qr rfl ?_; try intro _ hK; try simp only [go_sem, *]) | (refine Qi rfl rfl rfl rfl ?_ ?_ <;> (intro hb; (try intro _ hK); have hc := hb; try simp only [go_sem] at hc; simp only [go_sem, *])) | refine Qh rfl ?_ | refine Qd rfl (by kernel_rfl) ?_ | (refine Qc rfl rfl ?_ ?_ <;> (intro hb; have hc := hb; try simp only [go_sem] at hc)) | refine q6 rfl ?_ | (refine Qb ?_ ?_; focus kernel_rfl) | (refine y1 (st) ?_; simp only [go_sem, *]) | ((with_reducible apply And.intro); focus omega) | (refine z8 hK ?_; clear hK; simp only [go_sem, *]) | simp only [z7, z6, go_sem, *])
          all_goals ((try clear hd he); first | contradiction | skip)
          exact o8 (i' := i + 1) [some 0] [] (a :: x) (by exact ⟨hr0, hr1, hP⟩)
      · rw [f5 (by omega)] at hP
        have hP : false = R := hP
        subst hP
        clear hwa
        repeat' (first | (refine Qr rfl ?_; try intro _ hK; try simp only [go_sem, *]) | (refine Qi rfl rfl rfl rfl ?_ ?_ <;> (intro hb; (try intro _ hK); have hc := hb; try simp only [go_sem] at hc; simp only [go_sem, *])) | refine Qh rfl ?_ | refine Qd rfl (by kernel_rfl) ?_ | (refine Qc rfl rfl ?_ ?_ <;> (intro hb; have hc := hb; try simp only [go_sem] at hc)) | refine q6 rfl ?_ | (refine Qb ?_ ?_; focus kernel_rfl) | ((with_reducible apply And.intro); focus omega) | (refine z8 hK ?_; clear hK; simp only [go_sem, *]) | simp only [z7, z6, go_sem, *])
        all_goals first | contradiction | omega | skip
        (refine ⟨[_], [], [], ⟨rfl, trivial⟩, ?_⟩; simp only [go_sem, *])
    · have e : c5 k whole = false := by
        unfold c5
        rw [show (k.getD 0 0 == whole.getD 0 0) = false by simpa using q2]; simp
      rw [e]
      have q2n : ¬ ((k.getD 0 0).toNat : Int) = (whole.getD 0 0).toNat := fun h => q2 (UInt8.toNat_inj.1 (by omega))
      clear e q2 hw
      refine q7 func111 rfl (fun E hE => ?_); simp only [go_sem, ntmps111]
      repeat' (first | (refine Qr rfl ?_; try intro _ hK; try simp only [go_sem, *]) | (refine Qi rfl rfl rfl rfl ?_ ?_ <;> (intro hb; (try intro _ hK); have hc := hb; try simp only [go_sem] at hc; simp only [go_sem, *])) | refine Qh rfl ?_ | refine Qd rfl (by kernel_rfl) ?_ | (refine Qc rfl rfl ?_ ?_ <;> (intro hb; have hc := hb; try simp only [go_sem] at hc)) | refine q6 rfl ?_ | (refine Qb ?_ ?_; focus kernel_rfl) | ((with_reducible apply And.intro); focus omega) | (refine z8 hK ?_; clear hK; simp only [go_sem, *]) | simp only [z7, z6, go_sem, *])
      all_goals first | contradiction | omega | skip
      (refine ⟨[_], [], [], ⟨rfl, trivial⟩, ?_⟩; simp only [go_sem, *])
  · have e : c5 k whole = false := by
      unfold c5
      rw [decide_eq_false q1]; rfl
    rw [e]
    clear e hw
    have q1i : (k.length : Int) ≥ (whole.length : Int) := by omega
    refine q7 func111 rfl (fun E hE => ?_); simp only [go_sem, ntmps111]
    repeat' (first | (refine Qr rfl ?_; try intro _ hK; try simp only [go_sem, *]) | (refine Qi rfl rfl rfl rfl ?_ ?_ <;> (intro hb; (try intro _ hK); have hc := hb; try simp only [go_sem] at hc; simp only [go_sem, *])) | refine Qh rfl ?_ | refine Qd rfl (by kernel_rfl) ?_ | (refine Qc rfl rfl ?_ ?_ <;> (intro hb; have hc := hb; try simp only [go_sem] at hc)) | refine q6 rfl ?_ | (refine Qb ?_ ?_; focus kernel_rfl) | ((with_reducible apply And.intro); focus omega) | (refine z8 hK ?_; clear hK; simp only [go_sem, *]) | simp only [z7, z6, go_sem, *])
    all_goals first | contradiction | omega | skip
    (refine ⟨[_], [], [], ⟨rfl, trivial⟩, ?_⟩; simp only [go_sem, *])
end Go.Abs

namespace Go.Abs
open Go Go.Proofs Tryz
attribute [local irreducible] q9 Hold y3
def zK9 (k own s : Str) : Bool := !(decide (zKs s = own)) && c5 k (zKs s)
theorem zGr (k own s : Str) (hk0 : 0 < k.length) (hk1 : k.length ≤ 1000) (v : ValidN s) : zKq prog 139 [sV s, .ptr 0 0, .ptr 1 0] [.box [sV own], .box [sV k]] (bV (zK9 k own s)) [.box [sV own], .box [sV k]] := by
 have so := V5 s v.form (by have := v.len; omega)
 have hkl := E2 v
 unfold y8 at hkl
 simp only [Bool.and_eq_true, decide_eq_true_eq] at hkl
 have ss := zG5 k (zKs s) hk0 hk1 hkl.2.2 (by omega)
 unfold zK9
 generalize zKs s = ks at *
 generalize c5 k ks = b at *
 clear hkl v hk0
 by_cases q : ks = own
 ·have e : (!decide (ks = own) && b) = false := by rw [decide_eq_true q]; rfl
  rw [e]
  subst q
  clear e ss
  refine q7 func139 rfl (fun E hE => ?_); simp only [go_sem, ntmps139]
  repeat' (first | (refine Qr rfl ?_; try intro _ hK; try simp only [go_sem, *]) | (refine Qi rfl rfl rfl rfl ?_ ?_ <;> (intro hb; (try intro _ hK); have hc := hb; try simp only [go_sem] at hc; simp only [go_sem, *])) | refine Qh rfl ?_ | refine Qd rfl (by kernel_rfl) ?_ | (refine Qc rfl rfl ?_ ?_ <;> (intro hb; have hc := hb; try simp only [go_sem] at hc)) | refine q6 rfl ?_ | (refine Qb ?_ ?_; focus kernel_rfl) | (refine y1 (so) ?_; simp only [go_sem, *]) | ((with_reducible apply And.intro); focus omega) | (refine z8 hK ?_; clear hK; simp only [go_sem, *]) | simp only [z7, z6, go_sem, *])
  all_goals try contradiction
  refine ⟨[_], [some 0, some 1], [], ⟨rfl, trivial⟩, ?_⟩
  simp only [go_sem, *]
 ·have e : (!decide (ks = own) && b) = b := by rw [decide_eq_false q]; rfl
  rw [e]
  clear e
  refine q7 func139 rfl (fun E hE => ?_); simp only [go_sem, ntmps139]
  repeat' (first | (refine Qr rfl ?_; try intro _ hK; try simp only [go_sem, *]) | (refine Qi rfl rfl rfl rfl ?_ ?_ <;> (intro hb; (try intro _ hK); have hc := hb; try simp only [go_sem] at hc; simp only [go_sem, *])) | refine Qh rfl ?_ | refine Qd rfl (by kernel_rfl) ?_ | (refine Qc rfl rfl ?_ ?_ <;> (intro hb; have hc := hb; try simp only [go_sem] at hc)) | refine q6 rfl ?_ | (refine Qb ?_ ?_; focus kernel_rfl) | ((first | refine y1 (so) ?_ | refine y1 (ss) ?_); simp only [go_sem, *]) | ((with_reducible apply And.intro); focus omega) | (refine z8 hK ?_; clear hK; simp only [go_sem, *]) | simp only [z7, z6, go_sem, *])
  all_goals try contradiction
  refine ⟨[_], [some 0, some 1], [], ⟨rfl, trivial⟩, ?_⟩
  simp only [go_sem, *]
def zLE (p : Str → Bool) : List Str → Nat → Int
 | [], _ => -1
 | x :: r, i => if p x = true then (i : Int) else zLE p r (i + 1)
theorem zAo (p : Str → Bool) : ∀ (l : List Str) (i : Nat), decide (zLE p l i ≥ 0) = l.any p
 | [], i => by simp [zLE]
 | x :: r, i => by
  rw [zLE, List.any_cons]
  cases hp : p x with
  | true => simp
  | false => rw [if_neg (by decide), zAo p r (i + 1), Bool.false_or]
theorem zGO (k own : Str) (l : List Str) (hk0 : 0 < k.length) (hk1 : k.length ≤ 1000) (hv : ∀ s, s ∈ l → ValidN s) (hl : l.length ≤ 1000) :
  zKq prog 162 [y2 l, .fn 139 [.ptr 0 0, .ptr 1 0]] [.box [sV own], .box [sV k]] (iV (zLE (zK9 k own) l 0)) [.box [sV own], .box [sV k]] := by
 have hca : u0 prog 139 = true := by kernel_rfl
 have h0 : zLE (zK9 k own) (l.drop 0) 0 = zLE (zK9 k own) l 0 := rfl
 generalize zLE (zK9 k own) l 0 = T at *
 have sm := fun s v => zGr k own s hk0 hk1 v
 refine q7 func162 rfl (fun E hE => ?_); simp only [go_sem, ntmps162]
 repeat' (first | (refine Qr rfl ?_; try intro _ hK; try simp only [go_sem, *]) | refine Qh rfl ?_ | (refine Qc rfl rfl ?_ ?_ <;> (intro hb; have hc := hb; try simp only [go_sem] at hc)) | refine q6 rfl ?_ | ((with_reducible apply And.intro); focus omega) | (refine z8 hK ?_; clear hK; simp only [go_sem, *]) | simp only [z7, z6, go_sem, *])
 refine o6 rfl (l.length) (fun i => zLE (zK9 k own) (l.drop i) i = T) 19 (fun i => [(8, iV i), (7, iV l.length), (0, y2 l), (1, .fn 139 [.ptr 0 0, .ptr 1 0])]) (fun i => [.box [sV own], .box [sV k]]) [some 0, some 1] [] (by exact h0) ?_; intro i hi hP
 clear h0
 by_cases hi2 : i < l.length
 ·have sc := sm _ (hv _ (l9 hi2))
  rw [o0 hi2, zLE] at hP
  generalize hm : zK9 k own (l.getD i default) = b at *
  clear hm
  cases b
  ·have hP : zLE (zK9 k own) (l.drop (i + 1)) (i + 1) = T := hP
   clear sm
   repeat' (first | (refine Qr rfl ?_; try intro _ hK; try simp only [go_sem, *]) | refine Qh rfl ?_ | (refine Qc rfl rfl ?_ ?_ <;> (intro hb; have hc := hb; try simp only [go_sem] at hc)) | refine q6 rfl ?_ | (refine x4 [0, 1] (sc) ?_; simp only [go_sem, *]) | ((with_reducible apply And.intro); focus omega) | (refine z8 hK ?_; clear hK; simp only [go_sem, *]) | simp only [z7, z6, go_sem, *])
   all_goals first | contradiction | omega | skip
   exact c0 (i' := i + 1) [some 0, some 1] [] (by exact hP)
  ·have hP : (i : Int) = T := hP
   subst hP
   clear sm
   repeat' (first | (refine Qr rfl ?_; try intro _ hK; try simp only [go_sem, *]) | refine Qh rfl ?_ | (refine Qc rfl rfl ?_ ?_ <;> (intro hb; have hc := hb; try simp only [go_sem] at hc)) | refine q6 rfl ?_ | (refine x4 [0, 1] (sc) ?_; simp only [go_sem, *]) | ((with_reducible apply And.intro); focus omega) | (refine z8 hK ?_; clear hK; simp only [go_sem, *]) | simp only [z7, z6, go_sem, *])
   all_goals first | contradiction | omega | skip
   refine ⟨[_], [some 0, some 1], [], ⟨rfl, trivial⟩, ?_⟩
   simp only [go_sem, *]
 ·rw [f5 (by omega)] at hP
  have hP : (-1 : Int) = T := hP
  subst hP
  clear sm
  repeat' (first | (refine Qr rfl ?_; try intro _ hK; try simp only [go_sem, *]) | refine Qh rfl ?_ | (refine Qc rfl rfl ?_ ?_ <;> (intro hb; have hc := hb; try simp only [go_sem] at hc)) | refine q6 rfl ?_ | ((with_reducible apply And.intro); focus omega) | (refine z8 hK ?_; clear hK; simp only [go_sem, *]) | simp only [z7, z6, go_sem, *])
  all_goals first | contradiction | omega | skip
  refine ⟨[_], [some 0, some 1], [], ⟨rfl, trivial⟩, ?_⟩
  simp only [go_sem, *]
theorem zGG (k own : Str) (l : List Str) (hk0 : 0 < k.length) (hk1 : k.length ≤ 1000) (hv : ∀ s, s ∈ l → ValidN s) (hl : l.length ≤ 1000) :
  zKq prog 138 [y2 l, .fn 139 [.ptr 0 0, .ptr 1 0]] [.box [sV own], .box [sV k]] (bV (l.any (zK9 k own))) [.box [sV own], .box [sV k]] := by
 have si := zGO k own l hk0 hk1 hv hl
 rw [← zAo (zK9 k own) l 0]
 generalize zLE (zK9 k own) l 0 = n at *
 clear hv
 refine q7 func138 rfl (fun E hE => ?_); simp only [go_sem, ntmps138]
 repeat' (first | (refine Qr rfl ?_; try intro _ hK; try simp only [go_sem, *]) | refine Qh rfl ?_ | (refine Qc rfl rfl ?_ ?_ <;> (intro hb; have hc := hb; try simp only [go_sem] at hc)) | refine q6 rfl ?_ | (refine x4 [0, 1] (si) ?_; simp only [go_sem, *]) | ((with_reducible apply And.intro); focus omega) | (refine z8 hK ?_; clear hK; simp only [go_sem, *]) | simp only [z7, z6, go_sem, *])
 refine ⟨[_], [some 0, some 1], [], ⟨rfl, trivial⟩, ?_⟩
 simp only [go_sem, *]
theorem zGs (k own : Str) (l : List Str) (hk0 : 0 < k.length) (hk1 : k.length ≤ 1000) (hv : ∀ s, s ∈ l → ValidN s) (hl : l.length ≤ 1000) :
  zKq prog 114 [sV k, y2 l, sV own] [] (bV (t8 k l own)) [] := by
 have sc := zGG k own l hk0 hk1 hv hl
 have e : t8 k l own = l.any (zK9 k own) := rfl
 rw [e]
 clear e hv
 generalize l.any (zK9 k own) = b at *
 refine q7 func114 rfl (fun E hE => ?_); simp only [go_sem, ntmps114]
 repeat' (first | (refine Qr rfl ?_; try intro _ hK; try simp only [go_sem, *]) | refine Qh rfl ?_ | (refine Qc rfl rfl ?_ ?_ <;> (intro hb; have hc := hb; try simp only [go_sem] at hc)) | refine q6 rfl ?_ | (refine x4 [1, 0] (sc) ?_; simp only [go_sem, *]) | ((with_reducible apply And.intro); focus omega) | (refine z8 hK ?_; clear hK; simp only [go_sem, *]) | simp only [z7, z6, go_sem, *])
 (refine ⟨[_], [], [], ⟨rfl, trivial⟩, ?_⟩; simp only [go_sem, *])
end Go.Abs

