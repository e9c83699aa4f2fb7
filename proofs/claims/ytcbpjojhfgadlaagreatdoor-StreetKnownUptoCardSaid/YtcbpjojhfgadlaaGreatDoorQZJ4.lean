/-
  WHAT THE PROOF STANDS ON, PART 4: contracts of the program's functions and the logic that they are proved in. No condition.
-/
import Derived.Test.YtcbpjojhfgadlaaGreatDoorRows
import Derived.ProofKit
import Derived.OpenShut
import Derived.JoinedCond
import Derived.ChangeSlices
import Derived.Carry
import Derived.Test.YtcbpjojhfgadlaaGreatDoorCards
import Derived.Deep.DeepHandedRow
import Derived.Deep.DeepWitnessRowRef
import Derived.Deep.DeepLaidRun
import Derived.LaidHandle
import Derived.KernelRfl
import Derived.Lib.Builder
import Derived.Maps.Keyed
import Derived.DeepKeys3
import Derived.Test.YtcbpjojhfgadlaaGreatDoorQZJ3
set_option maxRecDepth 100000
set_option maxHeartbeats 4000000
set_option linter.unusedVariables false
set_option linter.unusedSimpArgs false
set_option linter.unusedSectionVars false
namespace Go.Abs
open Go Go.Proofs Go.Proofs.YtcbpjojhfgadlaaGreatDoor Go.ChangeShapes Go.WideShapes Go.ChangeAt Go.RowKit
theorem zOu : ownKnob Tryz.prog.godebug = none := by kernel_rfl
theorem zLt : laidOutB Tryz.prog = true := by kernel_rfl
abbrev zOC (w : World) : Nat → Prop := fun b => b < w.heap.size
def D5 (w : World) : Prop := ∀ p, p ∈ I3 → w.cell? ⟨p.1, 0, none⟩ = some p.2
theorem zJb (w : World) (hlaid : D5 w) : SR (i4 w (zOC w) 0 (fun _ => .un)) (zOC w) (fun _ => .un) (hs []) W7 w :=
 ⟨.nil, rfl, fun t => .pure (.any _), fun o => rfl, fun o o' b c c' h => by simp [hs, zNf, AS.obj, lkO, AObj.live] at h, fun b hb => hb, fun o b c h => by simp [hs, zNf, AS.obj, lkO, AObj.live] at h,
  ⟨rfl, rfl, rfl, Nat.le_refl _, fun b _ _ => rfl, fun _ => Nat.le_refl _, fun p hp => ⟨hlaid p hp, fun ⟨j, c, hj, _⟩ => absurd hj (Nat.not_lt_zero j)⟩⟩, fun b hb => hb, fun b hb => .inl hb, fun k hk => absurd hk (Nat.not_lt_zero k)⟩
theorem zK2 {f : FuncId} {args : List AV} (sp : zNV Tryz.prog f args [] (bV true) []) (w : World) (vs : Array Value) (hl : vs.size = args.length) (hv : ∀ i (h : i < args.length) (h' : i < vs.size), PR w (zOC w) args[i] vs[i]) (hlaid : D5 w := by (intro p hp; simp [I3] at hp)) :
  Calls Tryz.prog f vs w fun e w' => e = .returned (.bool true) ∧ Below w.heap.size w w' := by
 refine (sp w (zOC w) (fun _ => .un) vs (zJb w hlaid) hl (fun i h h' => .pure (hv i h h'))).mono ?_
 rintro e w' ⟨v, I', loc', rfl, hp⟩
 have hr := hp.val.raw_eq
 subst hr
 have fr := hp.sr.fr
 exact ⟨rfl, fr.os, fr.tape, fr.output, fr.size, fun k hk => fr.block k hk (fun ⟨j, c, hj, _⟩ => absurd hj (Nat.not_lt_zero j))⟩
theorem zHV {H : Type} (d : DataW H) : 1 ≤ Rows.uptoBulk d := by
 cases d with
 | lit l => cases l <;> simp [Rows.uptoBulk]
 | _ => simp [Rows.uptoBulk]
theorem zGv {H : Type} (l : List (DataW H)) : l.length ≤ Rows.uptoBulkAll l := by
 induction l with
 | nil => simp [Rows.uptoBulkAll]
 | cons x r ih => have := zHV x; simp only [Rows.uptoBulkAll, List.length_cons]; omega
theorem zKA {H : Type} {enc : TypeId × Value → H} {W : World} {v : Value} {d : DataW H} {ps : List MemPlace} (hval : Value.okWide Tryz.prog W .any 0 25 v ∨ ∃ base, Value.okWide Tryz.prog W .any base 25 v)
    (h : DataW.Trod enc Tryz.prog W 0 (fun _ => true) true 25 v d ps) (hk : Rows.uptoBulk d ≤ 1048576) : ∃ l : List Int, PR W (zOC W) (.list (l.map iV)) v ∧ l.length ≤ 1048576 := by
  have hsl : ∃ a len cap, v = .slice a len cap := by
    rcases hval with hval | ⟨base, hval⟩
    · exact okWide_slice Tryz.underlying25 hval
    · exact okWide_slice Tryz.underlying25 hval
  obtain ⟨a, len, cap, rfl⟩ := hsl
  obtain ⟨fuel, hf⟩ := h
  have hc : Tryz.prog.cellsOf 3 = 1 := by kernel_rfl
  rcases open_ints Tryz.underlying25 Tryz.underlying3 hc hf with ⟨hcs, _⟩ | ⟨a0, len0, cap0, zs, hcs, _, hle, hm, hz, hx, hcell, hwz⟩
  · have e : Value.slice a len cap = .slice none 0 0 := by simpa [Value.cells] using hcs
    rw [e]
    exact ⟨[], .nil _ _, by simp⟩
  · have e : Value.slice a len cap = .slice (some a0) len0 cap0 := by simpa [Value.cells] using hcs
    rw [e]
    simp only [if_true] at hz
    have hd := congrArg Prod.fst hx
    simp only at hd
    subst hd
    have hlen : (zs.take len0).length = len0 := by simp; omega
    refine ⟨zs.take len0, ?_, ?_⟩
    · by_cases h0 : len0 = 0
      · subst h0; exact .nil _ _
      · have h1 := hcell 0 (by omega)
        have hspot : a0.spot = none := by
          unfold World.cell? at h1
          split at h1
          · split at h1
            · cases h1
            · rename_i hs
              simpa [Addr.add] using hs
          · cases h1
        have hblk : a0.block < W.heap.size := by
          unfold World.cell? at h1
          split at h1
          · rename_i hb
            have := (Array.getElem?_eq_some_iff.1 hb).1
            simpa [Addr.add] using this
          · cases h1
        obtain ⟨b, off, sp⟩ := a0
        simp only at hspot hblk
        subst hspot
        have key := PR.list (w := W) (I := zOC W) b off cap0 1 ((zs.take len0).map iV) (fun i _ => .int .i64 (zs.getD i 0)) hblk (by omega) (by simp; omega) (fun i hi => by simp [AV.cells])
          (fun i j hi hj => by
            have hi' : i < zs.length := by simp at hi; omega
            have := hcell i hi'
            have hj0 : j = 0 := by omega
            subst hj0
            have ea : (⟨b, off, none⟩ : Addr).add i = ⟨b, off + i * 1 + 0, none⟩ := by
              unfold Addr.add
              split
              · rename_i h; subst h; simp
              · simp
            rw [ea] at this; exact this)
          (fun i hi j hj => by
            have hi' : i < zs.length := by simp at hi; omega
            have hj0 : j = 0 := by simp [AV.cells] at hj; omega
            subst hj0
            have e2 : (((zs.take len0).map iV)[i]).cells[0] = iV (zs.getD i 0) := by simp [AV.cells, List.getD, hi']
            rw [e2]
            exact .raw _ rfl)
        rw [List.length_map, hlen] at key
        exact key
    · have h1 : (zs.take len0).length ≤ Rows.uptoBulkAll (H := H) (lits .i64 (zs.take len0)) := by
        have := zGv (H := H) (lits .i64 (zs.take len0))
        simpa [lits] using this
      simp only [Rows.uptoBulk] at hk
      omega
end Go.Abs

namespace Go.Abs
open Go Go.Proofs Go.Proofs.YtcbpjojhfgadlaaGreatDoor Go.ChangeShapes Go.WideShapes Go.ChangeAt Go.RowKit
inductive Sh where
 | int
 | str
 | sl (b : Bool) (e : Sh)
 | st (body : Sh)
 | emp
 | cat (x y : Sh)
def Sh.n : Sh → Nat
 | .int => 1
 | .str => 1
 | .sl _ _ => 1
 | .st b => b.n
 | .emp => 0
 | .cat x y => x.n + y.n
def Sh.ok : Sh → TypeId ⊕ (List Field × Nat) → Prop
 | .int, .inl t => Tryz.prog.underlying t = some (.int .i64)
 | .str, .inl t => Tryz.prog.underlying t = some .string
 | .sl b e, .inl t => ∃ u, Tryz.prog.underlying t = some (.slice u) ∧ Tryz.prog.cellsOf u = e.n ∧ 0 < e.n ∧ (b = true → e.n = 1) ∧ e.ok (.inl u)
 | .st b, .inl t => ∃ fs, Tryz.prog.underlying t = some (.struct fs) ∧ Tryz.prog.cellsOf t = b.n ∧ b.ok (.inr (fs.toList, 0))
 | .emp, .inr (l, _) => l = []
 | .cat x y, .inr (l, off) => ∃ f r, l = f :: r ∧ f.offset = off ∧ Tryz.prog.cellsOf f.type = x.n ∧ x.ok (.inl f.type) ∧ y.ok (.inr (r, off + x.n))
 | _, _ => False
def TyC (N : Nat) : Sh → List AV → Prop
 | .int, c => ∃ n : Int, (Lit.int .i64 n).wf = true ∧ c = [iV n]
 | .str, c => ∃ s : Str, s.length ≤ N ∧ c = [sV s]
 | .sl b e, c => ∃ xs, c = [.list xs] ∧ xs.length ≤ N ∧ ∀ x, x ∈ xs → ∃ d, TyC N e d ∧ x = if b = true then d.getD 0 .any else .agg d
 | .st b, c => TyC N b c
 | .emp, c => c = []
 | .cat x y, c => ∃ c1 c2, c = c1 ++ c2 ∧ TyC N x c1 ∧ TyC N y c2
theorem TyC.len {N : Nat} : ∀ {s : Sh} {c : List AV}, TyC N s c → c.length = s.n
 | .int, c, ⟨n, _, h⟩ => by subst h; rfl
 | .str, c, ⟨n, _, h⟩ => by subst h; rfl
 | .sl b e, c, ⟨xs, h, _⟩ => by subst h; rfl
 | .st b, c, h => TyC.len (s := b) h
 | .emp, c, h => by cases (show c = [] from h); rfl
 | .cat x y, c, ⟨c1, c2, h, h1, h2⟩ => by subst h; rw [List.length_append, TyC.len h1, TyC.len h2]; rfl
end Go.Abs

namespace Go.Abs
open Go Go.Proofs Go.Proofs.YtcbpjojhfgadlaaGreatDoor Go.ChangeShapes Go.WideShapes Go.ChangeAt Go.RowKit
theorem pick {α : Type} [Inhabited α] {len : Nat} {p : Nat → α → Prop} (h : ∀ i, i < len → ∃ a, p i a) : ∃ F : Nat → α, ∀ i, i < len → p i (F i) :=
 ⟨fun i => if h' : i < len then Classical.choose (h i h') else default, fun i hi => by simp only [hi, dif_pos]; exact Classical.choose_spec (h i hi)⟩
theorem TyC.bare {N : Nat} : ∀ {s : Sh} {c : List AV}, TyC N s c → ∀ x, x ∈ c → x.cells = [x]
 | .int, c, ⟨n, _, h⟩, x, hx => by subst h; cases List.mem_singleton.1 hx; rfl
 | .str, c, ⟨n, _, h⟩, x, hx => by subst h; cases List.mem_singleton.1 hx; rfl
 | .sl b e, c, ⟨xs, h, _⟩, x, hx => by subst h; cases List.mem_singleton.1 hx; rfl
 | .st b, c, h, x, hx => TyC.bare (s := b) h x hx
 | .emp, c, h, x, hx => by cases (show c = [] from h); cases hx
 | .cat a b, c, ⟨c1, c2, h, h1, h2⟩, x, hx => by
  subst h
  rcases List.mem_append.1 hx with h | h
  ·exact TyC.bare h1 x h
  ·exact TyC.bare h2 x h
section
variable {H : Type} {enc : TypeId × Value → H} {W : World} {N : Nat}
noncomputable abbrev trd (enc : TypeId × Value → H) (W : World) (n : Nat) (t : TypeId) (cs : List Value) := DataW.trod enc Tryz.prog W 0 (fun _ => true) true n t cs
def zDr (W : World) (c : List AV) (cs : List Value) : Prop := c.length = cs.length ∧ ∀ i (h : i < c.length) (h' : i < cs.length), PR W (zOC W) c[i] cs[i]
theorem zH0 {n : Nat} {t : TypeId} {cs : List Value} {x : DataW H × List MemPlace} (ht : Sh.ok .str (.inl t)) (h : trd enc W n t cs = some x) (hk : Rows.uptoBulk x.1 ≤ N) : ∃ c, TyC N .str c ∧ zDr W c cs := by
 obtain ⟨b, rfl, rfl, _⟩ := DataW.trod_string ht h
 obtain ⟨l, rfl⟩ := zEY b
 refine ⟨[sV l], ⟨l, ?_, rfl⟩, rfl, fun i h h' => ?_⟩
 ·simp [Rows.uptoBulk] at hk; omega
 ·have : i = 0 := by simp at h; omega
  subst this
  exact .raw _ rfl
end
end Go.Abs

namespace Go.Abs
open Go Go.Proofs Go.Proofs.YtcbpjojhfgadlaaGreatDoor
abbrev zB0 : Value := .iface 179 (.agg #[.pointer (some ⟨4, 102, none⟩)])
def zOe : DataW Unit → Array Value
 | .agg l => (l.map fun
  | .lit (.int k z) => Value.int k z
  | _ => undef).toArray
 | _ => #[]
noncomputable def zGq (os : Os) : World :=
 let w0 := World.holding Tryz.prog os ⟨#[], #[], []⟩
 let put (h : Array Obj) (g : Nat) (cs : Array Value) : Array Obj := h.modify g fun
  | .cells _ t frozen => .cells cs t frozen
  | o => o
 { w0 with heap := put (put (put (put w0.heap 1 (zOe Rows.laid_internal_strconv_uint64pow10)) 2 (zOe Rows.laid_math_bits_deBruijn32tab)) 3 (zOe Rows.laid_math_bits_deBruijn64tab)) 0 #[zB0] }
abbrev zCC : List (String × DataW Unit) := [("math/bits.deBruijn32tab", Rows.laid_math_bits_deBruijn32tab), ("math/bits.deBruijn64tab", Rows.laid_math_bits_deBruijn64tab), ("internal/strconv.uint64pow10", Rows.laid_internal_strconv_uint64pow10)]
abbrev zAK : List (String × DataW Unit) := [("math/bits.deBruijn32tab", Rows.laid_math_bits_deBruijn32tab), ("math/bits.deBruijn64tab", Rows.laid_math_bits_deBruijn64tab), ("internal/strconv.uint64pow10", Rows.laid_internal_strconv_uint64pow10), ("errors.errorType", Rows.laid_errors_errorType)]
theorem zLu (os : Os) (args : Array Value) : laidMetH Tryz.prog zAK ((zGq os).forCall (fun _ _ => 0) ⟨#[], args, []⟩).memory := by
 refine laidMetH_of_parts ?_ (by kernel_rfl)
 show laidMet Tryz.prog zCC _
 exact laidMet_of_run3 8 (by kernel_rfl) (by kernel_rfl) (by kernel_rfl)
theorem zFG : Tryz.prog.globalNamed "errors.errorType" = some 0 := by kernel_rfl
theorem rt_type : (Tryz.prog.cutTypes.find? (·.1 == "internal/reflectlite.rtype")).map (·.2) = some 179 := by kernel_rfl
theorem zJp : Tryz.prog.types.size = 274 := by kernel_rfl
theorem zHU : ((List.range 274).filter fun t => Tryz.prog.rowNamed t [101, 114, 114, 111, 114]) = [102] := by kernel_rfl
theorem zGF {W : World} (h : laidMetH Tryz.prog zAK W) : W.cell? ⟨0, 0, none⟩ = some zB0 := by
 have h' : laidMet Tryz.prog zCC W ∧ handlesMet Tryz.prog [("errors.errorType", Rows.laid_errors_errorType)] W := h
 obtain ⟨name, u, ty, e1, e2, e3, e4, e5⟩ := h'.2 _ (List.mem_singleton.2 rfl)
 have en : name = [101, 114, 114, 111, 114] := (Option.some.inj e1).symm
 subst en
 obtain rfl := Option.some.inj (rt_type.symm.trans e2)
 have hm : ty ∈ (List.range 274).filter fun t => Tryz.prog.rowNamed t [101, 114, 114, 111, 114] := List.mem_filter.2 ⟨List.mem_range.2 (by rw [← zJp]; exact e3), e4⟩
 rw [zHU] at hm
 obtain rfl := List.mem_singleton.1 hm
 have hh : typeHandle Tryz.prog 102 = .pointer (some ⟨4, 102, none⟩) := by kernel_rfl
 rw [hh] at e5
 simpa using World.var?_cell zFG e5 0
theorem zLs {W : World} (h : laidMetH Tryz.prog zAK W) : D5 W := fun p hp => by
 rw [List.mem_singleton.1 hp]; exact zGF h
theorem zMj : laidOutB Tryz.pinned.checked.prog = true := by kernel_rfl
theorem zMl : mapsRowed Tryz.pinned.checked.prog = true := by kernel_rfl
theorem zMm : (Tryz.pinned.checked.prog.stops == []) = true := by kernel_rfl
theorem zMi : (Tryz.pinned.checked.prog.stopKnobs == []) = true := by kernel_rfl
theorem zMh : Tryz.pinned.checked.prog.stopsHeard = true := by kernel_rfl
theorem zMg : Tryz.pinned.checked.prog.mayEnter = true := by kernel_rfl
theorem zMk : true = Tryz.pinned.checked.prog.looks [] := by kernel_rfl
end Go.Abs

namespace Go.Abs
open Go
theorem Plate.lt_iff (a b : Plate) : a.lt b = true ↔ a.number < b.number ∨ (a.number = b.number ∧ a.letter < b.letter) := by simp [Plate.lt]
theorem House.lt_iff (a b : House) : a.lt b = true ↔ a.street < b.street ∨ (a.street = b.street ∧ (a.plate.number < b.plate.number ∨ (a.plate.number = b.plate.number ∧ a.plate.letter < b.plate.letter))) := by simp [House.lt, Plate.lt]
theorem Plate.eq_iff (a b : Plate) : a = b ↔ a.number = b.number ∧ a.letter = b.letter := by cases a; cases b; simp
theorem House.eq_iff (a b : House) : a = b ↔ a.street = b.street ∧ a.plate.number = b.plate.number ∧ a.plate.letter = b.plate.letter := by
 cases a with | mk s p => cases b with | mk t q => cases p; cases q; simp
theorem Plate.lt_trans {a b c : Plate} (h1 : a.lt b = true) (h2 : b.lt c = true) : a.lt c = true := by rw [Plate.lt_iff] at *; omega
theorem House.lt_trans {a b c : House} (h1 : a.lt b = true) (h2 : b.lt c = true) : a.lt c = true := by rw [House.lt_iff] at *; omega
theorem Plate.lt_irrefl (a : Plate) : ¬ a.lt a = true := by rw [Plate.lt_iff]; omega
theorem House.lt_irrefl (a : House) : ¬ a.lt a = true := by rw [House.lt_iff]; omega
theorem House.lt_tri (a b : House) : a.lt b = true ∨ a = b ∨ b.lt a = true := by rw [House.lt_iff, House.lt_iff, House.eq_iff]; omega
theorem Plate.lt_tri (a b : Plate) : a.lt b = true ∨ a = b ∨ b.lt a = true := by rw [Plate.lt_iff, Plate.lt_iff, Plate.eq_iff]; omega
theorem M2 (a b : Plate) : zNh a b < 0 ↔ a.lt b = true := by
 rw [Plate.lt_iff]; unfold zNh orI zN2; repeat' split
 all_goals omega
theorem B2 (a b : House) : zNv a b < 0 ↔ a.lt b = true := by
 rw [House.lt_iff]; unfold zNv zNh orI zN2; repeat' split
 all_goals omega
theorem mem_insH {x z : House} : ∀ {l : List House}, z ∈ zN0 x l ↔ z = x ∨ z ∈ l
 | [] => by simp [zN0]
 | y :: r => by
  simp only [zN0]
  split
  ·simp only [List.mem_cons, mem_insH (l := r)]
   constructor
   ·rintro (h | h | h) <;> simp [h]
   ·rintro (h | h | h) <;> simp [h]
  ·split
   ·rename_i e; subst e; simp
   ·simp
abbrev Strict (l : List House) : Prop := l.Pairwise (fun a b => a.lt b = true)
theorem zDV {x : House} : ∀ {l : List House}, Strict l → Strict (zN0 x l)
 | [], _ => by simp [zN0, Strict]
 | y :: r, h => by
  obtain ⟨h1, h2⟩ := List.pairwise_cons.1 h
  simp only [zN0]
  split
  ·rename_i hy
   refine List.pairwise_cons.2 ⟨fun z hz => ?_, zDV h2⟩
   rcases mem_insH.1 hz with rfl | hz
   ·exact hy
   ·exact h1 z hz
  ·rename_i hy
   split
   ·exact h
   ·rename_i hne
    have hxy : x.lt y = true := by
     rcases House.lt_tri x y with h | h | h
     ·exact h
     ·exact absurd h.symm hne
     ·exact absurd h hy
    refine List.pairwise_cons.2 ⟨fun z hz => ?_, h⟩
    rcases List.mem_cons.1 hz with rfl | hz
    ·exact hxy
    ·exact House.lt_trans hxy (h1 z hz)
theorem zC2 (l : List House) : ∀ out : List House, Strict out → Strict (l.foldl (fun out x => zN0 x out) out) ∧ ∀ z, z ∈ l.foldl (fun out x => zN0 x out) out ↔ z ∈ out ∨ z ∈ l := by
 induction l with
 | nil => intro out h; exact ⟨h, fun z => by simp⟩
 | cons x r ih =>
  intro out h
  obtain ⟨h1, h2⟩ := ih (zN0 x out) (zDV h)
  refine ⟨h1, fun z => ?_⟩
  simp only [List.foldl_cons]
  rw [h2, mem_insH, List.mem_cons]
  constructor
  ·rintro ((h | h) | h) <;> simp [h]
  ·rintro (h | h | h) <;> simp [h]
theorem J3 (l : List House) : Strict (p5 l) := (zC2 l [] List.Pairwise.nil).1
theorem mem_sortH {l : List House} {z : House} : z ∈ p5 l ↔ z ∈ l := by
 have := (zC2 l [] List.Pairwise.nil).2 z
 simpa [p5] using this
theorem E9 : ∀ {a b : List House}, Strict a → Strict b → (∀ z, z ∈ a ↔ z ∈ b) → a = b
 | [], [], _, _, _ => rfl
 | [], y :: b, _, _, h => absurd ((h y).2 (by simp)) (by simp)
 | x :: a, [], _, _, h => absurd ((h x).1 (by simp)) (by simp)
 | x :: a, y :: b, ha, hb, h => by
  obtain ⟨a1, a2⟩ := List.pairwise_cons.1 ha
  obtain ⟨b1, b2⟩ := List.pairwise_cons.1 hb
  have hxy : x = y := by
   rcases List.mem_cons.1 ((h x).1 (by simp)) with e | h1
   ·exact e
   ·rcases List.mem_cons.1 ((h y).2 (by simp)) with e | h2
    ·exact e.symm
    ·exact absurd (House.lt_trans (b1 x h1) (a1 y h2)) (House.lt_irrefl _)
  subst hxy
  have : a = b := E9 a2 b2 (fun z => by
   have hz := h z
   simp only [List.mem_cons] at hz
   constructor
   ·intro hm
    rcases hz.1 (.inr hm) with e | hm'
    ·subst e; exact absurd (a1 z hm) (House.lt_irrefl _)
    ·exact hm'
   ·intro hm
    rcases hz.2 (.inr hm) with e | hm'
    ·subst e; exact absurd (b1 z hm) (House.lt_irrefl _)
    ·exact hm')
  rw [this]
theorem Strict.nodup {l : List House} (h : Strict l) : l.Nodup := h.imp (fun {a b} hab e => by subst e; exact House.lt_irrefl _ hab)
theorem zBS : ∀ (l : List Plate) (o : Option Plate), s8 o l = 0 ↔ (∀ x, x ∈ l → x.ok = true) ∧ l.Pairwise (fun x y => x.lt y = true) ∧ ∀ y, o = some y → ∀ x, x ∈ l → y.lt x = true
 | [], o => by cases o <;> simp [s8]
 | x :: r, o => by
  have key : s8 o (x :: r) = 0 ↔ x.ok = true ∧ (∀ y, o = some y → y.lt x = true) ∧ s8 (some x) r = 0 := by
   cases o with
   | none => simp only [s8]; by_cases h : x.ok = true <;> simp [h]
   | some y => simp only [s8]; by_cases h : x.ok = true <;> by_cases h' : y.lt x = true <;> simp [h, h']
  rw [key, zBS r (some x)]
  constructor
  ·rintro ⟨h1, h2, h3, h4, h5⟩
   refine ⟨fun z hz => ?_, List.pairwise_cons.2 ⟨fun z hz => h5 x rfl z hz, h4⟩, fun y e z hz => ?_⟩
   ·rcases List.mem_cons.1 hz with rfl | hz
    ·exact h1
    ·exact h3 z hz
   ·rcases List.mem_cons.1 hz with rfl | hz
    ·exact h2 y e
    ·exact Plate.lt_trans (h2 y e) (h5 x rfl z hz)
  ·rintro ⟨h1, h2, h3⟩
   obtain ⟨h4, h5⟩ := List.pairwise_cons.1 h2
   exact ⟨h1 x (by simp), fun y e => h3 y e x (by simp), fun z hz => h1 z (by simp [hz]), h5, fun y e z hz => by cases e; exact h4 z hz⟩
theorem zBT : ∀ (p : zNU), j7 p = 0 ↔ ∀ l, l ∈ p → Sound l
 | [] => by simp [j7]
 | l :: r => by
  have key : j7 (l :: r) = 0 ↔ l.length ≤ 8 ∧ s8 none l = 0 ∧ j7 r = 0 := by
   simp only [j7]
   by_cases h : 8 < l.length
   ·rw [if_pos h]; exact ⟨fun e => by omega, fun e => by omega⟩
   ·rw [if_neg h]
    by_cases h' : s8 none l = 0
    ·rw [if_pos h']; exact ⟨fun e => ⟨by omega, h', e⟩, fun e => e.2.2⟩
    ·rw [if_neg h']; exact ⟨fun e => absurd e h', fun e => absurd e.2.1 h'⟩
  rw [key, zBT r, zBS]
  constructor
  ·rintro ⟨h1, ⟨h2, h3, _⟩, h4⟩ m hm
   rcases List.mem_cons.1 hm with rfl | hm
   ·exact ⟨h1, h2, h3⟩
   ·exact h4 m hm
  ·intro h
   have hl := h l (by simp)
   exact ⟨hl.len, ⟨hl.ok, hl.sorted, fun y e => by cases e⟩, fun m hm => h m (by simp [hm])⟩
theorem Q1 (p : zNU) : check p = 0 ↔ Valid p := by
 unfold check
 by_cases h : p.length = 0
 ·simp only [h, if_true]; exact ⟨fun e => by omega, fun v => absurd v.ne (by omega)⟩
 ·by_cases h' : 3 < p.length
  ·simp only [h, h', if_true, if_false]; exact ⟨fun e => by omega, fun v => absurd v.len (by omega)⟩
  ·simp only [h, h', if_false, zBT]
   exact ⟨fun hr => ⟨by omega, by omega, hr⟩, fun v => v.rows⟩
theorem zGU (k : Nat) (p : zNU) : d6 k p = (List.range p.length).flatMap fun s => (p.getD s default).map fun x => (⟨((k + s : Nat) : Int), x⟩ : House) := by
 induction p generalizing k with
 | nil => simp [d6]
 | cons l r ih =>
  simp only [d6, List.length_cons, List.range_succ_eq_map, List.flatMap_cons, List.flatMap_map, ih]
  simp [Nat.add_assoc, Nat.add_comm 1]
theorem H9 (p : zNU) : q6 p = (List.range p.length).flatMap fun s => (p.getD s default).map fun x => (⟨(s : Nat), x⟩ : House) := by
 have := zGU 0 p
 simpa [q6] using this
theorem mem_houses {p : zNU} {h : House} : h ∈ q6 p ↔ 0 ≤ h.street ∧ h.street < p.length ∧ h.plate ∈ z7 p h.street := by
 rw [H9]
 simp only [List.mem_flatMap, List.mem_range, List.mem_map, z7]
 constructor
 ·rintro ⟨s, hs, x, hx, rfl⟩
  exact ⟨by simp, by simp; exact hs, by simpa using hx⟩
 ·rintro ⟨h0, h1, h2⟩
  refine ⟨h.street.toNat, by omega, h.plate, h2, ?_⟩
  cases h; simp at *; omega
theorem zH8 {p : zNU} {s : Int} (h0 : 0 ≤ s) (h1 : s < p.length) : z7 p s ∈ p := w5 (by omega)
theorem Valid.row {p : zNU} (v : Valid p) (s : Int) : Sound (z7 p s) := by
 unfold z7
 by_cases h : s.toNat < p.length
 ·exact v.rows _ (w5 h)
 ·simp only [List.getD_eq_getElem?_getD, List.getElem?_eq_none (Nat.le_of_not_lt h), Option.getD_none]
  show Sound []
  exact ⟨by simp, fun x hx => by simp at hx, List.Pairwise.nil⟩
theorem zDU {p : zNU} (v : Valid p) : Strict (q6 p) := by
 rw [H9]
 have key : ∀ n, n ≤ p.length → Strict ((List.range n).flatMap fun s => (p.getD s default).map fun x => (⟨(s : Nat), x⟩ : House)) := by
  intro n
  induction n with
  | zero => intro _; simp [Strict]
  | succ n ih =>
   intro hn
   rw [List.range_succ, List.flatMap_append]
   refine List.pairwise_append.2 ⟨ih (by omega), ?_, fun a ha b hb => ?_⟩
   ·simp only [List.flatMap_cons, List.flatMap_nil, List.append_nil]
    rw [List.pairwise_map]
    exact (v.rows _ (w5 (by omega))).sorted.imp (fun {x y} h => by rw [House.lt_iff]; rw [Plate.lt_iff] at h; exact .inr ⟨rfl, h⟩)
   ·simp only [List.mem_flatMap, List.mem_range, List.mem_map, List.flatMap_cons, List.flatMap_nil, List.append_nil] at ha hb
    obtain ⟨s, hs, x, _, rfl⟩ := ha
    obtain ⟨y, _, rfl⟩ := hb
    rw [House.lt_iff]; left; simp; omega
 exact key _ (Nat.le_refl _)
end Go.Abs

namespace Go.Abs
open Go
theorem P7 {α : Type} [DecidableEq α] : ∀ {a b : List α}, a.Nodup → (∀ x, x ∈ a → x ∈ b) → a.length ≤ b.length
 | [], _, _, _ => by simp
 | y :: r, b, hn, hs => by
  obtain ⟨hy, hr⟩ := List.nodup_cons.1 hn
  have hyb := hs y (by simp)
  have hlen := List.length_erase_of_mem hyb
  have hpos : 0 < b.length := List.length_pos_of_mem hyb
  have := P7 (b := b.erase y) hr (fun z hz => (List.mem_erase_of_ne (fun e => by subst e; exact hy hz)).2 (hs z (by simp [hz])))
  simp; omega
theorem zJh {p : zNU} (v : ∀ l, l ∈ p → l.Pairwise (fun x y : Plate => x.lt y = true)) : Strict (q6 p) := by
 rw [H9]
 have key : ∀ n, n ≤ p.length → Strict ((List.range n).flatMap fun s => (p.getD s default).map fun x => (⟨(s : Nat), x⟩ : House)) := by
  intro n
  induction n with
  | zero => intro _; simp [Strict]
  | succ n ih =>
   intro hn
   rw [List.range_succ, List.flatMap_append]
   refine List.pairwise_append.2 ⟨ih (by omega), ?_, fun a ha b hb => ?_⟩
   ·simp only [List.flatMap_cons, List.flatMap_nil, List.append_nil]
    rw [List.pairwise_map]
    exact (v _ (w5 (by omega))).imp (fun {x y} h => by rw [House.lt_iff]; rw [Plate.lt_iff] at h; exact .inr ⟨rfl, h⟩)
   ·simp only [List.mem_flatMap, List.mem_range, List.mem_map, List.flatMap_cons, List.flatMap_nil, List.append_nil] at ha hb
    obtain ⟨s, hs, x, _, rfl⟩ := ha
    obtain ⟨y, _, rfl⟩ := hb
    rw [House.lt_iff]; left; simp; omega
 exact key _ (Nat.le_refl _)
theorem G6 (l : List House) (n : Nat) : (laid l n).length = n := by simp [laid]
theorem zCD (l : List House) (n : Nat) {s : Int} (h0 : 0 ≤ s) (h1 : s < n) : z7 (laid l n) s = ((p5 l).filter (fun h => h.street == s)).map House.plate := by
 unfold z7 laid
 have : s.toNat < n := by omega
 simp only [List.getD_eq_getElem?_getD, List.getElem?_map, List.getElem?_range this, Option.map_some, Option.getD_some]
 congr 1
 refine List.filter_congr (fun h _ => ?_)
 rw [Int.toNat_of_nonneg h0]
theorem P4 {l : List House} {n : Nat} {s : Int} (h0 : 0 ≤ s) (h1 : s < n) {x : Plate} : x ∈ z7 (laid l n) s ↔ (⟨s, x⟩ : House) ∈ l := by
 rw [zCD l n h0 h1]
 simp only [List.mem_map, List.mem_filter, mem_sortH, beq_iff_eq]
 constructor
 ·rintro ⟨h, ⟨hm, rfl⟩, rfl⟩; exact hm
 ·intro h; exact ⟨_, ⟨h, rfl⟩, rfl⟩
theorem E4 {l : List House} {n : Nat} {s : Int} (h0 : 0 ≤ s) (h1 : s < n) : (z7 (laid l n) s).Pairwise (fun x y => x.lt y = true) := by
 rw [zCD l n h0 h1, List.pairwise_map]
 refine ((J3 l).filter _).imp_of_mem (fun {a b} ha hb hab => ?_)
 have e1 : a.street = s := by simpa using (List.mem_filter.1 ha).2
 have e2 : b.street = s := by simpa using (List.mem_filter.1 hb).2
 rw [House.lt_iff] at hab; rw [Plate.lt_iff]; omega
theorem zCO {p : zNU} {l : List Plate} (h : l ∈ p) : ∃ s : Int, 0 ≤ s ∧ s < p.length ∧ z7 p s = l := by
 obtain ⟨i, hi, rfl⟩ := List.getElem_of_mem h
 exact ⟨i, by omega, by omega, by simp [z7, hi]⟩
theorem zGW {l : List House} {n : Nat} (h : ∀ z, z ∈ l → 0 ≤ z.street ∧ z.street < n) : q6 (laid l n) = p5 l := by
 refine E9 (zJh (fun r hr => ?_)) (J3 l) (fun z => ?_)
 ·obtain ⟨s, h0, h1, rfl⟩ := zCO hr
  rw [G6] at h1
  exact E4 h0 h1
 ·rw [mem_houses, mem_sortH, G6]
  constructor
  ·rintro ⟨h0, h1, h2⟩; exact (P4 h0 h1).1 h2
  ·intro hz
   obtain ⟨h0, h1⟩ := h z hz
   exact ⟨h0, h1, (P4 h0 h1).2 hz⟩
theorem zHq : ∀ {a b : List Plate}, a.Pairwise (fun x y => x.lt y = true) → b.Pairwise (fun x y => x.lt y = true) → (∀ z, z ∈ a ↔ z ∈ b) → a = b := by
 intro a b ha hb h
 have key : ∀ {l : List Plate}, l.Pairwise (fun x y => x.lt y = true) → Strict (l.map fun x => (⟨0, x⟩ : House)) := fun {l} hl => by
  rw [Strict, List.pairwise_map]
  exact hl.imp (fun {x y} h => by rw [House.lt_iff]; rw [Plate.lt_iff] at h; exact .inr ⟨rfl, h⟩)
 have := E9 (key ha) (key hb) (fun z => by
  simp only [List.mem_map]
  constructor
  ·rintro ⟨x, hx, rfl⟩; exact ⟨x, (h x).1 hx, rfl⟩
  ·rintro ⟨x, hx, rfl⟩; exact ⟨x, (h x).2 hx, rfl⟩)
 have h2 := congrArg (List.map House.plate) this
 simpa [List.map_map, Function.comp_def] using h2
structure Fit (p : zNU) (c : Change) : Prop where
 kind : 1 ≤ c.kind ∧ c.kind ≤ 7
 street : 0 ≤ c.street ∧ c.street < p.length
 other : c.kind = 4 ∨ c.kind = 7 → 0 ≤ c.other ∧ c.other < p.length ∧ c.other ≠ c.street
 fits : y5 p c = 0
theorem betw_iff {n a b : Int} : zNX n a b = true ↔ a ≤ n ∧ n ≤ b := by simp [zNX]
theorem zEV {n a b : Int} : zNX n a b = false ↔ ¬ (a ≤ n ∧ n ≤ b) := by rw [← betw_iff]; simp
theorem Fit.of_can {p : zNU} {c : Change} (h : can p c = 0) : Fit p c := by
 unfold can at h
 split at h
 ·omega
 rename_i h1
 split at h
 ·omega
 rename_i h2
 split at h
 ·omega
 rename_i h3
 split at h
 ·omega
 rename_i h4
 split at h
 ·omega
 simp only [Bool.not_eq_false, betw_iff, zEV] at h1 h2 h3
 exact ⟨by omega, by omega, fun hk => by omega, h⟩
theorem Q5 {l : List Plate} {x : Plate} (h : x ∈ l) : l.idxOf x < l.length := List.idxOf_lt_length_of_mem h
theorem T0 {l : List Plate} {x : Plate} (h : x ∈ l) : l[l.idxOf x]'(Q5 h) = x := by simp [List.getElem_idxOf]
theorem G1 {l : List Plate} {x y : Plate} (hx : x ∈ l) (hy : y ∈ l) (h : l.idxOf x = l.idxOf y) : x = y := by
 rw [← T0 hx, ← T0 hy]; congr 1
theorem Sound.nodup {l : List Plate} (h : Sound l) : l.Nodup := h.sorted.imp (fun {a b} hab e => by subst e; exact Plate.lt_irrefl _ hab)
theorem p9 (x : Plate) : x.ok = true ↔ (1 ≤ x.number ∧ x.number ≤ 40) ∧ 0 ≤ x.letter ∧ x.letter ≤ 4 := by simp [Plate.ok, zNX]
theorem zER {l : List Plate} {x : Plate} (h : x ∈ l) : x.number ≤ base l := by
  have key : ∀ (l : List Plate) (n : Int), n ≤ l.foldl (fun n x => max n x.number) n ∧ ∀ x, x ∈ l → x.number ≤ l.foldl (fun n x => max n x.number) n := by
    intro l
    induction l with
    | nil => intro n; simp
    | cons y r ih =>
      intro n
      obtain ⟨h1, h2⟩ := ih (max n y.number)
      simp only [List.foldl_cons]
      exact ⟨by omega, fun x hx => by rcases List.mem_cons.1 hx with rfl | hx; · omega
                                      · exact h2 x hx⟩
  have := (key l 0).2 x h
  unfold base; simp only; omega
theorem zBM (l : List Plate) : 0 ≤ base l := by
 have key : ∀ (l : List Plate) (n : Int), n ≤ l.foldl (fun n x => max n x.number) n := by
  intro l
  induction l with
  | nil => intro n; simp
  | cons y r ih => intro n; have := ih (max n y.number); simp only [List.foldl_cons]; omega
 have := key l 0
 unfold base; simp only; omega
theorem zAM {l : List Plate} {n : Int} (h : letter l n ≠ 0) : 1 ≤ letter l n ∧ letter l n ≤ 4 ∧ (⟨n, letter l n⟩ : Plate) ∉ l := by
 unfold letter at *
 repeat' split
 all_goals simp_all
section
variable {p : zNU} {c : Change} {x : Plate}
theorem N2 (h : c.kind = 1) : toP p c x = [⟨c.street, ((z7 p c.street).filter (fun y => zNb y == zNb x)).getD (((z7 p c.street).filter (fun y => zNb y == zNb x)).length - 1 - ((z7 p c.street).filter (fun y => zNb y == zNb x)).idxOf x) default⟩] := by simp [toP, h]
theorem S2 (h : c.kind = 2) : toP p c x = [⟨c.street, ⟨if zNb x = true then x.number + 1 else x.number - 1, x.letter⟩⟩] := by simp [toP, h]
theorem N1 (h : c.kind = 3) : toP p c x = [⟨c.street, ⟨2 * (((z7 p c.street).filter (fun y => zNb y == zNb x)).idxOf x : Nat) + 2 - x.number % 2, 0⟩⟩] := by simp [toP, h]
theorem S1 (h : c.kind = 4) : toP p c x = [⟨c.other, ⟨x.number + base (z7 p c.other), x.letter⟩⟩] := by simp [toP, h]
theorem U0 (h : c.kind = 5) : toP p c x = if x = c.src then [⟨c.street, x⟩, ⟨c.street, ⟨x.number, letter (z7 p c.street) x.number⟩⟩] else [⟨c.street, x⟩] := by simp [toP, h]
theorem S0 (h : c.kind = 6) : toP p c x = if x = c.src then [] else [⟨c.street, x⟩] := by simp [toP, h]
theorem T9 (h : c.kind = 7) : toP p c x = if x.lt c.src = false ∧ c.dst.lt x = false then [⟨c.other, ⟨zN3 (z7 p c.street) x - zN3 (z7 p c.street) c.src + 1, 0⟩⟩] else [⟨c.street, x⟩] := by simp [toP, h]
end
theorem P5 {l : List Plate} {x : Plate} (h : x ∈ l) : x ∈ l.filter (fun y => zNb y == zNb x) := List.mem_filter.2 ⟨h, by simp⟩
theorem zBf {p : zNU} {c : Change} (h : c.kind = 4) (hf : y5 p c = 0) : (z7 p c.street).length + (z7 p c.other).length ≤ 8 ∧ ∀ x, x ∈ z7 p c.street → x.number + base (z7 p c.other) ≤ 40 := by
 unfold y5 at hf
 simp only [h, if_true] at hf
 split at hf
 ·omega
 ·split at hf
  ·omega
  ·rename_i h1 h2
   refine ⟨by omega, fun x hx => ?_⟩
   simp only [List.any_eq_true, decide_eq_true_eq, not_exists, not_and] at h2
   have := h2 x hx; omega
theorem M4 {p : zNU} {c : Change} (h : c.kind = 5) : y5 p c = if c.src ∉ z7 p c.street then 3 else if (z7 p c.street).length = 8 ∨ letter (z7 p c.street) c.src.number = 0 then 6 else 0 := by
 unfold y5; rw [if_neg (by omega), if_pos h]
theorem zBe {p : zNU} {c : Change} (h : c.kind = 6) : y5 p c = if c.src ∉ z7 p c.street then 3 else 0 := by
 unfold y5; rw [if_neg (by omega), if_neg (by omega), if_pos h]
theorem H3 {p : zNU} {c : Change} (h : c.kind = 7) : y5 p c = if c.src ∉ z7 p c.street ∨ c.dst ∉ z7 p c.street then 3 else if c.dst.lt c.src = true then 5 else if 0 < (z7 p c.other).length then 12 else 0 := by
 unfold y5; rw [if_neg (by omega), if_neg (by omega), if_neg (by omega), if_pos h]
theorem M5 {p : zNU} {c : Change} (h : c.kind = 5) (hf : y5 p c = 0) : c.src ∈ z7 p c.street ∧ (z7 p c.street).length ≠ 8 ∧ letter (z7 p c.street) c.src.number ≠ 0 := by
 rw [M4 h] at hf
 split at hf
 ·exact absurd hf (by omega)
 ·split at hf
  ·exact absurd hf (by omega)
  ·rename_i h1 h2
   exact ⟨Decidable.not_not.1 h1, fun e => h2 (.inl e), fun e => h2 (.inr e)⟩
theorem H4 {p : zNU} {c : Change} (h : c.kind = 7) (hf : y5 p c = 0) : c.src ∈ z7 p c.street ∧ c.dst ∈ z7 p c.street ∧ ¬ c.dst.lt c.src = true ∧ z7 p c.other = [] := by
 rw [H3 h] at hf
 split at hf
 ·exact absurd hf (by omega)
 ·split at hf
  ·exact absurd hf (by omega)
  ·split at hf
   ·exact absurd hf (by omega)
   ·rename_i h1 h2 h3
    exact ⟨Decidable.not_not.1 fun e => h1 (.inl e), Decidable.not_not.1 fun e => h1 (.inr e), h2, List.eq_nil_of_length_eq_zero (by omega)⟩
end Go.Abs

namespace Go.Abs
open Go
theorem W8 (x : Plate) : zNb x = true ↔ x.number % 2 = 1 := by simp [zNb]
theorem F0 (x y : Plate) : (zNb x == zNb y) = true ↔ x.number % 2 = y.number % 2 := by
 rw [beq_iff_eq, Bool.eq_iff_iff, W8, W8]; omega
theorem zAZ {p : zNU} {c : Change} {x : Plate} (hx : x ∈ z7 p c.street) (j : Nat) :
  let o := (z7 p c.street).filter (fun y => zNb y == zNb x)
  o.getD (o.length - 1 - j) default ∈ z7 p c.street ∧ (o.getD (o.length - 1 - j) default).number % 2 = x.number % 2 := by
 intro o
 have hm := P5 hx
 have hpos : 0 < o.length := List.length_pos_of_mem hm
 have := w5 (l := o) (i := o.length - 1 - j) (by omega)
 obtain ⟨h1, h2⟩ := List.mem_filter.1 this
 exact ⟨h1, (F0 _ _).1 h2⟩
theorem Q4 {l : List Plate} {x : Plate} (h : x ∈ l) : zN3 l x = (l.idxOf x : Nat) := by simp [zN3, h]
theorem E5 {l : List Plate} (hs : l.Pairwise (fun x y => x.lt y = true)) {x y : Plate} (hx : x ∈ l) (hy : y ∈ l) : x.lt y = true ↔ l.idxOf x < l.idxOf y := by
 have key : ∀ {a b : Plate}, a ∈ l → b ∈ l → l.idxOf a < l.idxOf b → a.lt b = true := fun {a b} ha hb h => by
  have := (List.pairwise_iff_getElem.1 hs) _ _ (Q5 ha) (Q5 hb) h
  rwa [T0 ha, T0 hb] at this
 constructor
 ·intro h
  rcases Nat.lt_trichotomy (l.idxOf x) (l.idxOf y) with h' | h' | h'
  ·exact h'
  ·exact absurd h (by rw [G1 hx hy h']; exact Plate.lt_irrefl _)
  ·exact absurd (Plate.lt_trans h (key hy hx h')) (Plate.lt_irrefl _)
 ·exact key hx hy
theorem L4 {k : Int} (h : 1 ≤ k ∧ k ≤ 7) : k = 1 ∨ k = 2 ∨ k = 3 ∨ k = 4 ∨ k = 5 ∨ k = 6 ∨ k = 7 := by omega
theorem zAz {p : zNU} {c : Change} (v : Valid p) (f : Fit p c) {x : Plate} (hx : x ∈ z7 p c.street) {z : House} (hz : z ∈ toP p c x) :
  (z.street = c.street ∨ ((c.kind = 4 ∨ c.kind = 7) ∧ z.street = c.other)) ∧ z.plate.ok = true := by
 have hs := v.row c.street
 have hxo := (p9 x).1 (hs.ok x hx)
 rcases L4 f.kind with h | h | h | h | h | h | h
 ·rw [N2 h] at hz
  simp only [List.mem_cons, List.not_mem_nil, or_false] at hz
  subst hz
  exact ⟨.inl rfl, hs.ok _ (zAZ hx _).1⟩
 ·rw [S2 h] at hz
  simp only [List.mem_cons, List.not_mem_nil, or_false] at hz
  subst hz
  refine ⟨.inl rfl, (p9 _).2 ?_⟩
  simp only
  split
  ·rename_i ho; rw [W8] at ho; omega
  ·rename_i ho; rw [W8] at ho; omega
 ·rw [N1 h] at hz
  simp only [List.mem_cons, List.not_mem_nil, or_false] at hz
  subst hz
  refine ⟨.inl rfl, (p9 _).2 ?_⟩
  have h1 := Q5 (P5 hx)
  have h2 := List.length_filter_le (fun y => zNb y == zNb x) (z7 p c.street)
  have h3 := hs.len
  simp only
  omega
 ·rw [S1 h] at hz
  simp only [List.mem_cons, List.not_mem_nil, or_false] at hz
  subst hz
  refine ⟨.inr ⟨.inl h, rfl⟩, (p9 _).2 ?_⟩
  have h1 := (zBf h f.fits).2 x hx
  have h2 := zBM (z7 p c.other)
  simp only
  omega
 ·rw [U0 h] at hz
  split at hz
  ·rename_i e
   simp only [List.mem_cons, List.not_mem_nil, or_false] at hz
   rcases hz with rfl | rfl
   ·exact ⟨.inl rfl, hs.ok x hx⟩
   ·subst e
    have := zAM (M5 h f.fits).2.2
    exact ⟨.inl rfl, (p9 _).2 (by simp only; omega)⟩
  ·simp only [List.mem_cons, List.not_mem_nil, or_false] at hz
   subst hz
   exact ⟨.inl rfl, hs.ok x hx⟩
 ·rw [S0 h] at hz
  split at hz
  ·simp at hz
  ·simp only [List.mem_cons, List.not_mem_nil, or_false] at hz
   subst hz
   exact ⟨.inl rfl, hs.ok x hx⟩
 ·rw [T9 h] at hz
  obtain ⟨g1, g2, g3, g4⟩ := H4 h f.fits
  split at hz
  ·rename_i e
   simp only [List.mem_cons, List.not_mem_nil, or_false] at hz
   subst hz
   refine ⟨.inr ⟨.inr h, rfl⟩, (p9 _).2 ?_⟩
   rw [Q4 hx, Q4 g1]
   have h1 := Q5 hx
   have h3 := hs.len
   have h4 : ¬ (z7 p c.street).idxOf x < (z7 p c.street).idxOf c.src := fun hlt => by
    have := (E5 hs.sorted hx g1).2 hlt
    rw [this] at e; exact absurd e.1 (by simp)
   simp only
   omega
  ·simp only [List.mem_cons, List.not_mem_nil, or_false] at hz
   subst hz
   exact ⟨.inl rfl, hs.ok x hx⟩
theorem zHE {p : zNU} {c : Change} (v : Valid p) (f : Fit p c) {h : House} (hh : h ∈ q6 p) {z : House} (hz : z ∈ mv p c h) : 0 ≤ z.street ∧ z.street < p.length ∧ z.plate.ok = true := by
 obtain ⟨h0, h1, h2⟩ := mem_houses.1 hh
 unfold mv at hz
 split at hz
 ·rename_i e
  rw [e] at h2
  obtain ⟨g1, g2⟩ := zAz v f h2 hz
  have := f.street
  rcases g1 with g | ⟨g, g'⟩
  ·exact ⟨by omega, by omega, g2⟩
  ·have := f.other g; exact ⟨by omega, by omega, g2⟩
 ·simp only [List.mem_cons, List.not_mem_nil, or_false] at hz
  subst hz
  exact ⟨h0, h1, (v.row z.street).ok _ h2⟩
theorem zJm {p : zNU} {c : Change} (v : Valid p) (f : Fit p c) {x y : Plate} (hx : x ∈ z7 p c.street) (hy : y ∈ z7 p c.street) {z : House} (hzx : z ∈ toP p c x) (hzy : z ∈ toP p c y) : x = y := by
 have hs := v.row c.street
 rcases L4 f.kind with h | h | h | h | h | h | h
 ·rw [N2 h] at hzx hzy
  simp only [List.mem_cons, List.not_mem_nil, or_false] at hzx hzy
  have px := (zAZ hx ((((z7 p c.street).filter (fun y => zNb y == zNb x))).idxOf x)).2
  have py := (zAZ hy ((((z7 p c.street).filter (fun z => zNb z == zNb y))).idxOf y)).2
  have e := hzx.symm.trans hzy
  have e2 := congrArg (fun h : House => h.plate) e
  simp only at e2 px py
  have hpar : x.number % 2 = y.number % 2 := by rw [← px, ← py, e2]
  have hob : zNb x = zNb y := by have := (F0 x y).2 hpar; simpa using this
  rw [← hob] at e2
  have hmx := P5 hx
  have hmy : y ∈ (z7 p c.street).filter (fun z => zNb z == zNb x) := by rw [hob]; exact P5 hy
  have hnd : ((z7 p c.street).filter (fun z => zNb z == zNb x)).Nodup := hs.nodup.filter _
  revert e2 hmx hmy hnd
  generalize (z7 p c.street).filter (fun z => zNb z == zNb x) = o
  intro e2 hmx hmy hnd
  have hlx := Q5 hmx
  have hly := Q5 hmy
  simp only [List.getD_eq_getElem?_getD] at e2
  rw [List.getElem?_eq_getElem (by omega), List.getElem?_eq_getElem (by omega)] at e2
  simp only [Option.getD_some] at e2
  have := (Y1 hnd).1 e2
  exact G1 hmx hmy (by omega)
 ·rw [S2 h] at hzx hzy
  simp only [List.mem_cons, List.not_mem_nil, or_false] at hzx hzy
  have e := hzx.symm.trans hzy
  rw [House.eq_iff] at e
  rw [Plate.eq_iff]
  simp only at e
  have := W8 x; have := W8 y
  split at e <;> split at e <;> simp_all <;> omega
 ·rw [N1 h] at hzx hzy
  simp only [List.mem_cons, List.not_mem_nil, or_false] at hzx hzy
  have e := hzx.symm.trans hzy
  rw [House.eq_iff] at e
  simp only at e
  have hpar : x.number % 2 = y.number % 2 := by omega
  have hob : zNb x = zNb y := by have := (F0 x y).2 hpar; simpa using this
  rw [← hob] at e
  have hmy : y ∈ (z7 p c.street).filter (fun z => zNb z == zNb x) := by rw [hob]; exact P5 hy
  exact G1 (P5 hx) hmy (by omega)
 ·rw [S1 h] at hzx hzy
  simp only [List.mem_cons, List.not_mem_nil, or_false] at hzx hzy
  have e := hzx.symm.trans hzy
  rw [House.eq_iff] at e
  rw [Plate.eq_iff]
  simp only at e
  omega
 ·rw [U0 h] at hzx hzy
  have hl := zAM (M5 h f.fits).2.2
  have hsrc := (M5 h f.fits).1
  split at hzx <;> split at hzy
  ·simp_all
  ·rename_i e1 e2
   simp only [List.mem_cons, List.not_mem_nil, or_false] at hzx hzy
   subst hzy
   rcases hzx with e | e
   ·exact ((House.mk.injEq ..).mp e).2.symm
   ·have := ((House.mk.injEq ..).mp e).2
    rw [e1] at this
    exact absurd (this ▸ hy) hl.2.2
  ·rename_i e1 e2
   simp only [List.mem_cons, List.not_mem_nil, or_false] at hzx hzy
   subst hzx
   rcases hzy with e | e
   ·exact ((House.mk.injEq ..).mp e).2
   ·have := ((House.mk.injEq ..).mp e).2
    rw [e2] at this
    exact absurd (this ▸ hx) hl.2.2
  ·simp only [List.mem_cons, List.not_mem_nil, or_false] at hzx hzy
   have e := hzx.symm.trans hzy
   exact ((House.mk.injEq ..).mp e).2
 ·rw [S0 h] at hzx hzy
  split at hzx <;> split at hzy <;> simp_all
 ·rw [T9 h] at hzx hzy
  have hne := (f.other (.inr h)).2.2
  obtain ⟨g1, _⟩ := H4 h f.fits
  split at hzx <;> split at hzy <;> simp only [List.mem_cons, List.not_mem_nil, or_false] at hzx hzy
  ·have e := hzx.symm.trans hzy
   rw [House.eq_iff] at e
   simp only at e
   rw [Q4 hx, Q4 hy] at e
   exact G1 hx hy (by omega)
  ·have e := hzx.symm.trans hzy
   exact absurd ((House.mk.injEq ..).mp e).1 hne
  ·have e := hzy.symm.trans hzx
   exact absurd ((House.mk.injEq ..).mp e).1 hne
  ·have e := hzx.symm.trans hzy
   exact ((House.mk.injEq ..).mp e).2
theorem zDb {p : zNU} {c : Change} (v : Valid p) (f : Fit p c) {x : Plate} (hx : x ∈ z7 p c.street) {z : House} (hz : z ∈ toP p c x) (hne : z.street ≠ c.street) : z ∉ q6 p := by
 intro hm
 obtain ⟨_, _, hm⟩ := mem_houses.1 hm
 obtain ⟨h1, _⟩ := zAz v f hx hz
 rcases h1 with h1 | ⟨hk, h1⟩
 ·exact hne h1
 rw [h1] at hm
 rcases hk with h | h
 ·rw [S1 h] at hz
  simp only [List.mem_cons, List.not_mem_nil, or_false] at hz
  subst hz
  have := zER hm
  have := (p9 x).1 ((v.row c.street).ok x hx)
  simp only at *
  omega
 ·rw [(H4 h f.fits).2.2.2] at hm
  simp at hm
theorem zCP {p : zNU} {c : Change} (v : Valid p) (f : Fit p c) {a b : House} (ha : a ∈ q6 p) (hb : b ∈ q6 p) {z : House} (hza : z ∈ mv p c a) (hzb : z ∈ mv p c b) : a = b := by
 have ha' := mem_houses.1 ha
 have hb' := mem_houses.1 hb
 unfold mv at hza hzb
 split at hza <;> split at hzb
 ·rename_i e1 e2
  rw [e1] at ha'; rw [e2] at hb'
  have := zJm v f ha'.2.2 hb'.2.2 hza hzb
  cases a; cases b; simp_all
 ·rename_i e1 e2
  rw [e1] at ha'
  simp only [List.mem_cons, List.not_mem_nil, or_false] at hzb
  subst hzb
  exact absurd hb (zDb v f ha'.2.2 hza e2)
 ·rename_i e1 e2
  rw [e2] at hb'
  simp only [List.mem_cons, List.not_mem_nil, or_false] at hza
  subst hza
  exact absurd ha (zDb v f hb'.2.2 hzb e1)
 ·simp only [List.mem_cons, List.not_mem_nil, or_false] at hza hzb
  exact hza.symm.trans hzb
theorem zCQ {p : zNU} {c : Change} (f : Fit p c) {h : House} (hh : h ∈ q6 p) : (mv p c h).Nodup := by
 obtain ⟨_, _, hm⟩ := mem_houses.1 hh
 unfold mv
 split
 ·rename_i e
  rw [e] at hm
  rcases L4 f.kind with k | k | k | k | k | k | k
  ·rw [N2 k]; simp
  ·rw [S2 k]; simp
  ·rw [N1 k]; simp
  ·rw [S1 k]; simp
  ·rw [U0 k]
   split
   ·rename_i e
    have := zAM (M5 k f.fits).2.2
    rw [← e] at this
    have hne : h.plate ≠ ⟨h.plate.number, letter (z7 p c.street) h.plate.number⟩ := fun e => this.2.2 (e ▸ hm)
    simpa using hne
   ·simp
  ·rw [S0 k]; split <;> simp
  ·rw [T9 k]; split <;> simp
 ·simp
theorem zAW {α β : Type} {f : α → List β} : ∀ {l : List α}, l.Nodup → (∀ a, a ∈ l → (f a).Nodup) → (∀ a b, a ∈ l → b ∈ l → ∀ z, z ∈ f a → z ∈ f b → a = b) → (l.flatMap f).Nodup
 | [], _, _, _ => by simp
 | x :: r, hn, h1, h2 => by
  obtain ⟨hx, hr⟩ := List.nodup_cons.1 hn
  rw [List.flatMap_cons, List.nodup_append]
  refine ⟨h1 x (by simp), zAW hr (fun a ha => h1 a (by simp [ha])) (fun a b ha hb => h2 a b (by simp [ha]) (by simp [hb])), fun a ha b hb e => ?_⟩
  subst e
  obtain ⟨y, hy, hay⟩ := List.mem_flatMap.1 hb
  exact hx (h2 x y (by simp) (by simp [hy]) a ha hay ▸ hy)
theorem zBl {p : zNU} {c : Change} (v : Valid p) (f : Fit p c) : (d4 p c).Nodup :=
 zAW (zDU v).nodup (fun _ ha => zCQ f ha) (fun _ _ ha hb _ hza hzb => zCP v f ha hb hza hzb)
theorem mem_flatMv {p : zNU} {c : Change} {z : House} : z ∈ d4 p c ↔ ∃ h, h ∈ q6 p ∧ z ∈ mv p c h := by simp [d4, List.mem_flatMap]
theorem H5 {p : zNU} {c : Change} (v : Valid p) (f : Fit p c) {z : House} (hz : z ∈ d4 p c) : 0 ≤ z.street ∧ z.street < p.length ∧ z.plate.ok = true := by
 obtain ⟨h, hh, hz⟩ := mem_flatMv.1 hz
 exact zHE v f hh hz
theorem zGV {p : zNU} {c : Change} (v : Valid p) (f : Fit p c) : q6 (u6 p c) = p5 (d4 p c) := zGW (fun z hz => ⟨(H5 v f hz).1, (H5 v f hz).2.1⟩)
theorem zBk {α β : Type} [DecidableEq α] {f : α → List β} (a : α) : ∀ {l : List α}, l.Nodup → (∀ x, x ∈ l → x ≠ a → (f x).length ≤ 1) → (a ∈ l → (f a).length ≤ 2) → (l.flatMap f).length ≤ l.length + 1 ∧ (a ∉ l → (l.flatMap f).length ≤ l.length)
 | [], _, _, _ => by simp
 | x :: r, hn, h1, h2 => by
  obtain ⟨hx, hr⟩ := List.nodup_cons.1 hn
  obtain ⟨i1, i2⟩ := zBk a (l := r) hr (fun y hy => h1 y (by simp [hy])) (fun ha => h2 (by simp [ha]))
  simp only [List.flatMap_cons, List.length_append, List.length_cons]
  by_cases e : x = a
  ·subst e
   have := h2 (by simp); have := i2 hx
   exact ⟨by omega, fun hn => absurd (by simp) hn⟩
  ·have := h1 x (by simp) e
   refine ⟨by omega, fun hn => ?_⟩
   have := i2 (fun h => hn (by simp [h]))
   omega
theorem zBD {p : zNU} {c : Change} (v : Valid p) (f : Fit p c) {s : Int} (h0 : 0 ≤ s) (h1 : s < p.length) : (z7 (u6 p c) s).length ≤ 8 := by
  have hlen : ∀ s, (z7 p s).length ≤ 8 := fun s => (v.row s).len
  have hnd : (z7 (u6 p c) s).Nodup := (E4 (l := d4 p c) (n := p.length) h0 h1).imp (fun {a b} hab e => by subst e; exact Plate.lt_irrefl _ hab)
  have hmem : ∀ x, x ∈ z7 (u6 p c) s → (s ≠ c.street ∧ x ∈ z7 p s) ∨ ∃ y, y ∈ z7 p c.street ∧ (⟨s, x⟩ : House) ∈ toP p c y := fun x hx => by
    rw [u6, P4 h0 h1, mem_flatMv] at hx
    obtain ⟨h, hh, hz⟩ := hx
    obtain ⟨_, _, hm⟩ := mem_houses.1 hh
    unfold mv at hz
    split at hz
    · rename_i e; rw [e] at hm; exact .inr ⟨_, hm, hz⟩
    · rename_i e
      simp only [List.mem_cons, List.not_mem_nil, or_false] at hz
      subst hz
      exact .inl ⟨e, hm⟩
  have one : ∀ {x : Plate}, c.kind ≠ 5 → x ∈ z7 p c.street → (toP p c x).length ≤ 1 := fun {x} hk hx => by
    rcases L4 f.kind with k | k | k | k | k | k | k
    · rw [N2 k]; simp
    · rw [S2 k]; simp
    · rw [N1 k]; simp
    · rw [S1 k]; simp
    · exact absurd k hk
    · rw [S0 k]; split <;> simp
    · rw [T9 k]; split <;> simp
  have total : ((z7 p c.street).flatMap (toP p c)).length ≤ 8 ∧ (c.kind ≠ 5 → ((z7 p c.street).flatMap (toP p c)).length ≤ (z7 p c.street).length) := by
    by_cases hk : c.kind = 5
    · have hf := M5 hk f.fits
      have := (zBk (f := toP p c) c.src (v.row c.street).nodup (fun x hx hne => by rw [U0 hk, if_neg hne]; simp) (fun _ => by rw [U0 hk]; simp)).1
      have := hlen c.street
      exact ⟨by omega, fun h => absurd hk h⟩
    · have key : ∀ l : List Plate, (∀ x, x ∈ l → x ∈ z7 p c.street) → (l.flatMap (toP p c)).length ≤ l.length := by
        intro l
        induction l with
        | nil => simp
        | cons y r ih =>
          intro hl
          have h1 := one hk (hl y (by simp))
          have h2 := ih (fun x hx => hl x (by simp [hx]))
          simp only [List.flatMap_cons, List.length_append, List.length_cons]; omega
      have := key _ (fun _ h => h)
      have := hlen c.street
      exact ⟨by omega, fun _ => by omega⟩
  by_cases hs : s = c.street
  · refine Nat.le_trans ?_ total.1
    rw [show ((z7 p c.street).flatMap (toP p c)).length = (((z7 p c.street).flatMap (toP p c)).map House.plate).length by rw [List.length_map]]
    refine P7 hnd (fun x hx => ?_)
    rcases hmem x hx with ⟨h, _⟩ | ⟨y, hy, hz⟩
    · exact absurd hs h
    · exact List.mem_map.2 ⟨_, List.mem_flatMap.2 ⟨y, hy, hz⟩, rfl⟩
  · by_cases hk : (c.kind = 4 ∨ c.kind = 7) ∧ s = c.other
    · obtain ⟨hk, rfl⟩ := hk
      have hb : (z7 p c.other).length + (z7 p c.street).length ≤ 8 := by
        rcases hk with k | k
        · have := (zBf k f.fits).1; omega
        · rw [(H4 k f.fits).2.2.2]; have := hlen c.street; simpa using this
      have := total.2 (by omega)
      refine Nat.le_trans ?_ (show (z7 p c.other ++ ((z7 p c.street).flatMap (toP p c)).map House.plate).length ≤ 8 by simp only [List.length_append, List.length_map]; omega)
      refine P7 hnd (fun x hx => ?_)
      rcases hmem x hx with ⟨_, h⟩ | ⟨y, hy, hz⟩
      · exact List.mem_append.2 (.inl h)
      · exact List.mem_append.2 (.inr (List.mem_map.2 ⟨_, List.mem_flatMap.2 ⟨y, hy, hz⟩, rfl⟩))
    · refine Nat.le_trans ?_ (hlen s)
      refine P7 hnd (fun x hx => ?_)
      rcases hmem x hx with ⟨_, h⟩ | ⟨y, hy, hz⟩
      · exact h
      · rcases (zAz v f hy hz).1 with h | h
        · exact absurd h hs
        · exact absurd h hk
theorem zDg {p : zNU} {c : Change} (v : Valid p) (f : Fit p c) : Valid (u6 p c) := by
 have hl : (u6 p c).length = p.length := G6 _ _
 refine ⟨by rw [hl]; exact v.ne, by rw [hl]; exact v.len, fun l hm => ?_⟩
 obtain ⟨s, h0, h1, rfl⟩ := zCO hm
 rw [hl] at h1
 refine ⟨zBD v f h0 h1, fun x hx => ?_, E4 h0 h1⟩
 exact (H5 v f ((P4 h0 h1).1 hx)).2.2
end Go.Abs

namespace Go.Abs
open Go
def zNl (n : Int) : Str := if n < 10 then [UInt8.ofNat (48 + n.toNat)] else [UInt8.ofNat (48 + n.toNat / 10), UInt8.ofNat (48 + n.toNat % 10)]
def i6 (n : Int) : Str := if n = 0 then [] else [UInt8.ofNat (96 + n.toNat)]
def t6 (x : Plate) : Str := zNl x.number ++ i6 x.letter
def r7 (l : List Plate) : Str := l.flatMap fun x => 32 :: t6 x
def t7 : List Plate → Str
 | [] => []
 | x :: r => t6 x ++ r7 r
def v7 (l : List Plate) : Str := 91 :: (t7 l ++ [93])
def n0 (p : zNU) : Str := p.flatMap v7 ++ [10]
def j1 (c : UInt8) : Bool := decide (48 ≤ c.toNat) && decide (c.toNat ≤ 57)
def Q6 (c : UInt8) : Bool := decide (97 ≤ c.toNat) && decide (c.toNat ≤ 100)
def v2 (st : Nat) (c : UInt8) : Nat :=
 if (st = 0 ∨ st = 6) ∧ c = 91 then 1
 else if st = 6 ∧ c = 10 then 7
 else if (st = 1 ∨ st = 2) ∧ j1 c = true ∧ c ≠ 48 then 3
 else if st = 3 ∧ j1 c = true then 4
 else if (st = 3 ∨ st = 4) ∧ Q6 c = true then 5
 else if (st = 3 ∨ st = 4 ∨ st = 5) ∧ c = 32 then 2
 else if (st = 1 ∨ st = 3 ∨ st = 4 ∨ st = 5) ∧ c = 93 then 6
 else 8
def X1 (f : Plate → Plate) (l : List Plate) : List Plate := l.dropLast ++ (l.drop (l.length - 1)).map f
def d8 (f : List Plate → List Plate) (p : zNU) : zNU := p.dropLast ++ (p.drop (p.length - 1)).map f
def u5 (st : Nat) (c : UInt8) (p : zNU) : zNU :=
 if st = 1 then p ++ [[]]
 else if st = 3 then d8 (· ++ [⟨(c.toNat : Int) - 48, 0⟩]) p
 else if st = 4 then d8 (X1 fun x => ⟨10 * x.number + ((c.toNat : Int) - 48), x.letter⟩) p
 else if st = 5 then d8 (X1 fun x => ⟨x.number, (c.toNat : Int) - 97 + 1⟩) p
 else p
def y9 : Nat → zNU → Nat → Str → zNU ⊕ Nat
 | st, p, i, [] => if st = 7 then .inl p else .inr i
 | st, p, i, c :: r => if v2 st c = 8 then .inr i else y9 (v2 st c) (u5 (v2 st c) c p) (i + 1) r
def T6 (t : Str) : Int := if 120 < t.length then 10 else match y9 0 [] 0 t with
 | .inl p => check p
 | .inr _ => 2
def F5 (t : Str) : Nat := if 120 < t.length then 0 else match y9 0 [] 0 t with
 | .inl _ => 0
 | .inr i => i
def F6 (t : Str) : zNU := if 120 < t.length then [] else match y9 0 [] 0 t with
 | .inl p => if check p = 0 then p else []
 | .inr _ => []
def i3 : Nat → zNU → Str
 | 0, _ => []
 | 1, p => p.dropLast.flatMap v7 ++ [91]
 | 2, p => p.dropLast.flatMap v7 ++ 91 :: (t7 (p.getLast?.getD []) ++ [32])
 | 6, p => p.flatMap v7
 | 7, p => p.flatMap v7 ++ [10]
 | _, p => p.dropLast.flatMap v7 ++ 91 :: t7 (p.getLast?.getD [])
theorem zHp : ∀ (l : List Plate) (x : Plate), l ≠ [] → t7 (l ++ [x]) = t7 l ++ 32 :: t6 x
 | [], x, h => absurd rfl h
 | y :: r, x, _ => by simp [t7, r7]
theorem zHo (x : Plate) : t7 [x] = t6 x := by simp [t7, r7]
theorem d9 (f : List Plate → List Plate) (p : zNU) (l : List Plate) : d8 f (p ++ [l]) = p ++ [f l] := by
 unfold d8
 simp
theorem U4 (f : Plate → Plate) (l : List Plate) (x : Plate) : X1 f (l ++ [x]) = l ++ [f x] := by
 unfold X1
 simp
theorem zAl (p : zNU) (l : List Plate) : i3 1 (p ++ [l]) = p.flatMap v7 ++ [91] := by simp [i3]
theorem zC1 (p : zNU) (l : List Plate) : i3 2 (p ++ [l]) = p.flatMap v7 ++ 91 :: (t7 l ++ [32]) := by simp [i3]
theorem Z8 {st : Nat} (h : st = 3 ∨ st = 4 ∨ st = 5) (p : zNU) (l : List Plate) : i3 st (p ++ [l]) = p.flatMap v7 ++ 91 :: t7 l := by
 rcases h with rfl | rfl | rfl <;> simp [i3]
def e7 (st : Nat) (p : zNU) : Prop := match st with
 | 0 => p = []
 | 1 => ∃ q, p = q ++ [[]]
 | 2 => ∃ q l x, p = q ++ [l ++ [x]]
 | 3 => ∃ q l n, p = q ++ [l ++ [⟨n, 0⟩]] ∧ 1 ≤ n ∧ n ≤ 9
 | 4 => ∃ q l n, p = q ++ [l ++ [⟨n, 0⟩]] ∧ 10 ≤ n ∧ n ≤ 99
 | 5 => ∃ q l x, p = q ++ [l ++ [x]]
 | _ => True
theorem zOf {c : UInt8} (h : j1 c = true) : ∃ d : Nat, d ≤ 9 ∧ c.toNat = 48 + d := by
 unfold j1 at h
 rw [Bool.and_eq_true, decide_eq_true_eq, decide_eq_true_eq] at h
 exact ⟨c.toNat - 48, by omega, by omega⟩
theorem zG8 {c : UInt8} (h : Q6 c = true) : ∃ d : Nat, d ≤ 3 ∧ c.toNat = 97 + d := by
 unfold Q6 at h
 rw [Bool.and_eq_true, decide_eq_true_eq, decide_eq_true_eq] at h
 exact ⟨c.toNat - 97, by omega, by omega⟩
theorem ofN {c : UInt8} {n : Nat} (h : c.toNat = n) : UInt8.ofNat n = c := by rw [← h]; exact UInt8.ofNat_toNat
theorem zHQ {c : UInt8} {d : Nat} (h : c.toNat = 48 + d) (hd : d ≤ 9) : zNl ((c.toNat : Int) - 48) = [c] := by
 have e : (c.toNat : Int) - 48 = (d : Int) := by omega
 rw [e]
 unfold zNl
 rw [if_pos (by omega), Int.toNat_natCast, ofN h]
theorem zHR {c : UInt8} {d m : Nat} (h : c.toNat = 48 + d) (hd : d ≤ 9) (h1 : 1 ≤ m) (h9 : m ≤ 9) : zNl (10 * (m : Int) + ((c.toNat : Int) - 48)) = zNl (m : Int) ++ [c] := by
 have e : 10 * (m : Int) + ((c.toNat : Int) - 48) = ((10 * m + d : Nat) : Int) := by omega
 rw [e]
 unfold zNl
 rw [if_neg (by omega), if_pos (by omega), Int.toNat_natCast, Int.toNat_natCast]
 have e1 : (10 * m + d) / 10 = m := by omega
 have e2 : (10 * m + d) % 10 = d := by omega
 rw [e1, e2, ofN h]; rfl
theorem zG9 {c : UInt8} {d : Nat} (h : c.toNat = 97 + d) (hd : d ≤ 3) : i6 ((c.toNat : Int) - 97 + 1) = [c] := by
 have e : (c.toNat : Int) - 97 + 1 = ((d + 1 : Nat) : Int) := by omega
 rw [e]
 unfold i6
 rw [if_neg (by omega), Int.toNat_natCast, show 96 + (d + 1) = 97 + d by omega, ofN h]
theorem zCh (l : List Plate) (x y : Plate) (t : Str) (h : t6 y = t6 x ++ t) : t7 (l ++ [y]) = t7 (l ++ [x]) ++ t := by
 cases l with
 | nil => simp [t7, r7, h]
 | cons z r => simp [t7, r7, h]
theorem zHH (st : Nat) (c : UInt8) : v2 st c = 8 ∨ (v2 st c = 1 ∧ (st = 0 ∨ st = 6) ∧ c = 91) ∨ (v2 st c = 7 ∧ st = 6 ∧ c = 10) ∨ (v2 st c = 3 ∧ (st = 1 ∨ st = 2) ∧ j1 c = true ∧ c ≠ 48) ∨
  (v2 st c = 4 ∧ st = 3 ∧ j1 c = true) ∨ (v2 st c = 5 ∧ (st = 3 ∨ st = 4) ∧ Q6 c = true) ∨ (v2 st c = 2 ∧ (st = 3 ∨ st = 4 ∨ st = 5) ∧ c = 32) ∨ (v2 st c = 6 ∧ (st = 1 ∨ st = 3 ∨ st = 4 ∨ st = 5) ∧ c = 93) := by
 unfold v2
 split
 ·rename_i h; exact .inr (.inl ⟨rfl, h⟩)
 ·split
  ·rename_i h; exact .inr (.inr (.inl ⟨rfl, h⟩))
  ·split
   ·rename_i h; exact .inr (.inr (.inr (.inl ⟨rfl, h⟩)))
   ·split
    ·rename_i h; exact .inr (.inr (.inr (.inr (.inl ⟨rfl, h⟩))))
    ·split
     ·rename_i h; exact .inr (.inr (.inr (.inr (.inr (.inl ⟨rfl, h⟩)))))
     ·split
      ·rename_i h; exact .inr (.inr (.inr (.inr (.inr (.inr (.inl ⟨rfl, h⟩))))))
      ·split
       ·rename_i h; exact .inr (.inr (.inr (.inr (.inr (.inr (.inr ⟨rfl, h⟩))))))
       ·exact .inl rfl
theorem zBq {st : Nat} {p : zNU} {c : UInt8} (hg : e7 st p) (hn : v2 st c ≠ 8) :
    e7 (v2 st c) (u5 (v2 st c) c p) ∧ i3 (v2 st c) (u5 (v2 st c) c p) = i3 st p ++ [c] := by
  rcases zHH st c with h | ⟨h, hs, hc⟩ | ⟨h, hs, hc⟩ | ⟨h, hs, hd, h0⟩ | ⟨h, hs, hd⟩ | ⟨h, hs, hm⟩ | ⟨h, hs, hc⟩ | ⟨h, hs, hc⟩
  · exact absurd h hn
  · rw [h]
    have e : u5 1 c p = p ++ [[]] := rfl
    rw [e, zAl, hc]
    refine ⟨⟨p, rfl⟩, ?_⟩
    rcases hs with rfl | rfl
    · have e0 : p = [] := hg
      rw [e0]; rfl
    · rfl
  · rw [h, hs, hc]
    exact ⟨trivial, rfl⟩
  · rw [h]
    obtain ⟨d, hd9, hdc⟩ := zOf hd
    have h48 : c.toNat ≠ 48 := fun e => h0 (by rw [← ofN e]; rfl)
    have e3 : ∀ q : zNU, ∀ l, u5 3 c (q ++ [l]) = q ++ [l ++ [⟨(c.toNat : Int) - 48, 0⟩]] := fun q l => by
      have : u5 3 c (q ++ [l]) = d8 (· ++ [⟨(c.toNat : Int) - 48, 0⟩]) (q ++ [l]) := rfl
      rw [this, d9]
    have ep : t6 ⟨(c.toNat : Int) - 48, 0⟩ = [c] := by
      unfold t6; rw [zHQ hdc hd9]; rfl
    rcases hs with rfl | rfl
    · obtain ⟨q, rfl⟩ := hg
      rw [e3, Z8 (.inl rfl), zAl]
      refine ⟨⟨q, [], _, rfl, by omega, by omega⟩, ?_⟩
      rw [List.nil_append, zHo, ep]; simp
    · obtain ⟨q, l, x, rfl⟩ := hg
      rw [e3, Z8 (.inl rfl), zC1, zHp _ _ (by simp), ep]
      refine ⟨⟨q, l ++ [x], _, rfl, by omega, by omega⟩, ?_⟩
      simp
  · rw [h]
    obtain ⟨d, hd9, hdc⟩ := zOf hd
    subst hs
    obtain ⟨q, l, n, rfl, h1, h9⟩ := hg
    have e4 : u5 4 c (q ++ [l ++ [⟨n, 0⟩]]) = q ++ [l ++ [⟨10 * n + ((c.toNat : Int) - 48), 0⟩]] := by
      have : u5 4 c (q ++ [l ++ [⟨n, 0⟩]]) = d8 (X1 fun x => ⟨10 * x.number + ((c.toNat : Int) - 48), x.letter⟩) (q ++ [l ++ [⟨n, 0⟩]]) := rfl
      rw [this, d9, U4]
    rw [e4, Z8 (.inr (.inl rfl)), Z8 (.inl rfl)]
    refine ⟨⟨q, l, _, rfl, by omega, by omega⟩, ?_⟩
    obtain ⟨m, rfl⟩ : ∃ m : Nat, n = (m : Int) := ⟨n.toNat, by omega⟩
    rw [zCh l ⟨(m : Int), 0⟩ _ [c] (by
      unfold t6
      rw [zHR hdc hd9 (by omega) (by omega)]
      simp [i6])]
    simp
  · rw [h]
    obtain ⟨d, hd3, hdc⟩ := zG8 hm
    have go : ∀ (q : zNU) (l : List Plate) (n : Int), (st = 3 ∨ st = 4 ∨ st = 5) → p = q ++ [l ++ [⟨n, 0⟩]] →
        e7 5 (u5 5 c p) ∧ i3 5 (u5 5 c p) = i3 st p ++ [c] := by
      intro q l n hst hp
      have e5 : u5 5 c p = q ++ [l ++ [⟨n, (c.toNat : Int) - 97 + 1⟩]] := by
        have : u5 5 c p = d8 (X1 fun x => ⟨x.number, (c.toNat : Int) - 97 + 1⟩) p := rfl
        rw [this, hp, d9, U4]
      rw [e5, Z8 (.inr (.inr rfl)), hp, Z8 hst]
      refine ⟨⟨q, l, _, rfl⟩, ?_⟩
      rw [zCh l ⟨n, 0⟩ _ [c] (by
        unfold t6
        rw [zG9 hdc hd3]
        simp [i6])]
      simp
    rcases hs with rfl | rfl
    · obtain ⟨q, l, n, hp, -, -⟩ := hg
      exact go q l n (.inl rfl) hp
    · obtain ⟨q, l, n, hp, -, -⟩ := hg
      exact go q l n (.inr (.inl rfl)) hp
  · rw [h, hc]
    have e : u5 2 32 p = p := rfl
    have go : ∀ (q : zNU) (l : List Plate) (x : Plate), p = q ++ [l ++ [x]] → e7 2 p ∧ i3 2 p = i3 st p ++ [32] := by
      intro q l x hp
      rw [hp, Z8 hs, zC1]
      exact ⟨⟨q, l, x, rfl⟩, by simp⟩
    rw [e]
    rcases hs with rfl | rfl | rfl
    · obtain ⟨q, l, n, hp, -, -⟩ := hg; exact go q l _ hp
    · obtain ⟨q, l, n, hp, -, -⟩ := hg; exact go q l _ hp
    · obtain ⟨q, l, x, hp⟩ := hg; exact go q l x hp
  · rw [h, hc]
    have e : u5 6 93 p = p := rfl
    rw [e]
    refine ⟨trivial, ?_⟩
    have e6 : i3 6 p = p.flatMap v7 := rfl
    rw [e6]
    rcases hs with rfl | rfl | rfl | rfl
    · obtain ⟨q, rfl⟩ := hg
      rw [zAl]; simp [v7, t7]
    · obtain ⟨q, l, n, rfl, -, -⟩ := hg
      rw [Z8 (.inl rfl)]; simp [v7]
    · obtain ⟨q, l, n, rfl, -, -⟩ := hg
      rw [Z8 (.inr (.inl rfl))]; simp [v7]
    · obtain ⟨q, l, x, rfl⟩ := hg
      rw [Z8 (.inr (.inr rfl))]; simp [v7]
theorem zCZ : ∀ (t : Str) (st : Nat) (p q : zNU) (i : Nat), e7 st p → y9 st p i t = .inl q → n0 q = i3 st p ++ t
 | [], st, p, q, i, hg, h => by
  rw [y9] at h
  by_cases h7 : st = 7
  ·rw [if_pos h7] at h
   cases h
   rw [h7, List.append_nil]; rfl
  ·rw [if_neg h7] at h; cases h
 | c :: t, st, p, q, i, hg, h => by
  rw [y9] at h
  by_cases h8 : v2 st c = 8
  ·rw [if_pos h8] at h; cases h
  ·rw [if_neg h8] at h
   obtain ⟨g, e⟩ := zBq hg h8
   rw [zCZ t _ _ q _ g h, e, List.append_assoc]; rfl
theorem zCa {t : Str} {q : zNU} (h : y9 0 [] 0 t = .inl q) : n0 q = t := zCZ t 0 [] q 0 rfl h
def U2 (x : Plate) : Prop := 1 ≤ x.number ∧ x.number ≤ 99 ∧ 0 ≤ x.letter ∧ x.letter ≤ 4
theorem Y3 {st : Nat} {p : zNU} {i : Nat} {c : UInt8} {t : Str} (st' : Nat) (h : v2 st c = st') (h8 : st' ≠ 8) :
  y9 st p i (c :: t) = y9 st' (u5 st' c p) (i + 1) t := by
 rw [y9, h, if_neg h8]
theorem B4 {d : Nat} (h : d ≤ 9) : j1 (UInt8.ofNat (48 + d)) = true ∧ (UInt8.ofNat (48 + d)).toNat = 48 + d := by
 have e : (UInt8.ofNat (48 + d)).toNat = 48 + d := by rw [UInt8.toNat_ofNat']; omega
 refine ⟨?_, e⟩
 unfold j1
 rw [e, Bool.and_eq_true, decide_eq_true_eq, decide_eq_true_eq]; omega
theorem zHA {d : Nat} (h1 : 1 ≤ d) (h : d ≤ 4) : Q6 (UInt8.ofNat (96 + d)) = true ∧ j1 (UInt8.ofNat (96 + d)) = false ∧ (UInt8.ofNat (96 + d)).toNat = 96 + d := by
 have e : (UInt8.ofNat (96 + d)).toNat = 96 + d := by rw [UInt8.toNat_ofNat']; omega
 refine ⟨?_, ?_, e⟩
 ·unfold Q6
  rw [e, Bool.and_eq_true, decide_eq_true_eq, decide_eq_true_eq]; omega
 ·unfold j1
  rw [e, Bool.and_eq_false_iff, decide_eq_false_iff_not, decide_eq_false_iff_not]; omega
theorem zDe {c d : UInt8} (h : c.toNat ≠ d.toNat) : c ≠ d := fun e => h (by rw [e])
theorem zCU {st : Nat} {c : UInt8} (hs : st = 1 ∨ st = 2) (hd : j1 c = true) (h0 : c ≠ 48) : v2 st c = 3 := by
 unfold v2
 rw [if_neg (by omega), if_neg (by omega), if_pos ⟨hs, hd, h0⟩]
theorem zHL {c : UInt8} (hd : j1 c = true) : v2 3 c = 4 := by
 unfold v2
 rw [if_neg (by omega), if_neg (by omega), if_neg (by omega), if_pos ⟨rfl, hd⟩]
theorem zHJ {st : Nat} {c : UInt8} (hs : st = 3 ∨ st = 4) (hm : Q6 c = true) (hd : j1 c = false) : v2 st c = 5 := by
 unfold v2
 rw [if_neg (by omega), if_neg (by omega), if_neg (by omega), if_neg (by rw [hd]; simp), if_pos ⟨hs, hm⟩]
theorem zHI {st : Nat} (hs : st = 3 ∨ st = 4 ∨ st = 5) : v2 st 32 = 2 := by
 rcases hs with rfl | rfl | rfl <;> decide
theorem zCT {st : Nat} (hs : st = 1 ∨ st = 3 ∨ st = 4 ∨ st = 5) : v2 st 93 = 6 := by
 rcases hs with rfl | rfl | rfl | rfl <;> decide
theorem zHK {st : Nat} (hs : st = 0 ∨ st = 6) : v2 st 91 = 1 := by
 rcases hs with rfl | rfl <;> decide
theorem zHz {n : Int} (h1 : 1 ≤ n) (h9 : n ≤ 99) {st : Nat} (hs : st = 1 ∨ st = 2) (q : zNU) (l : List Plate) (i : Nat) (t : Str) :
  ∃ st', (st' = 3 ∨ st' = 4) ∧ y9 st (q ++ [l]) i (zNl n ++ t) = y9 st' (q ++ [l ++ [⟨n, 0⟩]]) (i + (zNl n).length) t := by
 obtain ⟨m, rfl⟩ : ∃ m : Nat, n = (m : Int) := ⟨n.toNat, by omega⟩
 have e3 : ∀ c : UInt8, u5 3 c (q ++ [l]) = q ++ [l ++ [⟨(c.toNat : Int) - 48, 0⟩]] := fun c => by
  have : u5 3 c (q ++ [l]) = d8 (· ++ [⟨(c.toNat : Int) - 48, 0⟩]) (q ++ [l]) := rfl
  rw [this, d9]
 have e4 : ∀ (c : UInt8) (x : Plate), u5 4 c (q ++ [l ++ [x]]) = q ++ [l ++ [⟨10 * x.number + ((c.toNat : Int) - 48), x.letter⟩]] := fun c x => by
  have : u5 4 c (q ++ [l ++ [x]]) = d8 (X1 fun x => ⟨10 * x.number + ((c.toNat : Int) - 48), x.letter⟩) (q ++ [l ++ [x]]) := rfl
  rw [this, d9, U4]
 unfold zNl
 by_cases h10 : (m : Int) < 10
 ·rw [if_pos h10, Int.toNat_natCast]
  obtain ⟨hd, hc⟩ := B4 (show m ≤ 9 by omega)
  refine ⟨3, .inl rfl, ?_⟩
  rw [List.cons_append, List.nil_append, Y3 3 (zCU hs hd (zDe (by rw [hc]; show 48 + m ≠ 48; omega))) (by decide), e3, hc]
  have e : ((48 + m : Nat) : Int) - 48 = (m : Int) := by omega
  rw [e]; rfl
 ·rw [if_neg h10, Int.toNat_natCast]
  obtain ⟨hd, hc⟩ := B4 (show m / 10 ≤ 9 by omega)
  obtain ⟨hd', hc'⟩ := B4 (show m % 10 ≤ 9 by omega)
  refine ⟨4, .inr rfl, ?_⟩
  rw [List.cons_append, List.cons_append, List.nil_append, Y3 3 (zCU hs hd (zDe (by rw [hc]; show 48 + m / 10 ≠ 48; omega))) (by decide), e3, hc,
   Y3 4 (zHL hd') (by decide), e4, hc']
  have e : 10 * (((48 + m / 10 : Nat) : Int) - 48) + (((48 + m % 10 : Nat) : Int) - 48) = (m : Int) := by omega
  show y9 4 (q ++ [l ++ [⟨10 * (((48 + m / 10 : Nat) : Int) - 48) + (((48 + m % 10 : Nat) : Int) - 48), 0⟩]]) _ t = _
  rw [e]; rfl
theorem zCm {x : Plate} (hx : U2 x) {st : Nat} (hs : st = 1 ∨ st = 2) (q : zNU) (l : List Plate) (i : Nat) (t : Str) :
  ∃ st', (st' = 3 ∨ st' = 4 ∨ st' = 5) ∧ y9 st (q ++ [l]) i (t6 x ++ t) = y9 st' (q ++ [l ++ [x]]) (i + (t6 x).length) t := by
 obtain ⟨n, m⟩ := x
 obtain ⟨h1, h9, h0, h4⟩ := hx
 dsimp only at h1 h9 h0 h4
 obtain ⟨s1, hs1, e1⟩ := zHz h1 h9 hs q l i (i6 m ++ t)
 unfold t6
 dsimp only
 rw [List.append_assoc, e1]
 by_cases hm : m = 0
 ·rw [hm]
  exact ⟨s1, by omega, by simp [i6]⟩
 ·obtain ⟨k, rfl⟩ : ∃ k : Nat, m = (k : Int) := ⟨m.toNat, by omega⟩
  have em : i6 (k : Int) = [UInt8.ofNat (96 + k)] := by unfold i6; rw [if_neg hm, Int.toNat_natCast]
  obtain ⟨a, b, c⟩ := zHA (show 1 ≤ k by omega) (show k ≤ 4 by omega)
  refine ⟨5, .inr (.inr rfl), ?_⟩
  rw [em, List.cons_append, List.nil_append, Y3 5 (zHJ hs1 a b) (by decide)]
  have e5 : u5 5 (UInt8.ofNat (96 + k)) (q ++ [l ++ [⟨n, 0⟩]]) = q ++ [l ++ [⟨n, (k : Int)⟩]] := by
   have : u5 5 (UInt8.ofNat (96 + k)) (q ++ [l ++ [⟨n, 0⟩]]) = d8 (X1 fun x => ⟨x.number, ((UInt8.ofNat (96 + k)).toNat : Int) - 97 + 1⟩) (q ++ [l ++ [⟨n, 0⟩]]) := rfl
   rw [this, d9, U4, c]
   have e : ((96 + k : Nat) : Int) - 97 + 1 = (k : Int) := by omega
   rw [e]
  rw [e5, List.length_append]; rfl
theorem zCp : ∀ (r : List Plate), (∀ x ∈ r, U2 x) → ∀ {st : Nat}, (st = 3 ∨ st = 4 ∨ st = 5) → ∀ (q : zNU) (l : List Plate) (i : Nat) (t : Str),
  ∃ st', (st' = 3 ∨ st' = 4 ∨ st' = 5) ∧ y9 st (q ++ [l]) i (r7 r ++ t) = y9 st' (q ++ [l ++ r]) (i + (r7 r).length) t
 | [], _, st, hs, q, l, i, t => ⟨st, hs, by rw [List.append_nil]; rfl⟩
 | x :: r, hf, st, hs, q, l, i, t => by
  have et : r7 (x :: r) = 32 :: (t6 x ++ r7 r) := by simp [r7]
  obtain ⟨s1, hs1, e1⟩ := zCm (hf x List.mem_cons_self) (.inr rfl) q l (i + 1) (r7 r ++ t)
  obtain ⟨s2, hs2, e2⟩ := zCp r (fun y hy => hf y (List.mem_cons_of_mem _ hy)) hs1 q (l ++ [x]) (i + 1 + (t6 x).length) t
  refine ⟨s2, hs2, ?_⟩
  rw [et, List.cons_append, Y3 2 (zHI hs) (by decide), show u5 2 32 (q ++ [l]) = q ++ [l] from rfl, List.append_assoc, e1, e2,
   List.append_assoc, List.length_cons, List.length_append]
  congr 1
  omega
theorem zCo {l : List Plate} (hf : ∀ x ∈ l, U2 x) {st : Nat} (hs : st = 0 ∨ st = 6) (q : zNU) (i : Nat) (t : Str) :
  y9 st q i (v7 l ++ t) = y9 6 (q ++ [l]) (i + (v7 l).length) t := by
 have h0 : y9 st q i (v7 l ++ t) = y9 1 (q ++ [[]]) (i + 1) (t7 l ++ (93 :: t)) := by
  unfold v7
  rw [List.cons_append, Y3 1 (zHK hs) (by decide), List.append_assoc]; rfl
 rw [h0]
 cases l with
 | nil =>
  show y9 1 (q ++ [[]]) (i + 1) (93 :: t) = _
  rw [Y3 6 (zCT (.inl rfl)) (by decide)]; rfl
 | cons x r =>
  obtain ⟨s1, hs1, e1⟩ := zCm (hf x List.mem_cons_self) (.inl rfl) q [] (i + 1) (r7 r ++ (93 :: t))
  obtain ⟨s2, hs2, e2⟩ := zCp r (fun y hy => hf y (List.mem_cons_of_mem _ hy)) hs1 q ([] ++ [x]) (i + 1 + (t6 x).length) (93 :: t)
  rw [show t7 (x :: r) = t6 x ++ r7 r from rfl, List.append_assoc, e1, e2, Y3 6 (zCT (.inr hs2)) (by decide)]
  have el : (v7 (x :: r)).length = 1 + (t6 x).length + (r7 r).length + 1 := by
   unfold v7
   rw [show t7 (x :: r) = t6 x ++ r7 r from rfl]
   simp; omega
  rw [el]
  show y9 6 (q ++ [[] ++ [x] ++ r]) _ t = _
  rw [List.nil_append, List.singleton_append]
  congr 1
  omega
theorem zCn : ∀ (p : zNU), (∀ l ∈ p, ∀ x ∈ l, U2 x) → ∀ (q : zNU) (i : Nat) (t : Str),
  y9 6 q i (p.flatMap v7 ++ t) = y9 6 (q ++ p) (i + (p.flatMap v7).length) t
 | [], _, q, i, t => by rw [List.append_nil]; rfl
 | l :: p, hf, q, i, t => by
  rw [List.flatMap_cons, List.append_assoc, zCo (hf l List.mem_cons_self) (.inr rfl), zCn p (fun y hy => hf y (List.mem_cons_of_mem _ hy)),
   List.append_assoc, List.length_append, Nat.add_assoc]; rfl
theorem zHd {p : zNU} (h : p ≠ []) (hf : ∀ l ∈ p, ∀ x ∈ l, U2 x) : y9 0 [] 0 (n0 p) = .inl p := by
 cases p with
 | nil => exact absurd rfl h
 | cons l p =>
  unfold n0
  rw [List.flatMap_cons, List.append_assoc, zCo (hf l List.mem_cons_self) (.inl rfl), zCn p (fun y hy => hf y (List.mem_cons_of_mem _ hy)),
   Y3 7 (by decide) (by decide), y9, if_pos rfl]; rfl
end Go.Abs

namespace Go.Abs
open Go
def Z6 (l : List Plate) (k : Nat) : Str := if k = 0 then t7 l else r7 (l.drop k)
theorem zH5 {l : List Plate} {k : Nat} (h : k < l.length) : Z6 l k = (if k = 0 then [] else [32]) ++ (zNl (l.getD k default).number ++ (i6 (l.getD k default).letter ++ Z6 l (k + 1))) := by
 unfold Z6
 rw [if_neg (show ¬ k + 1 = 0 by omega)]
 by_cases h0 : k = 0
 ·subst h0
  rw [if_pos rfl, if_pos rfl]
  cases l with
  | nil => simp at h
  | cons x r => simp [t7, t6, List.getD]
 ·rw [if_neg h0, if_neg h0, v3 h]
  simp [r7, t6]
theorem zH4 {l : List Plate} {k : Nat} (h : ¬ k < l.length) : Z6 l k = [] := by
 unfold Z6
 by_cases h0 : k = 0
 ·subst h0
  rw [if_pos rfl]
  cases l with
  | nil => rfl
  | cons x r => simp at h
 ·rw [if_neg h0, u0 (by omega)]; rfl
def V3 (p : zNU) (i : Nat) : Str := (p.drop i).flatMap v7 ++ [10]
theorem zH3 {p : zNU} {i : Nat} (h : i < p.length) : V3 p i = [91] ++ (Z6 (p.getD i default) 0 ++ ([93] ++ V3 p (i + 1))) := by
 unfold V3
 rw [v3 h, List.flatMap_cons]
 simp [v7, Z6]
theorem zH2 {p : zNU} {i : Nat} (h : ¬ i < p.length) : V3 p i = [10] := by
 unfold V3
 rw [u0 (by omega)]; rfl
theorem zAX (n : Int) : 1 ≤ (zNl n).length ∧ (zNl n).length ≤ 2 := by
 unfold zNl; split <;> simp
theorem zHP (n : Int) : zNl n ≠ [] := fun h => by have := (zAX n).1; rw [h] at this; simp at this
theorem zCd (x : Plate) : (t6 x).length ≤ 3 := by
 unfold t6 i6
 have := (zAX x.number).2
 rw [List.length_append]
 split <;> simp <;> omega
theorem zDY : ∀ l : List Plate, (r7 l).length ≤ 4 * l.length
 | [] => by simp [r7]
 | x :: r => by
  have h1 := zCd x
  have h2 := zDY r
  unfold r7 at h2 ⊢
  rw [List.flatMap_cons, List.length_append, List.length_cons, List.length_cons]
  omega
theorem zHn (l : List Plate) : (t7 l).length ≤ 4 * l.length := by
 cases l with
 | nil => simp [t7]
 | cons x r =>
  have h1 := zCd x
  have h2 := zDY r
  unfold t7
  rw [List.length_append, List.length_cons]
  omega
theorem zJg {l : List Plate} (h : l.length ≤ 8) : (v7 l).length ≤ 34 := by
 have := zHn l
 unfold v7
 simp only [List.length_cons, List.length_append, List.length_nil]
 omega
theorem zDT : ∀ {p : zNU}, (∀ l, l ∈ p → l.length ≤ 8) → (p.flatMap v7).length ≤ 34 * p.length
 | [], _ => by simp
 | l :: r, h => by
  have h1 := zJg (h l (by simp))
  have h2 := zDT (p := r) (fun x hx => h x (by simp [hx]))
  rw [List.flatMap_cons, List.length_append, List.length_cons]
  omega
theorem zAa {p : zNU} (v : Valid p) : (n0 p).length ≤ 103 := by
 have h1 := zDT (p := p) (fun l hl => (v.rows l hl).len)
 have h2 := v.len
 unfold n0
 rw [List.length_append, List.length_cons, List.length_nil]
 omega
theorem zCe {x : Plate} (h : x.ok = true) : 1 ≤ x.number ∧ x.number ≤ 40 ∧ 0 ≤ x.letter ∧ x.letter ≤ 4 := by
 unfold Plate.ok zNX at h
 simp only [Bool.and_eq_true, decide_eq_true_eq] at h
 omega
theorem zHj {x : Plate} (h : x.ok = true) : U2 x := by
 have := zCe h
 unfold U2
 omega
theorem zJu {p : zNU} (v : Valid p) : y9 0 [] 0 (n0 p) = .inl p :=
 zHd (fun e => by have := v.ne; rw [e] at this; simp at this) (fun l hl x hx => zHj ((v.rows l hl).ok x hx))
def zNd (st c : Nat) : Nat :=
 if (st = 0 ∨ st = 6) ∧ c = 91 then 1
 else if st = 6 ∧ c = 10 then 7
 else if (st = 1 ∨ st = 2) ∧ 49 ≤ c ∧ c ≤ 57 then 3
 else if st = 3 ∧ 48 ≤ c ∧ c ≤ 57 then 4
 else if (st = 3 ∨ st = 4) ∧ 97 ≤ c ∧ c ≤ 100 then 5
 else if (st = 3 ∨ st = 4 ∨ st = 5) ∧ c = 32 then 2
 else if (st = 1 ∨ st = 3 ∨ st = 4 ∨ st = 5) ∧ c = 93 then 6
 else 8
theorem J7 {c d : UInt8} : c = d ↔ c.toNat = d.toNat := UInt8.toNat_inj.symm
theorem G7 (st : Nat) (c : UInt8) : v2 st c = zNd st c.toNat := by
 have e1 : (c = 91) ↔ c.toNat = 91 := J7
 have e2 : (c = 10) ↔ c.toNat = 10 := J7
 have e3 : (c ≠ 48) ↔ c.toNat ≠ 48 := not_congr J7
 have e4 : (c = 32) ↔ c.toNat = 32 := J7
 have e5 : (c = 93) ↔ c.toNat = 93 := J7
 have d : (j1 c = true) ↔ 48 ≤ c.toNat ∧ c.toNat ≤ 57 := by unfold j1; rw [Bool.and_eq_true, decide_eq_true_eq, decide_eq_true_eq]
 have m : (Q6 c = true) ↔ 97 ≤ c.toNat ∧ c.toNat ≤ 100 := by unfold Q6; rw [Bool.and_eq_true, decide_eq_true_eq, decide_eq_true_eq]
 have d2 : ((48 ≤ c.toNat ∧ c.toNat ≤ 57) ∧ c ≠ 48) ↔ 49 ≤ c.toNat ∧ c.toNat ≤ 57 := by rw [e3]; omega
 unfold v2 zNd
 simp only [e1, e2, d, d2, m, e4, e5]
theorem zHa {st : Nat} {p : zNU} {i : Nat} {c : UInt8} {r : Str} (h : zNd st c.toNat = 8) : y9 st p i (c :: r) = .inr i := by
 rw [← G7] at h
 unfold y9
 rw [if_pos h]
theorem zHb {st : Nat} {p : zNU} {i : Nat} {c : UInt8} {r : Str} {k : Nat} (h : zNd st c.toNat = k) (h8 : k ≠ 8) : y9 st p i (c :: r) = y9 k (u5 k c p) (i + 1) r := by
 rw [← G7] at h
 rw [y9, if_neg (by rw [h]; exact h8), h]
end Go.Abs

namespace Go.Abs
open Go
structure Dice where
 list : List Int
 at_ : Nat
 seed : Int
 deriving Inhabited
abbrev uV (n : Int) : AV := .raw (.int .u64 n)
def p6 (d : Dice) : AObj := .box [.list (d.list.map iV), iV d.at_, uV d.seed]
def a8 (a b : Int) : Int := IntKind.u64.wrap (BitVec.ofInt IntKind.u64.bits a ^^^ BitVec.ofInt IntKind.u64.bits b).toNat
def K9 (a : Int) (k : Nat) : Int := IntKind.u64.wrap (a * 2 ^ (min k IntKind.u64.bits))
def j4 (a : Int) (k : Nat) : Int := a.fdiv (2 ^ (min k IntKind.u64.bits))
def zOb (s : Int) : Int := a8 s (K9 s 13)
def zOc (s : Int) : Int := a8 s (j4 s 7)
def zOd (s : Int) : Int := a8 s (K9 s 17)
def L9 (s : Int) : Int := zOd (zOc (zOb s))
def zN7 (d : Dice) : Int := if d.at_ < d.list.length then IntKind.u64.wrap (L9 d.seed + IntKind.u64.wrap (IntKind.u64.wrap (d.list.getD d.at_ default) * 13787848793156543929)) else L9 d.seed
def zNz (d : Dice) : Dice := ⟨d.list, if d.at_ < d.list.length then d.at_ + 1 else d.at_, zN7 d⟩
def zOU (n : Int) : Int := IntKind.u64.wrap (a8 n (j4 n 30) * 10723151780598845931)
def zN1 (d : Dice) : Int := a8 (zOU (zN7 d)) (j4 (zOU (zN7 d)) 31)
theorem zJz (n : Int) : 0 ≤ IntKind.u64.wrap n ∧ IntKind.u64.wrap n < 18446744073709551616 := by
 rw [IntKind.wrap_u64]; omega
theorem zHy (d : Dice) : 0 ≤ zN1 d ∧ zN1 d < 18446744073709551616 := zJz _
def toN (n : Int) (d : Dice) : Int := if n < 1 then 0 else (j4 (zN1 d) 16).tmod (n + 1)
def toD (n : Int) (d : Dice) : Dice := if n < 1 then d else zNz d
theorem zIQ (n : Int) (h0 : 0 ≤ n) : 0 ≤ j4 n 16 := by
 unfold j4
 rw [Int.fdiv_eq_ediv_of_nonneg _ (by decide)]
 exact Int.ediv_nonneg h0 (by decide)
theorem D1 (n : Int) (d : Dice) : 0 ≤ toN n d ∧ (toN n d ≤ n ∨ toN n d = 0) := by
 unfold toN
 split
 ·omega
 ·have h := zIQ _ (zHy d).1
  rw [Int.tmod_eq_emod_of_nonneg h]
  have h1 := Int.emod_nonneg (j4 (zN1 d) 16) (b := n + 1) (by omega)
  have h2 := Int.emod_lt_of_pos (j4 (zN1 d) 16) (b := n + 1) (by omega)
  omega
theorem zJl {n : Int} (h : 0 ≤ n) (d : Dice) : 0 ≤ toN n d ∧ toN n d ≤ n := by
 have := D1 n d; omega
def s9 (lo hi : Int) (d : Dice) : Int := lo + toN (hi - lo) d
def u9 (lo hi : Int) (d : Dice) : Dice := toD (hi - lo) d
theorem M8 {lo hi : Int} (h : lo ≤ hi) (d : Dice) : lo ≤ s9 lo hi d ∧ s9 lo hi d ≤ hi := by
 have := zJl (n := hi - lo) (by omega) d
 unfold s9; omega
def W9 (k : Int) (d : Dice) : Bool := toN (k - 1) d == 0
def j3 (k : Int) (d : Dice) : Dice := toD (k - 1) d
end Go.Abs

namespace Go.Abs
open Go Go.Proofs Tryz
attribute [go_sem] bne_eq_false_iff_eq Bool.not_eq_true' Bool.not_eq_false'
@[go_sem] theorem zML (n : Nat) : ((0 : Int) < (n : Int)) = (0 < n) := by simp
@[go_sem] theorem zMG (n : Nat) : ((n : Int) ≤ 0) = (n ≤ 0) := by simp
@[go_sem] theorem zHi (a b : Plate) : (a.number == b.number && a.letter == b.letter) = decide (a = b) := by
 rw [Bool.eq_iff_iff]; simp [Plate.eq_iff]
@[go_sem] theorem zLp (a b : House) : (a.street == b.street && a.plate.number == b.plate.number && a.plate.letter == b.plate.letter) = decide (a = b) := by
 rw [Bool.eq_iff_iff]; simp [House.eq_iff, and_assoc]
theorem Change.eq_iff (a b : Change) : a = b ↔ a.kind = b.kind ∧ a.street = b.street ∧ a.other = b.other ∧ a.src = b.src ∧ a.dst = b.dst := by cases a; cases b; simp
@[go_sem] theorem zK4 (a b : Change) : (a.kind == b.kind && a.street == b.street && a.other == b.other && a.src.number == b.src.number && a.src.letter == b.src.letter && a.dst.number == b.dst.number && a.dst.letter == b.dst.letter) = decide (a = b) := by
 rw [Bool.eq_iff_iff]; simp [Change.eq_iff, Plate.eq_iff, and_assoc]
theorem X3 {P : Program} {f : FuncId} {avs : List AV} {H : Nat → AObj} {nx : Nat} {K : Cont} {r : AV} (sp : zNV P f avs [] r []) (h : XpL H [] [] avs avs) (hk : K (r.ren (w7 [] nx)) [] []) : y4 P f avs H nx K :=
 x8 [] [] sp (by simp) h trivial (by simp) (.inl rfl) (fun j hj => by simp at hj) (fun A hA => by simp at hA) hk
theorem C7 (ex : List Nat) {P : Program} {f : FuncId} {avs : List AV} {H : Nat → AObj} {nx : Nat} {K : Cont} {args : List AV} {r : AV} (sp : zNV P f args [] r []) (h : XpL H [] ex args avs) (hs : Scal r) (hk : K (r.ren (w7 [] nx)) ex []) : y4 P f avs H nx K :=
 x8 [] ex sp (by simp) h trivial (by simp) (.inr ⟨hs, fun A hA => by simp at hA⟩) (fun j hj => by simp at hj) (fun A hA => by simp at hA) (by simpa [i7, u7, zNf] using hk)
section
variable {P : Program} {E : Env} {Q : Exit → AS → Prop} {σ : AS} {p : List Nat} {b : Code}
theorem Qd {id : Nat} {ops : List Oper} (h : sub p b = .region id ops.toArray true) (he : M3 ops = true) (hx : q8 prog ops (fun σ' ts => T1 ops ts = true ∧ Q .normal σ') ops σ []) : Hold prog E (sub p b) Q σ := zII h mixed he hx
theorem Qc {c : Operand} {t : Bool} (h : zB7 (sub p b) = some c) (ht : σ.ev c = .raw (.bool t)) (h1 : t = true → Hold P E (sub (0 :: p) b) Q σ) (h2 : t = false → Hold P E (sub (1 :: p) b) Q σ) : Hold P E (sub p b) Q σ := zCz h ⟨t, ht, h1, h2⟩
theorem z8 {f : FuncId} {avs : List AV} {H : Nat → AObj} {nx : Nat} {K : Cont} {r : AV} (sp : zNV P f avs [] r []) (hk : K (r.ren (w7 [] nx)) [] []) (h : XpL H [] [] avs avs := by simp only [go_sem, *]; done) : y4 P f avs H nx K := X3 sp h hk
theorem u3 {f : FuncId} {avs : List AV} {H : Nat → AObj} {nx : Nat} {K : Cont} {r : AV} {out : List AObj} (sp : zNV P f avs [] r out) (hk : K (r.ren (w7 [] nx)) (i7 [] nx out) (u7 [] nx out)) (h : XpL H [] [] avs avs := by simp only [go_sem, *]; done)
  (hu : ∀ j, j < out.length → H (nx + j) = .unb := by first | (simp; done) | (simp [go_sem]; done)) (h7 : ∀ A, A ∈ out → A ≠ .unb := by first | (simp; done) | (simp [go_sem]; done)) : y4 P f avs H nx K :=
 x8 [] [] sp (by simp) h trivial (by simp) (.inl rfl) (fun j hj => hu j (by simpa using hj)) h7 (by simpa using hk)
theorem l5 {f : FuncId} {avs : List AV} {H : Nat → AObj} {nx : Nat} {K : Cont} (ids : List Nat) {args : List AV} {fp : List AObj} {r : AV} {out : List AObj} (sp : zNV P f args fp r out) (hk : K (r.ren (w7 ids nx)) (ids ++ [] ++ i7 ids nx out) (u7 ids nx out))
  (h1 : ids.Nodup := by simp) (h2 : XpL H (ids.map some) [] args avs := by simp only [go_sem, *]; done) (h3 : fpsF H (ids.map some) [] fp ids := by simp only [go_sem, *]; done)
  (h6 : ∀ j, j < out.length - ids.length → H (nx + j) = .unb := by first | (simp; done) | (simp [go_sem]; done)) (h7 : ∀ A, A ∈ out → A ≠ .unb := by first | (simp; done) | (simp [go_sem]; done)) : y4 P f avs H nx K :=
 x8 ids [] sp h1 h2 h3 (by simp) (.inl rfl) h6 h7 hk
theorem v5 (h : G4 (sub p b) = true) (L : Nat) (R : Nat → Prop) (N : Nat) (env : Nat → List (Nat × AV)) (As : Nat → List AObj) (m : List (Option Nat)) (ex : List Nat) (hp : R 0)
  (hx : ∀ i, i ≤ L → R i → Hold P E (sub (0 :: p) b) (z3 (fun σ' => ∃ n', n' < L - i ∧ ∃ m ex zN zenv zAs, Weak E.n m ex σ' zN zenv zAs ∧ ∃ i, n' = L - i ∧ i ≤ L ∧ R i ∧ zN = N ∧ zenv = env i ∧ zAs = As i) Q) ⟨N, env i, zNf 0 (As i)⟩)
  (hW : Weak E.n m ex σ N (env 0) (As 0) := by (simp only [Weak, go_sem, List.map_append, List.map_set, *] <;> (try simp (disch := omega) only [y8]) <;> (try simp) <;> (try omega))) : Hold P E (sub p b) Q σ := by
 refine Z7 h (fun zn zN zenv zAs => ∃ i, zn = L - i ∧ i ≤ L ∧ R i ∧ zN = N ∧ zenv = env i ∧ zAs = As i) L ⟨m, ex, _, _, _, hW, 0, rfl, Nat.zero_le _, hp, rfl, rfl, rfl⟩ ?_
 rintro _ _ _ _ ⟨i, rfl, hi, hP, rfl, rfl, rfl⟩
 exact hx i hi hP
theorem v4 {L B i' N : Nat} {R : Nat → Prop} {env : Nat → List (Nat × AV)} {As : Nat → List AObj} {n : Nat} {σ' : AS} (m : List (Option Nat)) (ex : List Nat) (hp : R i') (h1 : L - i' < B := by omega) (h2 : i' ≤ L := by omega)
  (hW : Weak n m ex σ' N (env i') (As i') := by (simp only [Weak, go_sem, List.map_append, List.map_set, *] <;> (try simp (disch := omega) only [y8]) <;> (try simp) <;> (try omega))) :
  ∃ n', n' < B ∧ ∃ m ex zN zenv zAs, Weak n m ex σ' zN zenv zAs ∧ ∃ i, n' = L - i ∧ i ≤ L ∧ R i ∧ zN = N ∧ zenv = env i ∧ zAs = As i := ⟨_, h1, m, ex, _, _, _, hW, i', rfl, h2, hp, rfl, rfl, rfl⟩
theorem v9 {α : Type} (h : G4 (sub p b) = true) (L : Nat) (R : Nat → α → Prop) (N : Nat) (env : Nat → α → List (Nat × AV)) (As : Nat → α → List AObj) (m : List (Option Nat)) (ex : List Nat) (w : α) (hp : R 0 w)
  (hx : ∀ i v, i ≤ L → R i v → Hold P E (sub (0 :: p) b) (z3 (fun σ' => ∃ n', n' < L - i ∧ ∃ m ex zN zenv zAs, Weak E.n m ex σ' zN zenv zAs ∧ ∃ i v, n' = L - i ∧ i ≤ L ∧ R i v ∧ zN = N ∧ zenv = env i v ∧ zAs = As i v) Q) ⟨N, env i v, zNf 0 (As i v)⟩)
  (hW : Weak E.n m ex σ N (env 0 w) (As 0 w) := by (simp only [Weak, go_sem, List.map_append, List.map_set, *] <;> (try simp (disch := omega) only [y8]) <;> (try simp) <;> (try omega))) : Hold P E (sub p b) Q σ := by
 refine Z7 h (fun zn zN zenv zAs => ∃ i v, zn = L - i ∧ i ≤ L ∧ R i v ∧ zN = N ∧ zenv = env i v ∧ zAs = As i v) L ⟨m, ex, _, _, _, hW, 0, w, rfl, Nat.zero_le _, hp, rfl, rfl, rfl⟩ ?_
 rintro _ _ _ _ ⟨i, v, rfl, hi, hP, rfl, rfl, rfl⟩
 exact hx i v hi hP
theorem x9 {α : Type} {L B i' N : Nat} {R : Nat → α → Prop} {env : Nat → α → List (Nat × AV)} {As : Nat → α → List AObj} {n : Nat} {σ' : AS} (m : List (Option Nat)) (ex : List Nat) (w : α) (hp : R i' w) (h1 : L - i' < B := by omega) (h2 : i' ≤ L := by omega)
  (hW : Weak n m ex σ' N (env i' w) (As i' w) := by (simp only [Weak, go_sem, List.map_append, List.map_set, *] <;> (try simp (disch := omega) only [y8]) <;> (try simp) <;> (try omega))) :
  ∃ n', n' < B ∧ ∃ m ex zN zenv zAs, Weak n m ex σ' zN zenv zAs ∧ ∃ i v, n' = L - i ∧ i ≤ L ∧ R i v ∧ zN = N ∧ zenv = env i v ∧ zAs = As i v := ⟨_, h1, m, ex, _, _, _, hW, i', w, rfl, h2, hp, rfl, rfl, rfl⟩
theorem zAQ {α β : Type} (h : G4 (sub p b) = true) (L : Nat) (R : Nat → α → β → Prop) (N : Nat) (env : Nat → α → β → List (Nat × AV)) (As : Nat → α → β → List AObj) (m : List (Option Nat)) (ex : List Nat) (w : α) (x : β) (hp : R 0 w x)
  (hx : ∀ i v u, i ≤ L → R i v u → Hold P E (sub (0 :: p) b) (z3 (fun σ' => ∃ n', n' < L - i ∧ ∃ m ex zN zenv zAs, Weak E.n m ex σ' zN zenv zAs ∧ ∃ i v u, n' = L - i ∧ i ≤ L ∧ R i v u ∧ zN = N ∧ zenv = env i v u ∧ zAs = As i v u) Q) ⟨N, env i v u, zNf 0 (As i v u)⟩)
  (hW : Weak E.n m ex σ N (env 0 w x) (As 0 w x) := by (simp only [Weak, go_sem, List.map_append, List.map_set, *] <;> (try simp (disch := omega) only [y8]) <;> (try simp) <;> (try omega))) : Hold P E (sub p b) Q σ := by
 refine Z7 h (fun zn zN zenv zAs => ∃ i v u, zn = L - i ∧ i ≤ L ∧ R i v u ∧ zN = N ∧ zenv = env i v u ∧ zAs = As i v u) L ⟨m, ex, _, _, _, hW, 0, w, x, rfl, Nat.zero_le _, hp, rfl, rfl, rfl⟩ ?_
 rintro _ _ _ _ ⟨i, v, u, rfl, hi, hP, rfl, rfl, rfl⟩
 exact hx i v u hi hP
theorem T3 {α β : Type} {L B i' N : Nat} {R : Nat → α → β → Prop} {env : Nat → α → β → List (Nat × AV)} {As : Nat → α → β → List AObj} {n : Nat} {σ' : AS} (m : List (Option Nat)) (ex : List Nat) (w : α) (x : β) (hp : R i' w x) (h1 : L - i' < B := by omega) (h2 : i' ≤ L := by omega)
  (hW : Weak n m ex σ' N (env i' w x) (As i' w x) := by (simp only [Weak, go_sem, List.map_append, List.map_set, *] <;> (try simp (disch := omega) only [y8]) <;> (try simp) <;> (try omega))) :
  ∃ n', n' < B ∧ ∃ m ex zN zenv zAs, Weak n m ex σ' zN zenv zAs ∧ ∃ i v u, n' = L - i ∧ i ≤ L ∧ R i v u ∧ zN = N ∧ zenv = env i v u ∧ zAs = As i v u := ⟨_, h1, m, ex, _, _, _, hW, i', w, x, rfl, h2, hp, rfl, rfl, rfl⟩
end
structure Hid (p : Prop) : Prop where
 out : p
structure Own (ids : List Nat) (p : Prop) : Prop where
 out : p
structure Frz (p : Prop) : Prop where
 out : p
theorem own (ids : List Nat) {p : Prop} (h : p) : Own ids p := ⟨h⟩
theorem frz {p : Prop} (h : p) : Frz p := ⟨h⟩
theorem I7 {a b : Bool} (h : a = true ↔ b = true) : Value.bool a = Value.bool b := by rw [Bool.eq_iff_iff.2 h]
theorem zAG {k : IntKind} {a b : Int} (h : a = b) : Value.int k a = Value.int k b := by rw [h]
end Go.Abs

namespace Go.Abs
open Go Go.Proofs Go.RowKit
attribute [local irreducible] q8 Hold y4
abbrev zNm : TypeId := 100
theorem zBN : ∃ j, Tryz.prog.info? zNm = some j ∧ j.size = 2 := G3 (by kernel_rfl)
theorem zEj (b : Nat) (w : World) (h0 : w.cell? ⟨b, 0, none⟩ = some (.pointer (some ⟨b, 0, none⟩))) :
  Calls Tryz.prog 73 #[.pointer (some ⟨b, 0, none⟩)] w fun e w' => e = .returned (.tuple #[]) ∧ w' = w := by
 obtain ⟨j, hj, _⟩ := zBN
 go_enter Tryz.func73, Tryz.ntmps73
 go_wp2
 rw [Lib.run_neq_ptr_same w _ Tryz.underlying98 hj]
 go_wp2
 go_end0
 exact ⟨rfl, rfl⟩
theorem zEi (b : Nat) (w : World) (h0 : w.cell? ⟨b, 0, none⟩ = some (.pointer none)) (hsh : w.shape? b = some (zNm, 2)) (hfz : w.frozen? ⟨b, 0, none⟩ = false) :
  Calls Tryz.prog 73 #[.pointer (some ⟨b, 0, none⟩)] w fun e w' => e = .returned (.tuple #[]) ∧ w' = w.setCell ⟨b, 0, none⟩ (.pointer (some ⟨b, 0, none⟩)) := by
 obtain ⟨j, hj, hjs⟩ := zBN
 go_enter Tryz.func73, Tryz.ntmps73
 go_wp2
 rw [Lib.run_to_unsafe w ⟨b, 0, none⟩ Tryz.underlying98 Tryz.underlying144 hj (by rw [hjs]; decide) hsh (Nat.zero_lt_succ 1)]
 simp only [Result.andThen]
 rw [Oper.upon_value]
 go_wp2
 rw [run_callFunc_extern Tryz.func101 (by kernel_rfl) (by kernel_rfl) (by kernel_rfl) (e := Extern.AbiNoEscape.same) (by kernel_rfl)]
 rw [Lib.run_noEscape]
 simp only [Result.andThen]
 rw [Oper.upon_value]
 go_wp2
 rw [Lib.run_from_unsafe w ⟨b, 0, none⟩ Tryz.underlying144 Tryz.underlying98 hj hsh (by kernel_rfl)]
 simp only [Result.andThen]
 rw [Oper.upon_value]
 go_wp2
 go_end0
 exact ⟨rfl, rfl⟩
theorem zDC (y : AV) (B : AObj) : zNV Tryz.prog 73 [.ptr 0 0] [.tbox zNm [.any, y], B] (.tup []) [.tbox zNm [.any, y], B] := by
 intro w I loc vs hs hl hv
 have h1 : vs.size = 1 := hl
 have hv0 := hv 0 (by simp) (by omega)
 simp only [List.getElem_cons_zero] at hv0
 have ev : vs = #[vs[0]'(by omega)] := by
  apply Array.ext
  ·simpa using h1
  ·intro i q1 q2
   have : i = 0 := by omega
   subst this; rfl
 generalize vs[0]'(by omega) = v0 at hv0 ev
 subst ev
 have ho := hs.objs 0
 have hob : (Go.Abs.hs [.tbox zNm [.any, y], B]).obj 0 = .tbox zNm [.any, y] := rfl
 have hlive : ((Go.Abs.hs [.tbox zNm [.any, y], B]).obj 0).live = true := rfl
 rw [hob] at ho
 cases hv0 with
 | pure hp => cases hp
 | ptr _ _ b c hb =>
  obtain ⟨b', C, q1, q2, q0, q3, q4⟩ := ho
  rw [hb] at q1; cases q1
  have hsz : C.size = 2 := q3.symm
  have hc : w.cell? ⟨b, 0, none⟩ = C[0]? := by simp [World.cell?, q2]
  rcases q0 with q0 | q0
  ·refine (zEi b w (hc.trans q0) (by simp [World.shape?, q2, hsz]) (by simp [World.frozen?, q2])).mono ?_
   rintro e w' ⟨rfl, rfl⟩
   have hI := hs.sep 0 b C.size hlive hb
   have hoth : ∀ k, k ≠ b → (w.setCell ⟨b, 0, none⟩ (.pointer (some ⟨b, 0, none⟩))).heap[k]? = w.heap[k]? := fun k hk => by
    simp only [World.setCell, Array.getElem?_modify]
    rw [if_neg (fun e => hk e.symm)]
   have hat : (w.setCell ⟨b, 0, none⟩ (.pointer (some ⟨b, 0, none⟩))).heap[b]? = some (.cells (C.setIfInBounds 0 (.pointer (some ⟨b, 0, none⟩))) zNm (0, 0)) := by
    simp [World.setCell, Array.getElem?_modify, q2]
   have hsr := hs.writeG (w' := w.setCell ⟨b, 0, none⟩ (.pointer (some ⟨b, 0, none⟩))) (A := .tbox zNm [.any, y]) hlive hb rfl rfl rfl (by simp [World.setCell]) hoth
    ⟨b, C.setIfInBounds 0 (.pointer (some ⟨b, 0, none⟩)), by rw [Array.size_setIfInBounds]; exact hb, hat, .inr (by simp [hsz]), by rw [Array.size_setIfInBounds]; exact q3, fun i hi hi' => by
     have hi2 : i < 2 := hi
     have hm := (q4 i hi (by omega)).mono (w' := w.setCell ⟨b, 0, none⟩ (.pointer (some ⟨b, 0, none⟩))) (I' := I) (loc' := loc) (fun k hk => hoth k (fun e => hI.1 (e ▸ hk))) (fun _ x => x) (fun _ _ => rfl)
     have hi3 : i = 0 ∨ i = 1 := by omega
     rcases hi3 with rfl | rfl
     ·exact .pure (.any _)
     ·rw [Array.getElem_setIfInBounds_ne (by omega) (by omega)]; exact hm⟩ (by simp)
   refine ⟨_, I, loc, rfl, ⟨hsr.congr rfl (fun _ => rfl) (fun k => ?_), .tup [] #[] rfl (fun i h => by simp at h), by simp⟩⟩
   rw [AS.obj_setO]
   by_cases e : 0 = k
   ·rw [if_pos e, ← e]; rfl
   ·rw [if_neg e]
  ·refine (zEj b w (hc.trans q0)).mono ?_
   rintro e w' ⟨rfl, rfl⟩
   exact ⟨_, I, loc, rfl, ⟨hs, .tup [] #[] rfl (fun i h => by simp at h), by simp⟩⟩
@[go_sem] theorem zKz : Tryz.prog.cellsOf 5 = 1 := by kernel_rfl
@[go_sem] theorem zK0 : Tryz.prog.underlying 142 = some (.pointer 5) := Tryz.underlying142
@[go_sem] theorem zMR (c : UInt8) : UInt8.ofNat c.toNat = c := UInt8.ofNat_toNat
@[go_sem] theorem zNI (t : Str) : zNw ⟨t.toArray⟩ = t.map fun c => .raw (.int .u8 (c.toNat : Int)) := rfl
theorem N0 (l t : Str) (ht : t ≠ []) (h : l.length + t.length ≤ 1000000) : zNV Tryz.prog 46 [.ptr 0 0, sV t] [.tbox zNm [.any, .own 1 1 0 l.length], .brow 5 l] (.tup [iV t.length, .raw .nilIface])
  [.tbox zNm [.any, .own 2 1 0 (l ++ t).length], .dead, .brow 5 (l ++ t)] := by
 refine z9 Tryz.func46 rfl (fun E hE => ?_); simp only [go_sem, Tryz.ntmps46]
 repeat' (first | (refine Qr rfl ?_; try intro _ hK; try simp only [go_sem, *]) | refine Qh rfl ?_ | (refine Qc rfl rfl ?_ ?_ <;> (intro hb; have hc := hb; try simp only [go_sem] at hc)) | refine z6 rfl ?_ | (refine l5 [0, 1] (zDC (.own 1 1 0 l.length) (.brow 5 l)) ?_; simp only [go_sem, *]) | ((with_reducible apply And.intro); focus omega) | (refine z5 hK ?_; clear hK; simp only [go_sem, *]) | simp only [z3, z4, go_sem, *])
 refine ⟨[_, _], [some 0, some 1, some 2], [], ⟨rfl, rfl, trivial⟩, ?_⟩
 simp only [go_sem, *]
theorem zC9 (l : Str) (c : UInt8) (h : l.length ≤ 1000000) : zNV Tryz.prog 48 [.ptr 0 0, .raw (.int .u8 (c.toNat : Int))] [.tbox zNm [.any, .own 1 1 0 l.length], .brow 5 l] (.raw .nilIface)
  [.tbox zNm [.any, .own 2 1 0 (l ++ [c]).length], .dead, .brow 5 (l ++ [c])] := by
 have hc : (c.toNat : Int) < 256 := by have := c.toNat_lt; omega
 refine z9 Tryz.func48 rfl (fun E hE => ?_); simp only [go_sem, Tryz.ntmps48]
 repeat' (first | (refine Qr rfl ?_; try intro _ hK; try simp only [go_sem, *]) | refine Qh rfl ?_ | (refine Qc rfl rfl ?_ ?_ <;> (intro hb; have hc := hb; try simp only [go_sem] at hc)) | refine z6 rfl ?_ | (refine l5 [0, 1] (zDC (.own 1 1 0 l.length) (.brow 5 l)) ?_; simp only [go_sem, *]) | ((with_reducible apply And.intro); focus omega) | (refine z5 hK ?_; clear hK; simp only [go_sem, *]) | simp only [z3, z4, go_sem, *])
 refine ⟨[_], [some 0, some 1, some 3], [], ⟨rfl, trivial⟩, ?_⟩
 simp only [go_sem, *]
theorem zIX (c : UInt8) (r : Str) (h : r.length ≤ 1000000) : zNV Tryz.prog 49 [.ptr 0 0] [.tbox zNm [.any, .own 1 1 0 (c :: r).length], .brow 5 (c :: r)] (sV (c :: r)) [.dead, .dead] := by
 simp only [List.length_cons]
 refine z9 Tryz.func49 rfl (fun E hE => ?_); simp only [go_sem, Tryz.ntmps49]
 repeat' (first | (refine Qr rfl ?_; try intro _ hK; try simp only [go_sem, *]) | refine Qh rfl ?_ | refine Qd rfl (by kernel_rfl) ?_ | (refine Qc rfl rfl ?_ ?_ <;> (intro hb; have hc := hb; try simp only [go_sem] at hc)) | refine z6 rfl ?_ | (refine Qb ?_ ?_; focus kernel_rfl) | ((with_reducible apply And.intro); focus omega) | (refine z5 hK ?_; clear hK; simp only [go_sem, *]) | simp only [z3, z4, go_sem, *])
 refine ⟨[_], [some 0, some 1], [], ⟨rfl, trivial⟩, ?_⟩
 simp only [go_sem, *]
end Go.Abs

namespace Go.Abs
open Go Go.Proofs Tryz
attribute [local irreducible] q8 Hold y4
theorem t9 (n a b : Int) : zNV prog 81 [iV n, iV a, iV b] [] (bV (zNX n a b)) [] := by
 refine z9 func81 rfl (fun E hE => ?_); simp only [go_sem, ntmps81]
 repeat' (first | (refine Qr rfl ?_; try intro _ hK; try simp only [go_sem, *]) | (refine Qi rfl rfl rfl rfl ?_ ?_ <;> (intro hb; (try intro _ hK); have hc := hb; try simp only [go_sem] at hc; simp only [go_sem, *])) | refine Qh rfl ?_ | (refine Qc rfl rfl ?_ ?_ <;> (intro hb; have hc := hb; try simp only [go_sem] at hc)) | refine z6 rfl ?_ | ((with_reducible apply And.intro); focus omega) | (refine z5 hK ?_; clear hK; simp only [go_sem, *]) | simp only [z3, z4, go_sem, *])
 all_goals (refine ⟨[_], [], [], ⟨rfl, trivial⟩, ?_⟩; simp only [go_sem, *])
 all_goals (refine I7 ?_; simp [zNX] at *; omega)
theorem zDK (x : Plate) : zNV prog 54 [x.enc] [] (bV x.ok) [] := by
 refine z9 func54 rfl (fun E hE => ?_); simp only [go_sem, ntmps54]
 repeat' (first | (refine Qr rfl ?_; try intro _ hK; try simp only [go_sem, *]) | (refine Qi rfl rfl rfl rfl ?_ ?_ <;> (intro hb; (try intro _ hK); have hc := hb; try simp only [go_sem] at hc; simp only [go_sem, *])) | refine Qh rfl ?_ | (refine Qc rfl rfl ?_ ?_ <;> (intro hb; have hc := hb; try simp only [go_sem] at hc)) | refine z6 rfl ?_ | (refine z8 (t9 _ _ _) ?_; simp only [go_sem, *]) | ((with_reducible apply And.intro); focus omega) | (refine z5 hK ?_; clear hK; simp only [go_sem, *]) | simp only [z3, z4, go_sem, *])
 all_goals (refine ⟨[_], [], [], ⟨rfl, trivial⟩, ?_⟩; simp only [go_sem, *])
 all_goals simp_all [Plate.ok]
theorem zJB (n : Int) : zNV prog 107 [iV n] [] (bV false) [] := by
 refine z9 func107 rfl (fun E hE => ?_); simp only [go_sem, ntmps107]
 repeat' (first | (refine Qr rfl ?_; try intro _ hK; try simp only [go_sem, *]) | refine Qh rfl ?_ | (refine Qc rfl rfl ?_ ?_ <;> (intro hb; have hc := hb; try simp only [go_sem] at hc)) | refine z6 rfl ?_ | ((with_reducible apply And.intro); focus omega) | (refine z5 hK ?_; clear hK; simp only [go_sem, *]) | simp only [z3, z4, go_sem, *])
 all_goals (refine ⟨[_], [], [], ⟨rfl, trivial⟩, ?_⟩; simp only [go_sem, *])
 all_goals simp_all
theorem zC3 (a b : Int) : zNV prog 83 [iV a, iV b] [] (iV (zN2 a b)) [] := by
 refine z9 func83 rfl (fun E hE => ?_); simp only [go_sem, ntmps83]
 repeat' (first | (refine Qr rfl ?_; try intro _ hK; try simp only [go_sem, *]) | refine Qh rfl ?_ | (refine Qc rfl rfl ?_ ?_ <;> (intro hb; have hc := hb; try simp only [go_sem] at hc)) | refine z6 rfl ?_ | (refine z8 (zJB _) ?_; simp only [go_sem, *]) | ((with_reducible apply And.intro); focus omega) | (refine z5 hK ?_; clear hK; simp only [go_sem, *]) | simp only [z3, z4, go_sem, *])
 all_goals (refine ⟨[_], [], [], ⟨rfl, trivial⟩, ?_⟩; simp only [go_sem, *])
 all_goals (refine zAG ?_; unfold zN2; repeat' split)
 all_goals omega
theorem zIw (a b : Plate) : zNV prog 72 [a.enc, b.enc] [] (bV (a.lt b)) [] := by
 refine z9 func72 rfl (fun E hE => ?_); simp only [go_sem, ntmps72]
 repeat' (first | (refine Qr rfl ?_; try intro _ hK; try simp only [go_sem, *]) | (refine Qi rfl rfl rfl rfl ?_ ?_ <;> (intro hb; (try intro _ hK); have hc := hb; try simp only [go_sem] at hc; simp only [go_sem, *])) | refine Qh rfl ?_ | (refine Qc rfl rfl ?_ ?_ <;> (intro hb; have hc := hb; try simp only [go_sem] at hc)) | refine z6 rfl ?_ | ((with_reducible apply And.intro); focus omega) | (refine z5 hK ?_; clear hK; simp only [go_sem, *]) | simp only [z3, z4, go_sem, *])
 all_goals (refine ⟨[_], [], [], ⟨rfl, trivial⟩, ?_⟩; simp only [go_sem, *])
 all_goals (refine I7 ?_; rw [Plate.lt_iff]; simp at *; omega)
theorem zAw (a : Plate) : zNV prog 154 [a.enc] [] (bV (a.number.tmod 2 != 0)) [] := by
 refine z9 func154 rfl (fun E hE => ?_); simp only [go_sem, ntmps154]
 repeat' (first | (refine Qr rfl ?_; try intro _ hK; try simp only [go_sem, *]) | refine Qh rfl ?_ | (refine Qc rfl rfl ?_ ?_ <;> (intro hb; have hc := hb; try simp only [go_sem] at hc)) | refine z6 rfl ?_ | ((with_reducible apply And.intro); focus omega) | (refine z5 hK ?_; clear hK; simp only [go_sem, *]) | simp only [z3, z4, go_sem, *])
 all_goals (refine ⟨[_], [], [], ⟨rfl, trivial⟩, ?_⟩; simp only [go_sem, *])
theorem zDD (a : Plate) : zNV prog 155 [a.enc] [] (bV (a.number.tmod 2 == 0)) [] := by
 refine z9 func155 rfl (fun E hE => ?_); simp only [go_sem, ntmps155]
 repeat' (first | (refine Qr rfl ?_; try intro _ hK; try simp only [go_sem, *]) | refine Qh rfl ?_ | (refine Qc rfl rfl ?_ ?_ <;> (intro hb; have hc := hb; try simp only [go_sem] at hc)) | refine z6 rfl ?_ | ((with_reducible apply And.intro); focus omega) | (refine z5 hK ?_; clear hK; simp only [go_sem, *]) | simp only [z3, z4, go_sem, *])
 all_goals (refine ⟨[_], [], [], ⟨rfl, trivial⟩, ?_⟩; simp only [go_sem, *])
def orL : List Int → Int
 | [] => 0
 | x :: r => if x = 0 then orL r else x
theorem zC6 (l : List Int) (hl : l.length ≤ 4294967296) : zNV prog 82 [.list (l.map iV)] [] (iV (orL l)) [] := by
 refine z9 func82 rfl (fun E hE => ?_); simp only [go_sem, ntmps82]
 repeat' (first | (refine Qr rfl ?_; try intro _ hK; try simp only [go_sem, *]) | refine Qh rfl ?_ | (refine Qc rfl rfl ?_ ?_ <;> (intro hb; have hc := hb; try simp only [go_sem] at hc)) | refine z6 rfl ?_ | ((with_reducible apply And.intro); focus omega) | (refine z5 hK ?_; clear hK; simp only [go_sem, *]) | simp only [z3, z4, go_sem, *])
 refine Z7 rfl (fun n N env As => ∃ i : Nat, n = l.length - i ∧ i ≤ l.length ∧ orL (l.drop i) = orL l ∧ N = 18 ∧ env = [(8, iV i), (7, iV l.length), (6, .list (l.map iV)), (3, iV 0)] ∧ As = []) l.length ⟨[], [], _, _, _, ?_, 0, by simp, by simp, by simp, rfl, rfl, rfl⟩ ?_
 ·(simp only [Weak, go_sem, List.map_append, List.map_set, *] <;> (try simp (disch := omega) only [y8]) <;> (try simp) <;> (try omega))
 rintro _ _ _ _ ⟨i, rfl, hi, ho, rfl, rfl, rfl⟩
 repeat' (first | (refine Qr rfl ?_; try intro _ hK; try simp only [go_sem, *]) | refine Qh rfl ?_ | (refine Qc rfl rfl ?_ ?_ <;> (intro hb; have hc := hb; try simp only [go_sem] at hc)) | refine z6 rfl ?_ | ((with_reducible apply And.intro); focus omega) | (refine z5 hK ?_; clear hK; simp only [go_sem, *]) | simp only [z3, z4, go_sem, *])
 ·(refine ⟨[_], [], [], ⟨rfl, trivial⟩, ?_⟩; simp only [go_sem, *])
  rw [← ho, v3 ‹_›, orL, if_neg ‹_›]
 ·refine ⟨_, ?_, [], [], _, _, _, ?_, i + 1, rfl, ?_, ?_, rfl, rfl, rfl⟩
  ·omega
  ·(simp only [Weak, go_sem, List.map_append, List.map_set, *] <;> (try simp (disch := omega) only [y8]) <;> (try simp) <;> (try omega))
  ·omega
  ·rw [← ho, v3 (i := i) ‹_›, orL, if_pos ‹_›]
 ·(refine ⟨[_], [], [], ⟨rfl, trivial⟩, ?_⟩; simp only [go_sem, *])
  rw [← ho, u0 (by omega), orL]
theorem zCX (a b : Int) : orL [a, b] = orI a b := by
 simp only [orL, orI]; repeat' split
 all_goals omega
theorem V4 (a b : Plate) : zNV prog 55 [a.enc, b.enc] [] (iV (zNh a b)) [] := by
 refine z9 func55 rfl (fun E hE => ?_); simp only [go_sem, ntmps55]
 repeat' (first | (refine Qr rfl ?_; try intro _ hK; try simp only [go_sem, *]) | refine Qh rfl ?_ | refine Qd rfl (by kernel_rfl) ?_ | (refine Qc rfl rfl ?_ ?_ <;> (intro hb; have hc := hb; try simp only [go_sem] at hc)) | refine z6 rfl ?_ | (refine Qb ?_ ?_; focus kernel_rfl) | (refine z8 (zC3 _ _) ?_; simp only [go_sem, *]) | ((with_reducible apply And.intro); focus omega) | (refine z5 hK ?_; clear hK; simp only [go_sem, *]) | simp only [z3, z4, go_sem, *])
 (refine C7 [2] (zC6 [zN2 a.number b.number, zN2 a.letter b.letter] (by simp)) (by simp only [go_sem, *]) (.raw _) ?_; simp only [go_sem, *])
 repeat' (first | (refine Qr rfl ?_; try intro _ hK; try simp only [go_sem, *]) | refine Qh rfl ?_ | refine Qd rfl (by kernel_rfl) ?_ | (refine Qc rfl rfl ?_ ?_ <;> (intro hb; have hc := hb; try simp only [go_sem] at hc)) | refine z6 rfl ?_ | (refine Qb ?_ ?_; focus kernel_rfl) | ((with_reducible apply And.intro); focus omega) | (refine z5 hK ?_; clear hK; simp only [go_sem, *]) | simp only [z3, z4, go_sem, *])
 (refine ⟨[_], [], [], ⟨rfl, trivial⟩, ?_⟩; simp only [go_sem, *])
 rw [zCX, zNh]
theorem zIy (a b : House) : zNV prog 88 [a.enc, b.enc] [] (iV (zNv a b)) [] := by
 refine z9 func88 rfl (fun E hE => ?_); simp only [go_sem, ntmps88]
 repeat' (first | (refine Qr rfl ?_; try intro _ hK; try simp only [go_sem, *]) | refine Qh rfl ?_ | refine Qd rfl (by kernel_rfl) ?_ | (refine Qc rfl rfl ?_ ?_ <;> (intro hb; have hc := hb; try simp only [go_sem] at hc)) | refine z6 rfl ?_ | (refine Qb ?_ ?_; focus kernel_rfl) | ((first | refine z8 (zC3 _ _) ?_ | refine z8 (V4 a.plate b.plate) ?_); simp only [go_sem, *]) | ((with_reducible apply And.intro); focus omega) | (refine z5 hK ?_; clear hK; simp only [go_sem, *]) | simp only [z3, z4, go_sem, *])
 (refine C7 [2] (zC6 [zN2 a.street b.street, zNh a.plate b.plate] (by simp)) (by simp only [go_sem, *]) (.raw _) ?_; simp only [go_sem, *])
 repeat' (first | (refine Qr rfl ?_; try intro _ hK; try simp only [go_sem, *]) | refine Qh rfl ?_ | refine Qd rfl (by kernel_rfl) ?_ | (refine Qc rfl rfl ?_ ?_ <;> (intro hb; have hc := hb; try simp only [go_sem] at hc)) | refine z6 rfl ?_ | (refine Qb ?_ ?_; focus kernel_rfl) | ((with_reducible apply And.intro); focus omega) | (refine z5 hK ?_; clear hK; simp only [go_sem, *]) | simp only [z3, z4, go_sem, *])
 (refine ⟨[_], [], [], ⟨rfl, trivial⟩, ?_⟩; simp only [go_sem, *])
 rw [zCX, zNv]
theorem zEm {l : List Plate} {k : Nat} (h : k < l.length) (o : Option Plate) (ho : o = if k = 0 then none else some (l.getD (k - 1) default)) :
  s8 o (l.drop k) = if (l.getD k default).ok = true then (if k = 0 ∨ (l.getD (k - 1) default).lt (l.getD k default) = true then s8 (some (l.getD k default)) (l.drop (k + 1)) else 5) else 1 := by
 rw [v3 h]
 subst ho
 by_cases hk : k = 0
 ·simp [hk, s8]
 ·simp [hk, s8]
def O2 (l : List Plate) (k : Nat) : Option Plate := if k = 0 then none else some (l.getD (k - 1) default)
theorem zCi (l : List Plate) (k : Nat) : O2 l (k + 1) = some (l.getD k default) := by simp [O2]
theorem zCt {p : zNU} {i : Nat} (h : i < p.length) : j7 (p.drop i) = if 8 < (p.getD i default).length then 6 else if s8 none (p.getD i default) = 0 then j7 (p.drop (i + 1)) else s8 none (p.getD i default) := by
 rw [v3 h, j7]
theorem i9 (p : zNU) (h1 : p.length ≤ 4294967296) : zNV prog 17 [y3 p] [] (iV (check p)) [] := by
  have e0 : p.length = 0 → check p = 7 := fun h => by unfold check; rw [if_pos h]
  have e1 : ¬ p.length = 0 → 3 < p.length → check p = 6 := fun h h' => by unfold check; rw [if_neg h, if_pos h']
  have e2 : ¬ p.length = 0 → ¬ 3 < p.length → check p = j7 p := fun h h' => by unfold check; rw [if_neg h, if_neg h']
  refine z9 func17 rfl (fun E hE => ?_); simp only [go_sem, ntmps17]
  repeat' (first | (refine Qr rfl ?_; try intro _ hK; try simp only [go_sem, *]) | (refine Qi rfl rfl rfl rfl ?_ ?_ <;> (intro hb; (try intro _ hK); have hc := hb; try simp only [go_sem] at hc; simp only [go_sem, *])) | refine Qh rfl ?_ | refine Qd rfl (by kernel_rfl) ?_ | (refine Qc rfl rfl ?_ ?_ <;> (intro hb; have hc := hb; try simp only [go_sem] at hc)) | refine z6 rfl ?_ | (refine Qb ?_ ?_; focus kernel_rfl) | ((with_reducible apply And.intro); focus omega) | (refine z5 hK ?_; clear hK; simp only [go_sem, *]) | simp only [z3, z4, go_sem, *])
  · (refine ⟨[_], [], [], ⟨rfl, trivial⟩, ?_⟩; simp only [go_sem, *])
    rw [e0 (by omega)]
  · (refine ⟨[_], [], [], ⟨rfl, trivial⟩, ?_⟩; simp only [go_sem, *])
    rw [e1 (by omega) (by omega)]
  · have e3 := e2 (by omega) (by omega)
    clear e0 e1 e2
    refine v5 rfl (p.length) (fun i => j7 (p.drop i) = j7 p) 49 (fun i => [(18, iV i), (17, iV p.length), (16, .list (p.map q9))]) (fun i => []) [] [] (by simp) ?_; intro i hi hP
    repeat' (first | (refine Qr rfl ?_; try intro _ hK; try simp only [go_sem, *]) | (refine Qi rfl rfl rfl rfl ?_ ?_ <;> (intro hb; (try intro _ hK); have hc := hb; try simp only [go_sem] at hc; simp only [go_sem, *])) | refine Qh rfl ?_ | refine Qd rfl (by kernel_rfl) ?_ | (refine Qc rfl rfl ?_ ?_ <;> (intro hb; have hc := hb; try simp only [go_sem] at hc)) | refine z6 rfl ?_ | (refine Qb ?_ ?_; focus kernel_rfl) | ((with_reducible apply And.intro); focus omega) | (refine z5 hK ?_; clear hK; simp only [go_sem, *]) | simp only [z3, z4, go_sem, *])
    · (refine ⟨[_], [], [], ⟨rfl, trivial⟩, ?_⟩; simp only [go_sem, *])
      rw [← hP, zCt (by omega), if_pos (by omega)]
    · have hl : (p.getD i default).length ≤ 8 := by omega
      have hi' : i < p.length := by omega
      rw [zCt hi', if_neg (by omega)] at hP
      generalize hll : p.getD i default = l at *
      refine v5 rfl (l.length) (fun k => s8 (O2 l k) (l.drop k) = s8 none l) 49 (fun k => [(27, iV k), (26, iV l.length), (25, q9 l), (4, q9 l), (18, iV i), (17, iV p.length), (16, .list (p.map q9))]) (fun k => []) [] [] (by simp [O2]) ?_; intro k hk hK
      have hw : 0 < k → IntKind.i64.wrap ((k : Int) - 1) = ((k - 1 : Nat) : Int) := fun h => by rw [wrap_i64 (by omega) (by omega)]; omega
      have hk1 : k < l.length → k - 1 < l.length := fun h => by omega
      have hstep : ∀ h : k < l.length, _ := fun h => zEm h (O2 l k) rfl
      repeat' (first | (refine Qr rfl ?_; try intro _ hK; try simp only [go_sem, *]) | (refine Qi rfl rfl rfl rfl ?_ ?_ <;> (intro hb; (try intro _ hK); have hc := hb; try simp only [go_sem] at hc; simp only [go_sem, *])) | refine Qh rfl ?_ | refine Qd rfl (by kernel_rfl) ?_ | (refine Qc rfl rfl ?_ ?_ <;> (intro hb; have hc := hb; try simp only [go_sem] at hc)) | refine z6 rfl ?_ | (refine Qb ?_ ?_; focus kernel_rfl) | ((first | refine z8 (zDK _) ?_ | refine z8 (V4 _ _) ?_); simp only [go_sem, *]) | ((with_reducible apply And.intro); focus omega) | (refine z5 hK ?_; clear hK; simp only [go_sem, *]) | simp only [z3, z4, go_sem, *])
      · (refine ⟨[_], [], [], ⟨rfl, trivial⟩, ?_⟩; simp only [go_sem, *])
        rw [hstep (by omega), if_neg (by simp_all)] at hK
        rw [← hK, if_neg (by omega)] at hP
        rw [← hP]
      · (refine ⟨[_], [], [], ⟨rfl, trivial⟩, ?_⟩; simp only [go_sem, *])
        have hlt : ¬ (l.getD (k - 1) default).lt (l.getD k default) = true := by rw [← M2]; omega
        rw [hstep (by omega), if_pos (by assumption), if_neg (by intro h; rcases h with h | h; · omega
                                                                 · exact hlt h)] at hK
        rw [← hK, if_neg (by omega)] at hP
        rw [← hP]
      · have hlt : (l.getD (k - 1) default).lt (l.getD k default) = true := by rw [← M2]; omega
        exact v4 (i' := k + 1) [] [] (by rw [← hK, hstep (by omega), if_pos (by assumption), if_pos (.inr hlt), zCi])
      · exact v4 (i' := k + 1) [] [] (by rw [← hK, hstep (by omega), if_pos (by assumption), if_pos (.inl (by omega)), zCi])
      · rw [u0 (by omega)] at hK
        have h0 : s8 none l = 0 := by rw [← hK]; cases O2 l k <;> rfl
        rw [if_pos h0] at hP
        exact v4 (i' := i + 1) [] [] (by exact hP)
    · (refine ⟨[_], [], [], ⟨rfl, trivial⟩, ?_⟩; simp only [go_sem, *])
      rw [← hP, u0 (by omega), j7]
end Go.Abs

namespace Go.Abs
open Go Go.Proofs Go.RowKit
attribute [local irreducible] q8 Hold y4
theorem zJO (n : Nat) (hn : n < 100) : zNV Tryz.prog 120 [iV n] [] (sV (zNl n)) [] := by
 have w1 : IntKind.i64.wrap ((n : Int) + 1) = ((n + 1 : Nat) : Int) := y8 (by omega)
 have w2 : IntKind.i64.wrap ((n : Int) * 2) = ((n * 2 : Nat) : Int) := by rw [wrap_i64 (by omega) (by omega)]; omega
 have w3 : IntKind.i64.wrap (((n * 2 : Nat) : Int) + 2) = ((n * 2 + 2 : Nat) : Int) := by rw [wrap_i64 (by omega) (by omega)]; omega
 refine z9 Tryz.func120 rfl (fun E hE => ?_); simp only [go_sem, Tryz.ntmps120]
 repeat' (first | (refine Qr rfl ?_; try intro _ hK; try simp only [go_sem, *]) | refine Qh rfl ?_ | (refine Qc rfl rfl ?_ ?_ <;> (intro hb; have hc := hb; try simp only [go_sem] at hc)) | refine z6 rfl ?_ | ((with_reducible apply And.intro); focus omega) | (refine z5 hK ?_; clear hK; simp only [go_sem, *]) | simp only [z3, z4, go_sem, *])
 ·refine ⟨[_], [], [], ⟨rfl, trivial⟩, ?_⟩
  simp only [go_sem, *]
  refine congrArg (fun l : Str => Value.string ⟨l.toArray⟩) ?_
  clear w1 w2 w3 hb
  revert n
  refine of_decide_eq_true ?_
  kernel_rfl
 ·refine ⟨⟨by omega, by simp; omega⟩, ?_⟩
  repeat' (first | (refine Qr rfl ?_; try intro _ hK; try simp only [go_sem, *]) | refine Qh rfl ?_ | (refine Qc rfl rfl ?_ ?_ <;> (intro hb; have hc := hb; try simp only [go_sem] at hc)) | refine z6 rfl ?_ | ((with_reducible apply And.intro); focus omega) | (refine z5 hK ?_; clear hK; simp only [go_sem, *]) | simp only [z3, z4, go_sem, *])
  refine ⟨[_], [], [], ⟨rfl, trivial⟩, ?_⟩
  simp only [go_sem, *]
  refine congrArg (fun l : Str => Value.string ⟨l.toArray⟩) ?_
  clear w1 w2 w3 hb
  revert n
  refine of_decide_eq_true ?_
  kernel_rfl
theorem zIm (n : Nat) (hn : n < 100) : zNV Tryz.prog 47 [iV n] [] (sV (zNl n)) [] := by
 have s1 := zJO n hn
 generalize zNl n = t at *
 have s2 : zNV Tryz.prog 102 [iV n, iV 10] [] (sV t) [] := by
  refine z9 Tryz.func102 rfl (fun E hE => ?_); simp only [go_sem, Tryz.ntmps102]
  repeat' (first | (refine Qr rfl ?_; try intro _ hK; try simp only [go_sem, *]) | (refine Qi rfl rfl rfl rfl ?_ ?_ <;> (intro hb; (try intro _ hK); have hc := hb; try simp only [go_sem] at hc; simp only [go_sem, *])) | refine Qh rfl ?_ | (refine Qc rfl rfl ?_ ?_ <;> (intro hb; have hc := hb; try simp only [go_sem] at hc)) | refine z6 rfl ?_ | (refine z8 (s1) ?_; simp only [go_sem, *]) | ((with_reducible apply And.intro); focus omega) | (refine z5 hK ?_; clear hK; simp only [go_sem, *]) | simp only [z3, z4, go_sem, *])
  all_goals first | contradiction | omega | skip
  (refine ⟨[_], [], [], ⟨rfl, trivial⟩, ?_⟩; simp only [go_sem, *])
 have s3 : zNV Tryz.prog 74 [iV n] [] (sV t) [] := by
  refine z9 Tryz.func74 rfl (fun E hE => ?_); simp only [go_sem, Tryz.ntmps74]
  repeat' (first | (refine Qr rfl ?_; try intro _ hK; try simp only [go_sem, *]) | refine Qh rfl ?_ | (refine Qc rfl rfl ?_ ?_ <;> (intro hb; have hc := hb; try simp only [go_sem] at hc)) | refine z6 rfl ?_ | (refine z8 (s2) ?_; simp only [go_sem, *]) | ((with_reducible apply And.intro); focus omega) | (refine z5 hK ?_; clear hK; simp only [go_sem, *]) | simp only [z3, z4, go_sem, *])
  (refine ⟨[_], [], [], ⟨rfl, trivial⟩, ?_⟩; simp only [go_sem, *])
 refine z9 Tryz.func47 rfl (fun E hE => ?_); simp only [go_sem, Tryz.ntmps47]
 repeat' (first | (refine Qr rfl ?_; try intro _ hK; try simp only [go_sem, *]) | refine Qh rfl ?_ | (refine Qc rfl rfl ?_ ?_ <;> (intro hb; have hc := hb; try simp only [go_sem] at hc)) | refine z6 rfl ?_ | (refine z8 (s3) ?_; simp only [go_sem, *]) | ((with_reducible apply And.intro); focus omega) | (refine z5 hK ?_; clear hK; simp only [go_sem, *]) | simp only [z3, z4, go_sem, *])
 (refine ⟨[_], [], [], ⟨rfl, trivial⟩, ?_⟩; simp only [go_sem, *])
theorem zDA (p : zNU) (v : Valid p) : zNV Tryz.prog 10 [y3 p] [] (.tup [sV (n0 p), iV 0]) [] := by
 have sc := i9 p (by have := v.len; omega)
 rw [(Q1 p).2 v] at sc
 have hB := zAa v
 have h3 := v.len
 have hrow : ∀ l, l ∈ p → l.length ≤ 8 := fun l hl => (v.rows l hl).len
 have hpl : ∀ l, l ∈ p → ∀ x, x ∈ l → 1 ≤ x.number ∧ x.number ≤ 40 ∧ 0 ≤ x.letter ∧ x.letter ≤ 4 := fun l hl x hx => zCe ((v.rows l hl).ok x hx)
 have h0 : [] ++ V3 p 0 = n0 p := rfl
 generalize n0 p = T at *
 clear v
 refine z9 Tryz.func10 rfl (fun E hE => ?_); simp only [go_sem, Tryz.ntmps10]
 repeat' (first | ((refine zIG (t := zNm) rfl rfl rfl rfl rfl 1 rfl ?_ ?_)) | (refine Qr rfl ?_; try intro _ hK; try simp only [go_sem, *]) | refine Qh rfl ?_ | (refine Qc rfl rfl ?_ ?_ <;> (intro hb; have hc := hb; try simp only [go_sem] at hc)) | refine z6 rfl ?_ | (refine z8 (sc) ?_; simp only [go_sem, *]) | ((with_reducible apply And.intro); focus omega) | (refine z5 hK ?_; clear hK; simp only [go_sem, *]) | simp only [z3, z4, go_sem, *])
 all_goals try contradiction
 refine v9 rfl (p.length) (fun i (acc : Str) => acc ++ V3 p i = T) 51 (fun i acc => [(18, iV i), (17, iV p.length), (16, .list (p.map q9)), (5, .ptr 0 0)]) (fun i acc => [.tbox zNm [.any, .own 1 1 0 acc.length], .brow 5 acc]) [some 1, none] [] ([]) (by exact h0) ?_; intro i acc hi hP
 clear h0
 have hwi : IntKind.i64.wrap ((i : Int) + 1) = ((i + 1 : Nat) : Int) := y8 (by omega)
 by_cases hi2 : i < p.length
 ·rw [zH3 hi2] at hP
  have hl8 := hrow _ (w5 hi2)
  have hlp := hpl _ (w5 hi2)
  clear hrow hpl
  have hii : (i : Int) < (p.length : Int) := by omega
  generalize hl : p.getD i default = l at *
  generalize hR : V3 p (i + 1) = R at *
  have q1 : acc.length + 1 ≤ 103 := by rw [← hP] at hB; simp at hB; omega
  have s1 := N0 acc [91] (by simp) (by simp; omega)
  repeat' (first | (refine Qr rfl ?_; try intro _ hK; try simp only [go_sem, *]) | refine Qh rfl ?_ | (refine Qc rfl rfl ?_ ?_ <;> (intro hb; have hc := hb; try simp only [go_sem] at hc)) | refine z6 rfl ?_ | (refine l5 [0, 1] (s1) ?_; simp only [go_sem, *]) | ((with_reducible apply And.intro); focus omega) | (refine z5 hK ?_; clear hK; simp only [go_sem, *]) | simp only [z3, z4, go_sem, *])
  all_goals try contradiction
  clear s1
  have hP : (acc ++ [91]) ++ (Z6 l 0 ++ ([93] ++ R)) = T := by rw [← hP]; simp
  refine v9 rfl (l.length) (fun k (a2 : Str) => a2 ++ (Z6 l k ++ ([93] ++ R)) = T) 51 (fun k a2 => [(25, iV k), (24, iV l.length), (23, q9 l), (18, iV i), (17, iV p.length), (16, .list (p.map q9)), (5, .ptr 0 0)]) (fun k a2 => [.tbox zNm [.any, .own 1 1 0 a2.length], .brow 5 a2]) [some 0, some 2] [] (acc ++ [91]) (by exact hP) ?_; intro k a2 hk hP2
  have hwk : IntKind.i64.wrap ((k : Int) + 1) = ((k + 1 : Nat) : Int) := y8 (by omega)
  clear hP q1
  by_cases hk2 : k < l.length
  ·have hkk : (k : Int) < (l.length : Int) := by omega
   rw [zH5 hk2] at hP2
   obtain ⟨g1, g2, g3, g4⟩ := hlp _ (w5 hk2)
   generalize hS : Z6 l (k + 1) = S at *
   generalize hx : l.getD k default = x at *
   obtain ⟨⟨n, hn⟩, ⟨m, hm⟩⟩ : (∃ n : Nat, x.number = n) ∧ (∃ m : Nat, x.letter = m) := ⟨⟨x.number.toNat, by omega⟩, ⟨x.letter.toNat, by omega⟩⟩
   obtain ⟨xn, xl⟩ := x
   dsimp only at hn hm g1 g2 g3 g4 hP2
   subst hn
   subst hm
   have s2 := zIm n (by omega)
   have hne := zHP n
   have hnl := zAX n
   have hc : i6 (m : Int) = if m = 0 then [] else [UInt8.ofNat (96 + m)] := by
    unfold i6
    by_cases hm0 : m = 0
    ·subst hm0; rfl
    ·rw [if_neg hm0, if_neg (by omega), Int.toNat_natCast]
   rw [hc] at hP2
   clear hc
   generalize zNl n = N at *
   have q2 : a2.length + 10 ≤ 500 := by rw [← hP2] at hB; simp at hB; omega
   by_cases hk0 : k = 0
   ·have hk0i : ¬ (k : Int) > 0 := by omega
    rw [if_pos hk0, List.nil_append] at hP2
    clear hk0
    have s3 := N0 a2 N hne (by omega)
    by_cases hm0 : m = 0
    ·subst hm0
     have hm0i : ¬ ((0 : Nat) : Int) > 0 := by omega
     rw [if_pos rfl, List.nil_append] at hP2
     repeat' (first | (refine Qr rfl ?_; try intro _ hK; try simp only [go_sem, *]) | refine Qh rfl ?_ | (refine Qc rfl rfl ?_ ?_ <;> (intro hb; have hc := hb; try simp only [go_sem] at hc)) | refine z6 rfl ?_ | (refine z8 (s2) ?_; simp only [go_sem, *]) | (refine l5 [0, 1] (s3) ?_; simp only [go_sem, *]) | ((with_reducible apply And.intro); focus omega) | (refine z5 hK ?_; clear hK; simp only [go_sem, *]) | simp only [z3, z4, go_sem, *])
     all_goals first | contradiction | omega | skip
     exact x9 (i' := k + 1) [some 0, some 3] [] (a2 ++ N) (by exact by rw [hS, ← hP2]; simp)
    ·have hm0i : (m : Int) > 0 := by omega
     rw [if_neg hm0] at hP2
     have hb1 : IntKind.u8.wrap (IntKind.i64.wrap (IntKind.i64.wrap (97 + (m : Int)) - 1)) = ((UInt8.ofNat (96 + m)).toNat : Int) := by
      have e1 : IntKind.i64.wrap (97 + (m : Int)) = 97 + (m : Int) := wrap_i64 (by omega) (by omega)
      rw [e1, wrap_i64 (by omega) (by omega)]
      have : m = 1 ∨ m = 2 ∨ m = 3 ∨ m = 4 := by omega
      rcases this with rfl | rfl | rfl | rfl <;> rfl
     generalize UInt8.ofNat (96 + m) = c at *
     have s4 := zC9 (a2 ++ N) c (by simp; omega)
     repeat' (first | (refine Qr rfl ?_; try intro _ hK; try simp only [go_sem, *]) | refine Qh rfl ?_ | (refine Qc rfl rfl ?_ ?_ <;> (intro hb; have hc := hb; try simp only [go_sem] at hc)) | refine z6 rfl ?_ | (refine z8 (s2) ?_; simp only [go_sem, *]) | (refine x8 [0, 1] [] (s3) (by simp) ?_ ?_ (by simp) (.inl rfl) ?_ ?_ ?_; (iterate 2 (focus (simp only [go_sem, *]; done))); (iterate 2 (focus (first | (simp; done) | (simp [go_sem]; done)))); simp only [go_sem, *]) | (refine x8 [0, 3] [] (s4) (by simp) ?_ ?_ (by simp) (.inl rfl) ?_ ?_ ?_; (iterate 2 (focus (simp only [go_sem, *]; done))); (iterate 2 (focus (first | (simp; done) | (simp [go_sem]; done)))); simp only [go_sem, *]) | ((with_reducible apply And.intro); focus omega) | (refine z5 hK ?_; clear hK; simp only [go_sem, *]) | simp only [z3, z4, go_sem, *])
     all_goals first | contradiction | omega | skip
     skip
     exact x9 (i' := k + 1) [some 0, some 4] [] (a2 ++ N ++ [c]) (by exact by rw [hS, ← hP2]; simp)
   ·have hk0i : (k : Int) > 0 := by omega
    rw [if_neg hk0] at hP2
    clear hk0
    have s5 := N0 a2 [32] (by simp) (by simp; omega)
    have s3 := N0 (a2 ++ [32]) N hne (by simp; omega)
    by_cases hm0 : m = 0
    ·subst hm0
     have hm0i : ¬ ((0 : Nat) : Int) > 0 := by omega
     rw [if_pos rfl, List.nil_append] at hP2
     repeat' (first | (refine Qr rfl ?_; try intro _ hK; try simp only [go_sem, *]) | refine Qh rfl ?_ | (refine Qc rfl rfl ?_ ?_ <;> (intro hb; have hc := hb; try simp only [go_sem] at hc)) | refine z6 rfl ?_ | (refine z8 (s2) ?_; simp only [go_sem, *]) | (refine x8 [0, 1] [] (s5) (by simp) ?_ ?_ (by simp) (.inl rfl) ?_ ?_ ?_; (iterate 2 (focus (simp only [go_sem, *]; done))); (iterate 2 (focus (first | (simp; done) | (simp [go_sem]; done)))); simp only [go_sem, *]) | (refine x8 [0, 3] [] (s3) (by simp) ?_ ?_ (by simp) (.inl rfl) ?_ ?_ ?_; (iterate 2 (focus (simp only [go_sem, *]; done))); (iterate 2 (focus (first | (simp; done) | (simp [go_sem]; done)))); simp only [go_sem, *]) | ((with_reducible apply And.intro); focus omega) | (refine z5 hK ?_; clear hK; simp only [go_sem, *]) | simp only [z3, z4, go_sem, *])
     all_goals first | contradiction | omega | skip
     skip
     exact x9 (i' := k + 1) [some 0, some 4] [] (a2 ++ [32] ++ N) (by exact by rw [hS, ← hP2]; simp)
    ·have hm0i : (m : Int) > 0 := by omega
     rw [if_neg hm0] at hP2
     have hb1 : IntKind.u8.wrap (IntKind.i64.wrap (IntKind.i64.wrap (97 + (m : Int)) - 1)) = ((UInt8.ofNat (96 + m)).toNat : Int) := by
      have e1 : IntKind.i64.wrap (97 + (m : Int)) = 97 + (m : Int) := wrap_i64 (by omega) (by omega)
      rw [e1, wrap_i64 (by omega) (by omega)]
      have : m = 1 ∨ m = 2 ∨ m = 3 ∨ m = 4 := by omega
      rcases this with rfl | rfl | rfl | rfl <;> rfl
     generalize UInt8.ofNat (96 + m) = c at *
     have s4 := zC9 (a2 ++ [32] ++ N) c (by simp; omega)
     repeat' (first | (refine Qr rfl ?_; try intro _ hK; try simp only [go_sem, *]) | refine Qh rfl ?_ | (refine Qc rfl rfl ?_ ?_ <;> (intro hb; have hc := hb; try simp only [go_sem] at hc)) | refine z6 rfl ?_ | (refine z8 (s2) ?_; simp only [go_sem, *]) | (refine x8 [0, 1] [] (s5) (by simp) ?_ ?_ (by simp) (.inl rfl) ?_ ?_ ?_; (iterate 2 (focus (simp only [go_sem, *]; done))); (iterate 2 (focus (first | (simp; done) | (simp [go_sem]; done)))); simp only [go_sem, *]) | (refine x8 [0, 3] [] (s3) (by simp) ?_ ?_ (by simp) (.inl rfl) ?_ ?_ ?_; (iterate 2 (focus (simp only [go_sem, *]; done))); (iterate 2 (focus (first | (simp; done) | (simp [go_sem]; done)))); simp only [go_sem, *]) | (refine x8 [0, 4] [] (s4) (by simp) ?_ ?_ (by simp) (.inl rfl) ?_ ?_ ?_; (iterate 2 (focus (simp only [go_sem, *]; done))); (iterate 2 (focus (first | (simp; done) | (simp [go_sem]; done)))); simp only [go_sem, *]) | ((with_reducible apply And.intro); focus omega) | (refine z5 hK ?_; clear hK; simp only [go_sem, *]) | simp only [z3, z4, go_sem, *])
     all_goals first | contradiction | omega | skip
     skip
     exact x9 (i' := k + 1) [some 0, some 5] [] (a2 ++ [32] ++ N ++ [c]) (by exact by rw [hS, ← hP2]; simp)
  ·have hkk : ¬ (k : Int) < (l.length : Int) := by omega
   rw [zH4 hk2, List.nil_append] at hP2
   have q2 : a2.length + 1 ≤ 500 := by rw [← hP2] at hB; simp at hB; omega
   have s6 := N0 a2 [93] (by simp) (by simp; omega)
   repeat' (first | (refine Qr rfl ?_; try intro _ hK; try simp only [go_sem, *]) | refine Qh rfl ?_ | (refine Qc rfl rfl ?_ ?_ <;> (intro hb; have hc := hb; try simp only [go_sem] at hc)) | refine z6 rfl ?_ | (refine l5 [0, 1] (s6) ?_; simp only [go_sem, *]) | ((with_reducible apply And.intro); focus omega) | (refine z5 hK ?_; clear hK; simp only [go_sem, *]) | simp only [z3, z4, go_sem, *])
   all_goals first | contradiction | omega | skip
   skip
   exact x9 (i' := i + 1) [some 0, some 2] [] (a2 ++ [93]) (by exact by rw [hR, ← hP2]; simp)
 ·have hii : ¬ (i : Int) < (p.length : Int) := by omega
  rw [zH2 hi2] at hP
  obtain ⟨c, r, hcr⟩ : ∃ c r, acc ++ [10] = c :: r := by
   cases acc with
   | nil => exact ⟨_, _, rfl⟩
   | cons c r => exact ⟨_, _, rfl⟩
  rw [hP] at hcr
  subst hcr
  have q2 : acc.length + 1 ≤ 500 := by rw [← hP] at hB; simp at hB; omega
  have s6 := N0 acc [10] (by simp) (by simp; omega)
  have s7 := zIX c r (by simp at hB; omega)
  rw [hP] at s6
  repeat' (first | (refine Qr rfl ?_; try intro _ hK; try simp only [go_sem, *]) | refine Qh rfl ?_ | (refine Qc rfl rfl ?_ ?_ <;> (intro hb; have hc := hb; try simp only [go_sem] at hc)) | refine z6 rfl ?_ | (refine x8 [0, 1] [] (s6) (by simp) ?_ ?_ (by simp) (.inl rfl) ?_ ?_ ?_; (iterate 2 (focus (simp only [go_sem, *]; done))); (iterate 2 (focus (first | (simp; done) | (simp [go_sem]; done)))); simp only [go_sem, *]) | (refine x8 [0, 2] [] (s7) (by simp) ?_ ?_ (by simp) (.inl rfl) ?_ ?_ ?_; (iterate 2 (focus (simp only [go_sem, *]; done))); (iterate 2 (focus (first | (simp; done) | (simp [go_sem]; done)))); simp only [go_sem, *]) | ((with_reducible apply And.intro); focus omega) | (refine z5 hK ?_; clear hK; simp only [go_sem, *]) | simp only [z3, z4, go_sem, *])
  all_goals first | contradiction | omega | skip
  skip
  (refine ⟨[_, _], [], [], ⟨rfl, rfl, trivial⟩, ?_⟩; simp only [go_sem, *])
end Go.Abs

namespace Go.Abs
open Go Go.Proofs Tryz
attribute [local irreducible] q8 Hold y4
theorem zGX {p : zNU} {i : Nat} (h : i < p.length) : d6 i (p.drop i) = (p.getD i default).map (fun x => (⟨(i : Nat), x⟩ : House)) ++ d6 (i + 1) (p.drop (i + 1)) := by
 rw [v3 h, d6]
theorem zG7 {l : List Plate} {k : Nat} (h : k < l.length) (i : Int) : (l.drop k).map (fun x => (⟨i, x⟩ : House)) = ⟨i, l.getD k default⟩ :: (l.drop (k + 1)).map (fun x => (⟨i, x⟩ : House)) := by
 rw [v3 h, List.map_cons]
theorem zI8 (p : zNU) (h1 : p.length ≤ 4294967296) (h2 : ∀ l, l ∈ p → l.length ≤ 4294967296) (h3 : (q6 p).length ≤ 4294967296) : zNV prog 113 [y3 p] [] (.own 0 3 0 (q6 p).length) [.row 3 ((q6 p).map House.enc)] := by
 refine z9 func113 rfl (fun E hE => ?_); simp only [go_sem, ntmps113]
 repeat' (first | (refine Qr rfl ?_; try intro _ hK; try simp only [go_sem, *]) | refine Qh rfl ?_ | (refine Qc rfl rfl ?_ ?_ <;> (intro hb; have hc := hb; try simp only [go_sem] at hc)) | refine z6 rfl ?_ | ((with_reducible apply And.intro); focus omega) | (refine z5 hK ?_; clear hK; simp only [go_sem, *]) | simp only [z3, z4, go_sem, *])
 refine v9 rfl (p.length) (fun i (acc : List House) => acc ++ d6 i (p.drop i) = q6 p) 31 (fun i acc => [(11, iV i), (10, iV p.length), (9, .list (p.map q9)), (3, .own 0 3 0 acc.length)]) (fun i acc => [.row 3 (acc.map House.enc)]) [none] [] ([]) (by simp [q6]) ?_; intro i acc hi hP
 repeat' (first | (refine Qr rfl ?_; try intro _ hK; try simp only [go_sem, *]) | refine Qh rfl ?_ | (refine Qc rfl rfl ?_ ?_ <;> (intro hb; have hc := hb; try simp only [go_sem] at hc)) | refine z6 rfl ?_ | ((with_reducible apply And.intro); focus omega) | (refine z5 hK ?_; clear hK; simp only [go_sem, *]) | simp only [z3, z4, go_sem, *])
 ·have hl := h2 _ (w5 ‹_›)
  rw [zGX ‹_›] at hP
  generalize hll : p.getD i default = l at *
  refine v9 rfl (l.length) (fun k (acc : List House) => acc ++ ((l.drop k).map (fun x => (⟨(i : Nat), x⟩ : House)) ++ d6 (i + 1) (p.drop (i + 1))) = q6 p) 31 (fun k acc => [(18, iV k), (17, iV l.length), (16, q9 l), (4, iV i), (11, iV i), (10, iV p.length), (9, .list (p.map q9)), (3, .own 0 3 0 acc.length)]) (fun k acc => [.row 3 (acc.map House.enc)]) [some 0] [] (acc) (by simpa using hP) ?_; intro k acc hk hK
  have hlen := congrArg List.length hK
  simp only [List.length_append, List.length_map, List.length_drop] at hlen
  repeat' (first | (refine Qr rfl ?_; try intro _ hK; try simp only [go_sem, *]) | refine Qh rfl ?_ | (refine Qc rfl rfl ?_ ?_ <;> (intro hb; have hc := hb; try simp only [go_sem] at hc)) | refine z6 rfl ?_ | ((with_reducible apply And.intro); focus omega) | (refine z5 hK ?_; clear hK; simp only [go_sem, *]) | simp only [z3, z4, go_sem, *])
  ·exact x9 (i' := k + 1) [some 3] [] (acc ++ [⟨(i : Nat), l.getD k default⟩]) (by rw [← hK, zG7 (k := k) (by assumption)]; simp)
  ·rw [u0 (by omega)] at hK
   exact x9 (i' := i + 1) [some 0] [] (acc) (by simpa using hK)
 ·refine ⟨[_], [some 0], [], ⟨rfl, trivial⟩, ?_⟩
  rw [u0 (by omega), d6, List.append_nil] at hP
  simp only [go_sem, hP, *]
end Go.Abs

namespace Go.Abs
open Go Go.Proofs Tryz
theorem zJk {l : List Plate} {i : Nat} {x : Plate} (h : i < l.length) (hn : x ∉ l.take i) (hx : ¬ l.getD i default = x) : x ∉ l.take (i + 1) := by
 rw [List.take_add_one]
 simp only [List.getD_eq_getElem?_getD, List.getElem?_eq_getElem h, Option.getD_some] at hx
 simp only [List.getElem?_eq_getElem h, Option.toList_some, List.mem_append, List.mem_singleton, not_or]
 exact ⟨hn, fun e => hx e.symm⟩
theorem zGZ {l : List Plate} {i : Nat} {x : Plate} (h : i < l.length) (hn : x ∉ l.take i) (hx : l.getD i default = x) : zN3 l x = i := by
 have hg : l.drop i = x :: l.drop (i + 1) := by rw [v3 h, hx]
 have hl : l = l.take i ++ x :: l.drop (i + 1) := by rw [← hg, List.take_append_drop]
 have hm : x ∈ l := by rw [hl]; simp
 rw [Q4 hm]
 conv => lhs; rw [hl]
 rw [List.idxOf_append, if_neg hn]
 simp; omega
theorem G2 {l : List Plate} {x : Plate} (hn : x ∉ l) : zN3 l x = -1 := by simp [zN3, hn]
def zNP (b : Bool) (y : Plate) : Bool := (y.number.tmod 2 == 1) == b
theorem zGw {l : List Plate} {n : Int} {i : Nat} (hi : i < 4) (h : ∀ j : Nat, j < i → (⟨n, (j : Int) + 1⟩ : Plate) ∈ l) (hn : (⟨n, (i : Int) + 1⟩ : Plate) ∉ l) : letter l n = i + 1 := by
 have h0 := h 0; have h1 := h 1; have h2 := h 2
 have : i = 0 ∨ i = 1 ∨ i = 2 ∨ i = 3 := by omega
 rcases this with rfl | rfl | rfl | rfl <;> simp_all [letter]
theorem J5 {v : Int} (h : 0 ≤ v) : v.tmod 2 = v % 2 := by rw [Int.tmod_eq_emod_of_nonneg h]
end Go.Abs

namespace Go.Abs
open Go Go.Proofs Tryz
attribute [local irreducible] q8 Hold y4
theorem b7 (l : List Plate) (x : Plate) (h1 : l.length ≤ 4294967296) : zNV prog 158 [q9 l, x.enc] [] (iV (zN3 l x)) [] := by
 refine z9 func158 rfl (fun E hE => ?_); simp only [go_sem, ntmps158]
 repeat' (first | (refine Qr rfl ?_; try intro _ hK; try simp only [go_sem, *]) | refine Qh rfl ?_ | refine Qd rfl (by kernel_rfl) ?_ | (refine Qc rfl rfl ?_ ?_ <;> (intro hb; have hc := hb; try simp only [go_sem] at hc)) | refine z6 rfl ?_ | (refine Qb ?_ ?_; focus kernel_rfl) | ((with_reducible apply And.intro); focus omega) | (refine z5 hK ?_; clear hK; simp only [go_sem, *]) | simp only [z3, z4, go_sem, *])
 refine v5 rfl (l.length) (fun i => x ∉ l.take i) 19 (fun i => [(8, iV i), (7, iV l.length), (3, .ptr 0 0), (0, q9 l)]) (fun i => [.box [iV x.number, iV x.letter]]) [some 0] [] (by simp) ?_; intro i hi hP
 repeat' (first | (refine Qr rfl ?_; try intro _ hK; try simp only [go_sem, *]) | refine Qh rfl ?_ | refine Qd rfl (by kernel_rfl) ?_ | (refine Qc rfl rfl ?_ ?_ <;> (intro hb; have hc := hb; try simp only [go_sem] at hc)) | refine z6 rfl ?_ | (refine Qb ?_ ?_; focus kernel_rfl) | ((with_reducible apply And.intro); focus omega) | (refine z5 hK ?_; clear hK; simp only [go_sem, *]) | simp only [z3, z4, go_sem, *])
 ·(refine ⟨[_], [], [], ⟨rfl, trivial⟩, ?_⟩; simp only [go_sem, *])
  have e : x = l.getD i default := by assumption
  rw [← e]
  exact zAG (zGZ (by assumption) hP e.symm)
 ·exact v4 (i' := i + 1) [some 0] [] (by exact zJk (by assumption) hP (fun e => absurd e.symm (by assumption)))
 ·(refine ⟨[_], [], [], ⟨rfl, trivial⟩, ?_⟩; simp only [go_sem, *])
  rw [List.take_of_length_le (by omega)] at hP
  rw [G2 hP]
theorem zAo (l : List Plate) (x : Plate) (h1 : l.length ≤ 4294967296) : zNV prog 157 [q9 l, x.enc] [] (bV (decide (x ∈ l))) [] := by
 refine z9 func157 rfl (fun E hE => ?_); simp only [go_sem, ntmps157]
 repeat' (first | (refine Qr rfl ?_; try intro _ hK; try simp only [go_sem, *]) | refine Qh rfl ?_ | (refine Qc rfl rfl ?_ ?_ <;> (intro hb; have hc := hb; try simp only [go_sem] at hc)) | refine z6 rfl ?_ | (refine z8 (b7 l x h1) ?_; simp only [go_sem, *]) | ((with_reducible apply And.intro); focus omega) | (refine z5 hK ?_; clear hK; simp only [go_sem, *]) | simp only [z3, z4, go_sem, *])
 (refine ⟨[_], [], [], ⟨rfl, trivial⟩, ?_⟩; simp only [go_sem, *])
 refine I7 ?_
 by_cases hm : x ∈ l
 ·simp [Q4 hm, hm]
 ·simp [G2 hm, hm]
theorem J0 (s n k : Int) : zNV prog 156 [iV s, iV n, iV k] [] (.agg [iV s, iV n, iV k]) [] := by
 refine z9 func156 rfl (fun E hE => ?_); simp only [go_sem, ntmps156]
 repeat' (first | (refine Qr rfl ?_; try intro _ hK; try simp only [go_sem, *]) | refine Qh rfl ?_ | (refine Qc rfl rfl ?_ ?_ <;> (intro hb; have hc := hb; try simp only [go_sem] at hc)) | refine z6 rfl ?_ | ((with_reducible apply And.intro); focus omega) | (refine z5 hK ?_; clear hK; simp only [go_sem, *]) | simp only [z3, z4, go_sem, *])
 refine ⟨[.agg [iV s, iV n, iV k]], [], [], ⟨(by simp only [x7, go_sem]), trivial⟩, ?_⟩; simp only [go_sem, *]
abbrev fnV (f : Nat) : AV := .raw (.func (.func f) #[] #[])
theorem E6 {f : Nat} {pr : Plate → Bool} (hc : r8 prog f = true) (hf : ∀ x : Plate, zNV prog f [x.enc] [] (bV (pr x)) []) (l : List Plate) (h1 : l.length ≤ 4294967296) :
  zNV prog 153 [q9 l, fnV f] [] (.own 0 2 0 (l.filter pr).length) [.row 2 ((l.filter pr).map Plate.enc)] := by
 refine z9 func153 rfl (fun E hE => ?_); simp only [go_sem, ntmps153]
 repeat' (first | (refine Qr rfl ?_; try intro _ hK; try simp only [go_sem, *]) | refine Qh rfl ?_ | (refine Qc rfl rfl ?_ ?_ <;> (intro hb; have hc := hb; try simp only [go_sem] at hc)) | refine z6 rfl ?_ | ((with_reducible apply And.intro); focus omega) | (refine z5 hK ?_; clear hK; simp only [go_sem, *]) | simp only [z3, z4, go_sem, *])
 refine v9 rfl (l.length) (fun i (acc : List Plate) => acc ++ (l.drop i).filter pr = l.filter pr) 23 (fun i acc => [(10, iV i), (9, iV l.length), (8, q9 l), (5, .own 0 2 0 acc.length), (1, fnV f)]) (fun i acc => [.row 2 (acc.map Plate.enc)]) [none] [] ([]) (by simp) ?_; intro i acc hi hP
 have hlen := congrArg List.length hP
 have hfl := List.length_filter_le pr l
 simp only [List.length_append] at hlen
 repeat' (first | (refine Qr rfl ?_; try intro _ hK; try simp only [go_sem, *]) | refine Qh rfl ?_ | (refine Qc rfl rfl ?_ ?_ <;> (intro hb; have hc := hb; try simp only [go_sem] at hc)) | refine z6 rfl ?_ | (refine z8 (hf (l.getD i default)) ?_; simp only [go_sem, *]) | ((with_reducible apply And.intro); focus omega) | (refine z5 hK ?_; clear hK; simp only [go_sem, *]) | simp only [z3, z4, go_sem, *])
 ·exact x9 (i' := i + 1) [some 3] [] (acc ++ [l.getD i default]) (by rw [← hP, v3 (i := i) (by assumption), List.filter_cons, if_pos (by assumption)]; simp)
 ·exact x9 (i' := i + 1) [some 0] [] (acc) (by rw [← hP, v3 (i := i) (by assumption), List.filter_cons, if_neg (by rw [Bool.not_eq_true]; assumption)])
 ·refine ⟨[_], [some 0], [], ⟨rfl, trivial⟩, ?_⟩
  rw [u0 (by omega), List.filter_nil, List.append_nil] at hP
  simp only [go_sem, hP, *]
theorem T8 : zNV prog 109 [] [] (.agg [.raw .nilFunc, fnV 124, fnV 125, fnV 126, fnV 127, fnV 128, fnV 129, fnV 130]) [] := by
 refine z9 func109 rfl (fun E hE => ?_); simp only [go_sem, ntmps109]
 repeat' (first | (refine Qr rfl ?_; try intro _ hK; try simp only [go_sem, *]) | refine Qh rfl ?_ | (refine Qc rfl rfl ?_ ?_ <;> (intro hb; have hc := hb; try simp only [go_sem] at hc)) | refine z6 rfl ?_ | ((with_reducible apply And.intro); focus omega) | (refine z5 hK ?_; clear hK; simp only [go_sem, *]) | simp only [z3, z4, go_sem, *])
 refine ⟨[.agg [.raw .nilFunc, fnV 124, fnV 125, fnV 126, fnV 127, fnV 128, fnV 129, fnV 130]], [], [], ⟨(by simp only [x7, go_sem]), trivial⟩, ?_⟩; simp only [go_sem, *]
end Go.Abs

namespace Go.Abs
open Go
section
variable {α : Type} (cf : α → α → Int)
def zNy (x : α) : List α → List α
 | [] => [x]
 | y :: r => if cf x y < 0 then y :: zNy x r else x :: y :: r
def zNk (pre : List α) (x : α) : List α := (zNy cf x pre.reverse).reverse
def w8 (xs : List α) : List α := xs.foldl (zNk cf) []
theorem zAE (x : α) : ∀ l : List α, (zNy cf x l).Perm (x :: l)
 | [] => .refl _
 | y :: r => by
  unfold zNy
  split
  ·exact ((zAE x r).cons y).trans (.swap x y r)
  ·exact .refl _
theorem zGd (pre : List α) (x : α) : (zNk cf pre x).Perm (pre ++ [x]) := by
 unfold zNk
 refine (List.reverse_perm _).trans ((zAE cf x _).trans ?_)
 exact ((List.reverse_perm pre).cons x).trans (List.perm_append_comm (l₁ := [x]) (l₂ := pre))
theorem zB8 : ∀ (xs pre : List α), (xs.foldl (zNk cf) pre).Perm (pre ++ xs)
 | [], pre => by simp
 | x :: r, pre => by
  rw [List.foldl_cons]
  refine (zB8 r _).trans ?_
  refine ((zGd cf pre x).append_right r).trans ?_
  simp
theorem T2 (xs : List α) : (w8 cf xs).Perm xs := by have := zB8 cf xs []; simpa [w8] using this
theorem G5 (xs : List α) : (w8 cf xs).length = xs.length := (T2 cf xs).length_eq
theorem zB9 (xs : List α) (x : α) : w8 cf (xs ++ [x]) = zNk cf (w8 cf xs) x := by simp [w8, List.foldl_append]
def zNx (S : List α) (x : α) (R : List α) (d : Nat) : List α := S.take (S.length - d) ++ x :: (S.drop (S.length - d) ++ R)
theorem zBU (S : List α) (x : α) (R : List α) (d : Nat) : (zNx S x R d).length = S.length + 1 + R.length := by simp [zNx]; omega
variable [Inhabited α]
theorem zBV (S : List α) (x : α) (R : List α) {d : Nat} (h : d ≤ S.length) : (zNx S x R d).getD (S.length - d) default = x := by
 unfold zNx
 simp only [List.getD_eq_getElem?_getD]
 rw [List.getElem?_append_right (by simp)]
 simp [show min (S.length - d) S.length = S.length - d by omega]
theorem zBW (S : List α) (x : α) (R : List α) {d : Nat} (h : d < S.length) : (zNx S x R d).getD (S.length - d - 1) default = S.getD (S.length - d - 1) default := by
 unfold zNx
 simp only [List.getD_eq_getElem?_getD]
 rw [List.getElem?_append_left (by simp; omega), List.getElem?_take, if_pos (by omega)]
theorem zEq (S : List α) (x : α) (R : List α) {d : Nat} (h : d < S.length) :
  ((zNx S x R d).set (S.length - d) (S.getD (S.length - d - 1) default)).set (S.length - d - 1) x = zNx S x R (d + 1) := by
 obtain ⟨j, hj⟩ : ∃ j, S.length - d = j + 1 := ⟨S.length - d - 1, by omega⟩
 have hj' : S.length - (d + 1) = j := by omega
 have hlt : j < S.length := by omega
 unfold zNx
 rw [hj, hj']
 have e1 : S.take (j + 1) = S.take j ++ [S.getD j default] := by rw [List.take_add_one]; simp [List.getD, hlt]
 have e2 : S.drop j = S.getD j default :: S.drop (j + 1) := v3 hlt
 rw [e1, e2]
 simp only [Nat.add_sub_cancel]
 have hl : (S.take j).length = j := by simp; omega
 rw [List.append_assoc, List.set_append_right _ _ (by omega), hl]
 simp only [Nat.add_sub_cancel_left, List.singleton_append, List.set_cons_succ, List.set_cons_zero]
 rw [List.set_append_right _ _ (by omega), hl]
 simp
theorem zGf (pre : List α) (x y : α) (h : cf x y < 0) : zNk cf (pre ++ [y]) x = zNk cf pre x ++ [y] := by
 have _ := (default : α)
 unfold zNk; simp [zNy, h]
theorem zGe (pre : List α) (x y : α) (h : ¬ cf x y < 0) : zNk cf (pre ++ [y]) x = pre ++ [y] ++ [x] := by
 have _ := (default : α)
 unfold zNk; simp [zNy, h]
theorem zDZ {l : List α} {i : Nat} (h : i < l.length) : l.take (i + 1) = l.take i ++ [l.getD i default] := by
 rw [List.take_add_one]; simp [List.getD, h]
def InsP (S : List α) (x : α) (R : List α) (cur : List α) (d : Nat) : Prop := cur = zNx S x R d ∧ zNk cf S x = zNk cf (S.take (S.length - d)) x ++ S.drop (S.length - d)
theorem InsP.start (S : List α) (x : α) (R : List α) : InsP cf S x R (S ++ x :: R) 0 := by simp [InsP, zNx]
theorem InsP.next {S : List α} {x : α} {R cur : List α} {d : Nat} (h : InsP cf S x R cur d) (hd : d < S.length) (hc : cf x (S.getD (S.length - d - 1) default) < 0) :
  InsP cf S x R ((cur.set (S.length - d) (S.getD (S.length - d - 1) default)).set (S.length - d - 1) x) (d + 1) := by
 obtain ⟨h1, h2⟩ := h
 refine ⟨by rw [h1, zEq S x R hd], ?_⟩
 obtain ⟨j, hj⟩ : ∃ j, S.length - d = j + 1 := ⟨S.length - d - 1, by omega⟩
 have hj' : S.length - (d + 1) = j := by omega
 have hlt : j < S.length := by omega
 have e1 : S.take (j + 1) = S.take j ++ [S.getD j default] := by rw [List.take_add_one]; simp [List.getD, hlt]
 have e2 : S.drop j = S.getD j default :: S.drop (j + 1) := v3 hlt
 rw [hj] at h2 hc
 simp only [Nat.add_sub_cancel] at hc
 rw [h2, hj', e1, zGf cf _ _ _ hc, e2, List.append_assoc]; rfl
theorem InsP.stop {S : List α} {x : α} {R cur : List α} {d : Nat} (h : InsP cf S x R cur d) (hd : d ≤ S.length) (hc : d < S.length → ¬ cf x (S.getD (S.length - d - 1) default) < 0) : cur = zNk cf S x ++ R := by
 obtain ⟨h1, h2⟩ := h
 rw [h1, h2]
 unfold zNx
 by_cases e : d = S.length
 ·subst e; simp [zNk, zNy]
 ·obtain ⟨j, hj⟩ : ∃ j, S.length - d = j + 1 := ⟨S.length - d - 1, by omega⟩
  have hlt : j < S.length := by omega
  have e1 : S.take (j + 1) = S.take j ++ [S.getD j default] := by rw [List.take_add_one]; simp [List.getD, hlt]
  have hc' := hc (by omega)
  rw [hj] at hc' ⊢
  simp only [Nat.add_sub_cancel] at hc'
  rw [e1, zGe cf _ _ _ hc']; simp
end
end Go.Abs

namespace Go.Abs
open Go
section
variable {α : Type} (cf : α → α → Int)
structure Ordr : Prop where
 asym : ∀ x y, cf x y < 0 → ¬ cf y x < 0
 trans : ∀ x y z, ¬ cf y x < 0 → ¬ cf z y < 0 → ¬ cf z x < 0
theorem zB5 (o : Ordr cf) (x : α) : ∀ l : List α, l.Pairwise (fun a b => ¬ cf a b < 0) → (zNy cf x l).Pairwise (fun a b => ¬ cf a b < 0)
 | [], _ => by simp [zNy]
 | y :: r, h => by
  obtain ⟨h1, h2⟩ := List.pairwise_cons.1 h
  unfold zNy
  split
  ·rename_i hc
   refine List.pairwise_cons.2 ⟨fun z hz => ?_, zB5 o x r h2⟩
   rcases List.mem_cons.1 ((zAE cf x r).mem_iff.1 hz) with rfl | hz
   ·exact o.asym _ _ hc
   ·exact h1 z hz
  ·rename_i hc
   refine List.pairwise_cons.2 ⟨fun z hz => ?_, h⟩
   rcases List.mem_cons.1 hz with rfl | hz
   ·exact hc
   ·exact o.trans _ _ _ (h1 z hz) hc
theorem zGg (o : Ordr cf) {pre : List α} (x : α) (h : pre.Pairwise (fun a b => ¬ cf b a < 0)) : (zNk cf pre x).Pairwise (fun a b => ¬ cf b a < 0) := by
 unfold zNk
 rw [List.pairwise_reverse]
 exact zB5 cf o x _ (List.pairwise_reverse.2 h)
theorem zCA (o : Ordr cf) (xs : List α) : (w8 cf xs).Pairwise (fun a b => ¬ cf b a < 0) := by
 have key : ∀ (xs pre : List α), pre.Pairwise (fun a b => ¬ cf b a < 0) → (xs.foldl (zNk cf) pre).Pairwise (fun a b => ¬ cf b a < 0) := by
  intro xs
  induction xs with
  | nil => intro pre h; exact h
  | cons x r ih => intro pre h; exact ih _ (zGg cf o x h)
 exact key xs [] List.Pairwise.nil
end
theorem zHX : Ordr zNh := ⟨fun x y h => by rw [M2, Plate.lt_iff] at *; omega, fun x y z h1 h2 => by rw [M2, Plate.lt_iff] at *; omega⟩
theorem zHW : Ordr zNv := ⟨fun x y h => by rw [B2, House.lt_iff] at *; omega, fun x y z h1 h2 => by rw [B2, House.lt_iff] at *; omega⟩
theorem zGl {xs : List Plate} (hn : xs.Nodup) : (w8 zNh xs).Pairwise (fun a b => a.lt b = true) := by
 have h1 := zCA zNh zHX xs
 have h2 : (w8 zNh xs).Nodup := (T2 zNh xs).nodup_iff.2 hn
 refine (h1.and h2).imp (fun {a b} h => ?_)
 rcases Plate.lt_tri a b with h3 | h3 | h3
 ·exact h3
 ·exact absurd h3 h.2
 ·exact absurd ((M2 b a).2 h3) h.1
def zOL (i s : Nat) (b : List Plate) : List Plate := if s < i then w8 zNh b else b
attribute [go_sem] zOL G5
@[go_sem] theorem zNK (f : Plate → AV) (b : List Plate) : ((w8 zNh b).map f).take b.length = (w8 zNh b).map f := List.take_of_length_le (by simp [G5])
def Bk (b : List Plate) (s : Nat) (rest tot : List House) : Prop := (b ++ (rest.filter (fun h => h.street == (s : Int))).map House.plate).Perm ((tot.filter (fun h => h.street == (s : Int))).map House.plate)
theorem Bk.start (s : Nat) (tot : List House) : Bk [] s tot tot := by simp [Bk]
theorem Bk.step_in {b : List Plate} {s : Nat} {h : House} {rest tot : List House} (hb : Bk b s (h :: rest) tot) (e : h.street = s) : Bk (b ++ [h.plate]) s rest tot := by
 unfold Bk at *
 rw [List.filter_cons, if_pos (by simp [e])] at hb
 simpa using hb
theorem Bk.step_out {b : List Plate} {s : Nat} {h : House} {rest tot : List House} (hb : Bk b s (h :: rest) tot) (e : h.street ≠ s) : Bk b s rest tot := by
 unfold Bk at *
 rw [List.filter_cons, if_neg (by simpa using e)] at hb
 exact hb
theorem Bk.perm {b : List Plate} {s : Nat} {rest rest' tot : List House} (hb : Bk b s rest tot) (hp : rest.Perm rest') : Bk b s rest' tot :=
 (List.Perm.append_left b ((hp.symm.filter _).map _)).trans hb
theorem B5 {α : Type} : ∀ (l : List α) (i : Nat) (h : i < l.length), l.Perm (l[i] :: l.eraseIdx i)
 | x :: r, 0, _ => by simp
 | x :: r, i + 1, h => by
  simp only [List.getElem_cons_succ, List.eraseIdx_cons_succ]
  exact ((B5 r i (by simpa using h)).cons x).trans (.swap _ _ _)
theorem Bk.pick {b : List Plate} {s : Nat} {rem : List House} {g : House → List House} {tot : List House} (hb : Bk b s (rem.flatMap g) tot) (i : Nat) (h : i < rem.length) : Bk b s (g rem[i] ++ (rem.eraseIdx i).flatMap g) tot := by
 refine hb.perm ?_
 have := (B5 rem i h).flatMap_right g
 simpa using this
theorem Bk.len {b : List Plate} {s : Nat} {rest tot : List House} (hb : Bk b s rest tot) : b.length ≤ (tot.filter (fun h => h.street == (s : Int))).length := by
 have := hb.length_eq
 simp at this; omega
theorem Bk.fin {b : List Plate} {s n : Nat} {tot : List House} (hb : Bk b s [] tot) (hn : tot.Nodup) (hs : s < n) : w8 zNh b = z7 (laid tot n) s := by
 have hp : b.Perm ((tot.filter (fun h => h.street == (s : Int))).map House.plate) := by simpa [Bk] using hb
 have hnd : ((tot.filter (fun h => h.street == (s : Int))).map House.plate).Nodup := by
  rw [List.nodup_iff_pairwise_ne, List.pairwise_map]
  refine (hn.filter _).imp_of_mem (fun {a b} ha hb' hab e => hab ?_)
  have h1 := (List.mem_filter.1 ha).2
  have h2 := (List.mem_filter.1 hb').2
  simp at h1 h2
  cases a; cases b; simp_all
 refine zHq (zGl (hp.nodup_iff.2 hnd)) (E4 (by omega) (by omega)) (fun z => ?_)
 rw [(T2 zNh b).mem_iff, hp.mem_iff, P4 (by omega) (by omega)]
 simp only [List.mem_map, List.mem_filter, beq_iff_eq]
 constructor
 ·rintro ⟨h, ⟨h1, h2⟩, rfl⟩
  rw [← h2]; exact h1
 ·intro h; exact ⟨_, ⟨h, rfl⟩, rfl⟩
end Go.Abs

namespace Go.Abs
open Go Go.Proofs Tryz
theorem zAJ : Maps.Keyed prog 60 := Maps.Keyed.of_law (deep_law (m := 4) (by omega) (by kernel_rfl) (by kernel_rfl) (by kernel_rfl))
structure House.Wf (h : House) : Prop where
 s : (Lit.int .i64 h.street).wf = true
 n : (Lit.int .i64 h.plate.number).wf = true
 l : (Lit.int .i64 h.plate.letter).wf = true
@[reducible] def House.key (h : House) : Value := .agg #[.int .i64 h.street, .int .i64 h.plate.number, .int .i64 h.plate.letter]
theorem zAN (d : Nat) (n : Int) (h : (Lit.int .i64 n).wf = true) : prog.keyLits (d + 1) 3 [.int .i64 n] = some [.int .i64 n] := by
 have hu : prog.underlying 3 = some (.int .i64) := by kernel_rfl
 unfold Program.keyLits
 rw [hu]; simp [h]
theorem zGz (d : Nat) (n m : Int) (h : (Lit.int .i64 n).wf = true) (h' : (Lit.int .i64 m).wf = true) : prog.keyLits (d + 2) 50 [.int .i64 n, .int .i64 m] = some [.int .i64 n, .int .i64 m] := by
 have hu : prog.underlying 50 = some (.struct (prog.fieldsOf 50)) := by kernel_rfl
 have hl : (prog.fieldsOf 50).toList = [(prog.fieldsOf 50).toList.getD 0 default, (prog.fieldsOf 50).toList.getD 1 default] := by kernel_rfl
 have t0 : ((prog.fieldsOf 50).toList.getD 0 default).type = 3 := by kernel_rfl
 have t1 : ((prog.fieldsOf 50).toList.getD 1 default).type = 3 := by kernel_rfl
 have o0 : ((prog.fieldsOf 50).toList.getD 0 default).offset = 0 := by kernel_rfl
 have o1 : ((prog.fieldsOf 50).toList.getD 1 default).offset = 1 := by kernel_rfl
 have c3 : prog.cellsOf 3 = 1 := by kernel_rfl
 have c26 : prog.cellsOf 50 = 2 := by kernel_rfl
 have hn : (prog.fieldsOf 50).all (·.name != "_") = true := by kernel_rfl
 unfold Program.keyLits
 rw [hu]
 simp only [hn, c26, List.length_cons, List.length_nil, and_self, if_true]
 rw [hl]
 generalize (prog.fieldsOf 50).toList.getD 0 default = f0 at *
 generalize (prog.fieldsOf 50).toList.getD 1 default = f1 at *
 simp [List.mapM_cons, t0, t1, o0, o1, c3, zAN d _ h, zAN d _ h']
theorem zG0 (d : Nat) (a n m : Int) (h0 : (Lit.int .i64 a).wf = true) (h : (Lit.int .i64 n).wf = true) (h' : (Lit.int .i64 m).wf = true) : prog.keyLits (d + 3) 60 [.int .i64 a, .int .i64 n, .int .i64 m] = some [.int .i64 a, .int .i64 n, .int .i64 m] := by
 have hu : prog.underlying 60 = some (.struct (prog.fieldsOf 60)) := by kernel_rfl
 have hl : (prog.fieldsOf 60).toList = [(prog.fieldsOf 60).toList.getD 0 default, (prog.fieldsOf 60).toList.getD 1 default] := by kernel_rfl
 have t0 : ((prog.fieldsOf 60).toList.getD 0 default).type = 3 := by kernel_rfl
 have t1 : ((prog.fieldsOf 60).toList.getD 1 default).type = 50 := by kernel_rfl
 have o0 : ((prog.fieldsOf 60).toList.getD 0 default).offset = 0 := by kernel_rfl
 have o1 : ((prog.fieldsOf 60).toList.getD 1 default).offset = 1 := by kernel_rfl
 have c3 : prog.cellsOf 3 = 1 := by kernel_rfl
 have c26 : prog.cellsOf 50 = 2 := by kernel_rfl
 have c57 : prog.cellsOf 60 = 3 := by kernel_rfl
 have hn : (prog.fieldsOf 60).all (·.name != "_") = true := by kernel_rfl
 unfold Program.keyLits
 rw [hu]
 simp only [hn, c57, List.length_cons, List.length_nil, and_self, if_true]
 rw [hl]
 generalize (prog.fieldsOf 60).toList.getD 0 default = f0 at *
 generalize (prog.fieldsOf 60).toList.getD 1 default = f1 at *
 simp [List.mapM_cons, t0, t1, o0, o1, c3, c26, zAN (d + 1) _ h0, zGz d _ _ h h']
theorem R9 (h : House) (hw : h.Wf) : zN4 prog 60 h.key := by
 have hu : prog.underlying 60 = some (.struct (prog.fieldsOf 60)) := by kernel_rfl
 have hk : prog.keyType 60 = true := by kernel_rfl
 have hs : ∃ d, prog.types.size + 1 = d + 3 := ⟨prog.types.size - 2, by kernel_rfl⟩
 have hf : h.key.formed prog 60 = true := by
  have : prog.cellsOf 60 = 3 := by kernel_rfl
  simp [House.key, Value.formed, hu, this]
 obtain ⟨d, hd⟩ := hs
 unfold zN4 keyOf
 rw [hu]
 simp only [hk, hf, Bool.and_self, if_true, hd]
 rw [show h.key.cells.toList = [.int .i64 h.street, .int .i64 h.plate.number, .int .i64 h.plate.letter] from rfl, zG0 d _ _ _ hw.s hw.n hw.l]
 exact ⟨_, rfl⟩
end Go.Abs

namespace Go.Abs
open Go Go.Proofs Tryz
theorem House.key_inj {a b : House} : a.key = b.key ↔ a = b := by
 rw [House.eq_iff]
 simp [House.key]
theorem R7 (h : House) : ∀ hs : List House, zNn h.key (hs.map House.key) = if h ∈ hs then some (hs.idxOf h) else none
 | [] => by simp [zNn]
 | x :: r => by
  have ih := R7 h r
  rw [List.map_cons]
  unfold zNn
  by_cases e : x = h
  ·subst e; simp
  ·have e' : ¬ x.key = h.key := fun k => e (House.key_inj.1 k)
   rw [if_neg e', ih]
   by_cases hm : h ∈ r
   ·rw [if_pos hm, if_pos (by simp [hm])]
    have hb : (x == h) = false := by simpa using e
    simp [List.idxOf_cons, hb]
   ·rw [if_neg hm, if_neg (by simp only [List.mem_cons, not_or]; exact ⟨fun k => e k.symm, hm⟩)]; rfl
theorem zG1 {hs : List House} {h : House} (F : House → AV) (z : AV) : c6 (hs.map House.key) (hs.map F) h.key z = if h ∈ hs then F h else z := by
 unfold c6; rw [R7]
 by_cases hm : h ∈ hs
 ·rw [if_pos hm, if_pos hm]
  have hlt := List.idxOf_lt_length_of_mem hm
  simp [hlt, List.getElem_idxOf]
 ·rw [if_neg hm, if_neg hm]
theorem zHt {hs : List House} {h : House} (hm : h ∈ hs) : zOE (hs.map House.key) h.key = hs.map House.key := by
 unfold zOE; rw [R7, if_pos hm]
theorem zHs {hs : List House} {h : House} (hm : h ∉ hs) : zOE (hs.map House.key) h.key = (hs ++ [h]).map House.key := by
 unfold zOE; rw [R7, if_neg hm]; simp
theorem zHu {hs : List House} {h : House} (xs : List AV) (v : AV) (hm : h ∉ hs) : zOF (hs.map House.key) xs h.key v = xs ++ [v] := by
 unfold zOF; rw [R7, if_neg hm]
theorem zHv {hs : List House} {h : House} (hn : hs.Nodup) (F : House → AV) (v : AV) (hm : h ∈ hs) : zOF (hs.map House.key) (hs.map F) h.key v = hs.map (fun k => if k = h then v else F k) := by
 unfold zOF; rw [R7, if_pos hm]
 apply List.ext_getElem (by simp)
 intro i h1 h2
 simp only [List.getElem_set, List.getElem_map]
 simp at h2
 have hlt := List.idxOf_lt_length_of_mem hm
 have hg : hs[hs.idxOf h] = h := by simp [List.getElem_idxOf]
 by_cases e : hs.idxOf h = i
 ·subst e; simp [hg]
 ·rw [if_neg e, if_neg]
  intro e2
  apply e
  have : hs[hs.idxOf h] = hs[i] := by rw [hg, e2]
  exact (Y1 hn).1 this
theorem zAT : ∃ et, zNr prog 117 = some (60, et) ∧ zeroT prog et = some (.slice none 0 0) := by
 have h : ((zNr prog 117).map (·.1)) = some 60 := by kernel_rfl
 have h2 : ((zNr prog 117).bind fun x => zeroT prog x.2) = some (.slice none 0 0) := by kernel_rfl
 cases hm : zNr prog 117 with
 | none => rw [hm] at h; cases h
 | some x => rw [hm] at h h2; obtain ⟨k, e⟩ := x; simp at h; subst h; exact ⟨e, rfl, by simpa using h2⟩
theorem zAI (h : House) : zOJ h.enc = some h.key := by simp [House.enc, zOJ, l0, House.key]
theorem zDf {h : House} {hs : List House} {F : House → AV} {x : AV} {o : Nat} {H : Nat → AObj} {K : Cont} (ho : H o = .mapo (hs.map House.key) (hs.map F)) (hw : ∀ k, k ∈ hs → k.Wf) (hn : hs.Nodup) (hm : h ∈ hs)
  (hp : Pure (zNW H 3 x).1) (hc : (zNW H 3 x).2.contains o = false)
  (hk : K (.tup []) (o :: (zNW H 3 x).2) (w6 (zNW H 3 x).2 ++ [(o, .mapo (hs.map House.key) (hs.map fun k => if k = h then (zNW H 3 x).1 else F k))])) : j9 prog 117 (.mp o) h.enc x H K := by
 obtain ⟨et, h1, _⟩ := zAT
 unfold j9
 rw [h1, zAI]
 simp only [ho]
 refine ⟨zAJ, R9 h (hw h hm), fun q hq => ?_, hp, hc, ?_⟩
 ·obtain ⟨k, hk, rfl⟩ := List.mem_map.1 hq; exact R9 k (hw k hk)
 ·rw [zHt hm, zHv hn F _ hm]; exact hk
theorem zCS {h : House} {hs : List House} {xs : List AV} {x : AV} {o : Nat} {H : Nat → AObj} {K : Cont} (ho : H o = .mapo (hs.map House.key) xs) (hw : ∀ k, k ∈ hs → k.Wf) (hh : h.Wf) (hm : h ∉ hs)
  (hp : Pure (zNW H 3 x).1) (hc : (zNW H 3 x).2.contains o = false)
  (hk : K (.tup []) (o :: (zNW H 3 x).2) (w6 (zNW H 3 x).2 ++ [(o, .mapo ((hs ++ [h]).map House.key) (xs ++ [(zNW H 3 x).1]))])) : j9 prog 117 (.mp o) h.enc x H K := by
 obtain ⟨et, h1, _⟩ := zAT
 unfold j9
 rw [h1, zAI]
 simp only [ho]
 refine ⟨zAJ, R9 h hh, fun q hq => ?_, hp, hc, ?_⟩
 ·obtain ⟨k, hk, rfl⟩ := List.mem_map.1 hq; exact R9 k (hw k hk)
 ·rw [zHs hm, zHu xs _ hm]; exact hk
theorem zFw {H : Nat → AObj} {q n : Nat} {hl : List House} {rows : List AV} (h : H q = .row 3 rows) (hr : rows = hl.map House.enc) (hn : n = hl.length) : zNW H 3 (.own q 3 0 n) = (.list (hl.map House.enc), [q]) := by
 subst hr; subst hn
 simp [zNW, h, List.take_of_length_le]
theorem W5 {h : House} {hs : List House} {F : House → AV} {H : Nat → AObj} {K : Cont} (hw : ∀ k, k ∈ hs → k.Wf) (hh : h.Wf)
  (hk : K (if h ∈ hs then F h else .list []) [] []) : Q8 prog 117 (.fmap (hs.map House.key) (hs.map F)) h.enc false H K := by
 obtain ⟨et, h1, h2⟩ := zAT
 unfold Q8
 rw [h1, zAI]
 simp only [h2]
 refine ⟨zAJ, R9 h hh, by simp [Value.cells, Value.oneCell'], fun q hq => ?_, ?_⟩
 ·obtain ⟨k, hk, rfl⟩ := List.mem_map.1 hq; exact R9 k (hw k hk)
 ·rw [zG1]; simpa [zAV] using hk
def zNY (g : House → List House) (h : House) : AV := .list ((g h).map House.enc)
@[reducible] def y7 (p : zNU) : List Value := (q6 p).map House.key
@[reducible] def y6 (p : zNU) (g : House → List House) : List AV := (q6 p).map (zNY g)
theorem zHD {p : zNU} {g g' : House → List House} (h : ∀ k, k ∈ q6 p → g k = g' k) : y6 p g = y6 p g' := List.map_congr_left (fun k hk => by simp [zNY, h k hk])
def Upd (p : zNU) (c : Change) (g : House → List House) (done : List Plate) : Prop := ∀ h, h ∈ q6 p → g h = if h.street = c.street ∧ h.plate ∈ done then mv p c h else [h]
theorem Upd.nil (p : zNU) (c : Change) : Upd p c (fun h => [h]) [] := fun h _ => by simp
theorem Upd.step {p : zNU} {c : Change} {g : House → List House} {done : List Plate} (h : Upd p c g done) (x : Plate) : Upd p c (fun k => if k = ⟨c.street, x⟩ then mv p c ⟨c.street, x⟩ else g k) (done ++ [x]) := fun k hk => by
 simp only
 by_cases e : k = ⟨c.street, x⟩
 ·subst e; simp
 ·rw [if_neg e, h k hk]
  have : (k.street = c.street ∧ k.plate ∈ done ++ [x]) ↔ (k.street = c.street ∧ k.plate ∈ done) := by
   constructor
   ·rintro ⟨h1, h2⟩
    rcases List.mem_append.1 h2 with h2 | h2
    ·exact ⟨h1, h2⟩
    ·simp at h2; exact absurd (by cases k; simp_all) e
   ·rintro ⟨h1, h2⟩; exact ⟨h1, by simp [h2]⟩
  simp only [this]
theorem Upd.fin {p : zNU} {c : Change} {g : House → List House} {done : List Plate} (h : Upd p c g done) (hd : ∀ x, x ∈ z7 p c.street → x ∉ done → toP p c x = [⟨c.street, x⟩]) : y6 p g = y6 p (mv p c) := zHD fun k hk => by
 rw [h k hk]
 by_cases e : k.street = c.street
 ·by_cases hm : k.plate ∈ done
  ·rw [if_pos ⟨e, hm⟩]
  ·rw [if_neg (fun x => hm x.2)]
   have hr := (mem_houses.1 hk).2.2
   rw [e] at hr
   rw [mv, if_pos e, hd _ hr hm]; cases k; simp_all
 ·rw [if_neg (fun x => e x.1), mv, if_neg e]
theorem D3 {n : Int} (h0 : -9223372036854775808 ≤ n) (h1 : n ≤ 9223372036854775807) : (Lit.int .i64 n).wf = true := by
 simp [Lit.wf, IntKind.min, IntKind.max, IntKind.signed, IntKind.bits]; omega
theorem Valid.wf {p : zNU} (v : Valid p) : ∀ h, h ∈ q6 p → h.Wf := fun h hh => by
 obtain ⟨h0, h1, h2⟩ := mem_houses.1 hh
 have := (p9 _).1 ((v.row h.street).ok _ h2)
 have := v.len
 exact ⟨D3 (by omega) (by omega), D3 (by omega) (by omega), D3 (by omega) (by omega)⟩
theorem Valid.nodup {p : zNU} (v : Valid p) : (q6 p).Nodup := (zDU v).nodup
theorem Valid.count {p : zNU} (v : Valid p) : (q6 p).length ≤ 24 := by
 have key : ∀ n, n ≤ p.length → ((List.range n).flatMap fun s => (p.getD s default).map fun x => (⟨(s : Nat), x⟩ : House)).length ≤ n * 8 := by
  intro n
  induction n with
  | zero => intro _; simp
  | succ n ih =>
   intro hn
   have := (v.rows _ (w5 (l := p) (i := n) (by omega))).len
   have := ih (by omega)
   rw [List.range_succ, List.flatMap_append]
   simp only [List.length_append, List.flatMap_cons, List.flatMap_nil, List.append_nil, List.length_map]
   omega
 rw [H9]
 have := key p.length (Nat.le_refl _)
 have := v.len
 omega
end Go.Abs

namespace Go.Abs
open Go Go.Proofs Tryz
@[go_sem] theorem zNA (p : zNU) (s : Int) : List.getD p s.toNat default = z7 p s := rfl
attribute [go_sem] Nat.mul_one List.length_set
@[go_sem] theorem zMI (n : Nat) : ((n : Int) < 2) = (n < 2) := by simp; omega
@[go_sem] theorem zL2 : ((0 : Nat) : Int) = 0 := rfl
@[go_sem] theorem zL3 : ((1 : Nat) : Int) = 1 := rfl
@[go_sem] theorem zL4 : ((2 : Nat) : Int) = 2 := rfl
@[go_sem] theorem zL5 : ((3 : Nat) : Int) = 3 := rfl
@[go_sem] theorem zL6 : ((4 : Nat) : Int) = 4 := rfl
@[go_sem] theorem zL7 : ((5 : Nat) : Int) = 5 := rfl
@[go_sem] theorem zL8 : ((6 : Nat) : Int) = 6 := rfl
@[go_sem] theorem zL9 : ((7 : Nat) : Int) = 7 := rfl
@[go_sem] theorem zMA : ((8 : Nat) : Int) = 8 := rfl
@[go_sem] theorem zNL {α β : Type} (f : α → β) (l : List α) : (l.map f).take l.length = l.map f := List.take_of_length_le (by simp)
theorem zBB {H : Nat → AObj} {m : List (Option Nat)} {ex : List Nat} {α : Type} {f : α → AV} (hf : ∀ x, XpF H m ex (f x) (f x)) : ∀ l : List α, XpL H m ex (l.map f) (l.map f)
 | [] => by simp [zBC]
 | x :: r => by simp only [List.map_cons, C0]; exact ⟨hf x, zBB hf r⟩
@[go_sem] theorem zKY (H : Nat → AObj) (m : List (Option Nat)) (ex : List Nat) (l : List (List Plate)) : XpL H m ex (l.map q9) (l.map q9) ↔ True := ⟨fun _ => trivial, fun _ => zBB (fun x => by simp only [XpF]) l⟩
@[go_sem] theorem zLS (H : Nat → AObj) (n : Nat) (f : Fn) (a b : Array Value) : zNW H (n + 1) (.raw (.func f a b)) = (.raw (.func f a b), []) := rfl
def NoP (_ : Nat) : Prop := True
def zNo (p : zNU) (c : Change) (g : House → List House) (x : Plate) : House → List House := fun k => if k = ⟨c.street, x⟩ then mv p c ⟨c.street, x⟩ else g k
theorem Upd.one {p : zNU} {c : Change} {g : House → List House} {done : List Plate} (h : Upd p c g done) (x : Plate) : Upd p c (zNo p c g x) (done ++ [x]) := h.step x
theorem zCR (p : zNU) (c : Change) (x : Plate) : mv p c ⟨c.street, x⟩ = toP p c x := by simp [mv]
theorem zB1 {p : zNU} {c : Change} (hs0 : 0 ≤ c.street) (hs1 : c.street < p.length) {x : Plate} (hx : x ∈ z7 p c.street) : (⟨c.street, x⟩ : House) ∈ q6 p := mem_houses.2 ⟨hs0, hs1, hx⟩
theorem S3 {p : zNU} {c : Change} {g : House → List House} {x : Plate} {o q n : Nat} {H : Nat → AObj} {K : Cont} (hl : List House) (v : Valid p) (hs0 : 0 ≤ c.street) (hs1 : c.street < p.length) (hx : x ∈ z7 p c.street)
  (ho : H o = .mapo (y7 p) (y6 p g)) (hq : H q = .row 3 (hl.map House.enc)) (hn : n = hl.length) (hoq : (q == o) = false) (e : toP p c x = hl)
  (hk : K (.tup []) [o, q] [(q, .dead), (o, .mapo (y7 p) (y6 p (zNo p c g x)))]) : j9 prog 117 (.mp o) (.agg [iV c.street, iV x.number, iV x.letter]) (.own q 3 0 n) H K := by
 have hf := zFw hq rfl hn
 refine zDf (h := ⟨c.street, x⟩) (hs := q6 p) (F := zNY g) ho v.wf v.nodup (zB1 hs0 hs1 hx) (by rw [hf]; exact .list _) (by rw [hf]; simpa using fun e => by simp [e] at hoq) ?_
 rw [hf]
 have : (q6 p).map (fun k => if k = ⟨c.street, x⟩ then AV.list (hl.map House.enc) else zNY g k) = y6 p (zNo p c g x) := by
  refine List.map_congr_left (fun k _ => ?_)
  unfold zNY zNo
  rw [zCR, e]
  split <;> rfl
 rw [this]
 exact hk
theorem zJr {p : zNU} {c : Change} {g : House → List House} {x : Plate} {o : Nat} {H : Nat → AObj} {K : Cont} (v : Valid p) (hs0 : 0 ≤ c.street) (hs1 : c.street < p.length) (hx : x ∈ z7 p c.street)
  (ho : H o = .mapo (y7 p) (y6 p g)) (e : toP p c x = [])
  (hk : K (.tup []) [o] [(o, .mapo (y7 p) (y6 p (zNo p c g x)))]) : j9 prog 117 (.mp o) (.agg [iV c.street, iV x.number, iV x.letter]) zNs H K := by
 have hf : zNW H 3 zNs = (.list [], []) := rfl
 refine zDf (h := ⟨c.street, x⟩) (hs := q6 p) (F := zNY g) ho v.wf v.nodup (zB1 hs0 hs1 hx) (by rw [hf]; exact .list _) (by rw [hf]; rfl) ?_
 rw [hf]
 have : (q6 p).map (fun k => if k = ⟨c.street, x⟩ then AV.list [] else zNY g k) = y6 p (zNo p c g x) := by
  refine List.map_congr_left (fun k _ => ?_)
  unfold zNY zNo
  rw [zCR, e]
  split <;> rfl
 rw [this]
 exact hk
@[reducible] def zN8 (c : Change) : AObj := .box [iV c.kind, iV c.street, iV c.other, iV c.src.number, iV c.src.letter, iV c.dst.number, iV c.dst.letter]
@[reducible] def zNi (p : zNU) : AObj := .box [.list (p.map q9)]
attribute [go_sem] zN8 zNi y7 y6
structure Pre (p : zNU) (c : Change) : Prop where
 kind : 1 ≤ c.kind ∧ c.kind ≤ 7
 street : 0 ≤ c.street ∧ c.street < p.length
 other : c.kind = 4 ∨ c.kind = 7 → 0 ≤ c.other ∧ c.other < p.length ∧ c.other ≠ c.street
theorem Pre.fit {p : zNU} {c : Change} (h : Pre p c) (hf : y5 p c = 0) : Fit p c := ⟨h.kind, h.street, h.other, hf⟩
def zNe (p : zNU) (c : Change) : AObj := if y5 p c = 0 then .mapo (y7 p) (y6 p (mv p c)) else .dead
end Go.Abs

namespace Go.Abs
open Go Go.Proofs Tryz
attribute [local irreducible] q8 Hold y4
theorem zDF {p : zNU} (v : Valid p) : zNV prog 113 [y3 p] [] (.own 0 3 0 (q6 p).length) [.row 3 ((q6 p).map House.enc)] := zI8 p (by have := v.len; omega) (fun l hl => by have := (v.rows l hl).len; omega) (by have := v.count; omega)
theorem zHO {α : Type} [Inhabited α] {l : List α} (hn : l.Nodup) {i : Nat} (h : i < l.length) : l.getD i default ∉ l.take i := fun hm => by
 obtain ⟨j, hj, e⟩ := List.getElem_of_mem hm
 simp at hj e
 rw [List.getElem?_eq_getElem h] at e
 simp only [Option.getD_some] at e
 have := (Y1 hn).1 e
 omega
theorem b9 {α : Type} [Inhabited α] {l : List α} {i : Nat} (h : i < l.length) : l.take (i + 1) = l.take i ++ [l.getD i default] := by
 rw [List.take_add_one]; simp [List.getD, h]
theorem V5 (p : zNU) (v : Valid p) : zNV prog 108 [y3 p] [] (.mp 0) [.mapo (y7 p) (y6 p fun h => [h])] := by
 have hn := v.nodup
 have hw := v.wf
 have hct := v.count
 refine z9 func108 rfl (fun E hE => ?_); simp only [go_sem, ntmps108]
 repeat' (first | (refine Qr rfl ?_; try intro _ hK; try simp only [go_sem, *]) | refine Qh rfl ?_ | (refine Qc rfl rfl ?_ ?_ <;> (intro hb; have hc := hb; try simp only [go_sem] at hc)) | refine z6 rfl ?_ | ((with_reducible apply And.intro); focus omega) | (refine z5 hK ?_; clear hK; simp only [go_sem, *]) | simp only [z3, z4, go_sem, *])
 refine x8 [] [] (zDF v) (by simp) (by simp only [go_sem]) trivial (by simp) (.inl rfl) (by simp [go_sem]) (by simp) ?_
 simp only [go_sem, *]
 repeat' (first | (refine Qr rfl ?_; try intro _ hK; try simp only [go_sem, *]) | refine Qh rfl ?_ | (refine Qc rfl rfl ?_ ?_ <;> (intro hb; have hc := hb; try simp only [go_sem] at hc)) | refine z6 rfl ?_ | ((with_reducible apply And.intro); focus omega) | (refine z5 hK ?_; clear hK; simp only [go_sem, *]) | simp only [z3, z4, go_sem, *])
 refine v5 rfl ((q6 p).length) (fun i => NoP i) 20 (fun i => [(10, iV i), (9, iV (q6 p).length), (8, .own 0 3 0 (q6 p).length), (3, .mp 1)]) (fun i => [.row 3 ((q6 p).map House.enc), .mapo (((q6 p).take i).map House.key) (((q6 p).take i).map (zNY fun h => [h]))]) [some 2, some 1] [] (by trivial) ?_; intro i hi hP
 repeat' (first | (refine Qr rfl ?_; try intro _ hK; try simp only [go_sem, *]) | refine Qh rfl ?_ | (refine Qc rfl rfl ?_ ?_ <;> (intro hb; have hc := hb; try simp only [go_sem] at hc)) | refine z6 rfl ?_ | ((with_reducible apply And.intro); focus omega) | (refine z5 hK ?_; clear hK; simp only [go_sem, *]) | simp only [z3, z4, go_sem, *])
 ·refine zCS (h := (q6 p).getD i default) (hs := (q6 p).take i) (xs := ((q6 p).take i).map (zNY fun h => [h])) (by simp only [go_sem, *]) (fun k hk => hw k (List.mem_of_mem_take hk)) (hw _ (w5 (by assumption))) (zHO hn (by assumption)) (by simp only [go_sem, *]) (by simp only [go_sem, *]) ?_
  simp only [go_sem, *]
  repeat' (first | (refine Qr rfl ?_; try intro _ hK; try simp only [go_sem, *]) | refine Qh rfl ?_ | (refine Qc rfl rfl ?_ ?_ <;> (intro hb; have hc := hb; try simp only [go_sem] at hc)) | refine z6 rfl ?_ | ((with_reducible apply And.intro); focus omega) | (refine z5 hK ?_; clear hK; simp only [go_sem, *]) | simp only [z3, z4, go_sem, *])
  have e := b9 (l := q6 p) (i := i) (by assumption)
  have hM : zNY (fun h => [h]) ((q6 p).getD i default) = .list [((q6 p).getD i default).enc] := rfl
  exact v4 (i' := i + 1) [some 0, some 1] [] (by trivial)
 ·refine ⟨[_], [some 1], [], ⟨rfl, trivial⟩, ?_⟩
  have e : (q6 p).take i = q6 p := List.take_of_length_le (by omega)
  simp only [go_sem, *]
theorem zJQ (p : zNU) (c : Change) (v : Valid p) (f : Fit p c) (k : c.kind = 2) : zNV prog 125 [y3 p, c.enc, .mp 0] [.mapo (y7 p) (y6 p fun h => [h])] (iV 0) [.mapo (y7 p) (y6 p (mv p c))] := by
  have hs : c.street.toNat < p.length := by have := f.street; omega
  have hs0 := f.street.1
  have hs1 := f.street.2
  have hr := v.row c.street
  have hl8 := hr.len
  refine z9 func125 rfl (fun E hE => ?_); simp only [go_sem, ntmps125]
  repeat' (first | (refine Qr rfl ?_; try intro _ hK; try simp only [go_sem, *]) | refine Qh rfl ?_ | refine Qd rfl (by kernel_rfl) ?_ | (refine Qc rfl rfl ?_ ?_ <;> (intro hb; have hc := hb; try simp only [go_sem] at hc)) | refine z6 rfl ?_ | (refine Qb ?_ ?_; focus kernel_rfl) | ((with_reducible apply And.intro); focus omega) | (refine z5 hK ?_; clear hK; simp only [go_sem, *]) | simp only [z3, z4, go_sem, *])
  refine v9 rfl ((z7 p c.street).length) (fun i (g : House → List House) => Upd p c g ((z7 p c.street).take i)) 42 (fun i g => [(17, iV i), (16, iV (z7 p c.street).length), (15, q9 (z7 p c.street)), (4, .ptr 2 0), (3, .ptr 1 0), (2, .mp 0)]) (fun i g => [.mapo (y7 p) (y6 p g), zNi p, zN8 c]) [some 0, some 1, some 2] [] (fun h => [h]) (by exact Upd.nil _ _) ?_; intro i g hi hP
  have hx : i < (z7 p c.street).length → 1 ≤ ((z7 p c.street).getD i default).number ∧ ((z7 p c.street).getD i default).number ≤ 40 := fun h => ((p9 _).1 (hr.ok _ (w5 h))).1
  have hw1 : i < (z7 p c.street).length → IntKind.i64.wrap (((z7 p c.street).getD i default).number - 1) = ((z7 p c.street).getD i default).number - 1 := fun h => by have := hx h; exact wrap_i64 (by omega) (by omega)
  have hw2 : i < (z7 p c.street).length → IntKind.i64.wrap (((z7 p c.street).getD i default).number + 1) = ((z7 p c.street).getD i default).number + 1 := fun h => by have := hx h; exact wrap_i64 (by omega) (by omega)
  repeat' (first | (refine Qr rfl ?_; try intro _ hK; try simp only [go_sem, *]) | refine Qh rfl ?_ | refine Qd rfl (by kernel_rfl) ?_ | (refine Qc rfl rfl ?_ ?_ <;> (intro hb; have hc := hb; try simp only [go_sem] at hc)) | refine z6 rfl ?_ | (refine Qb ?_ ?_; focus kernel_rfl) | ((first | refine z8 (zAw _) ?_ | refine z8 (J0 _ _ _) ?_); simp only [go_sem, *]) | ((with_reducible apply And.intro); focus omega) | (refine z5 hK ?_; clear hK; simp only [go_sem, *]) | simp only [z3, z4, go_sem, *])
  · have ho : zNb ((z7 p c.street).getD i default) = true := by
      have := hx (by assumption)
      rw [W8]
      have hc2 : ¬ ((z7 p c.street).getD i default).number.tmod 2 = 0 := by assumption
      rw [J5 (by omega)] at hc2; omega
    refine S3 [⟨c.street, ⟨((z7 p c.street).getD i default).number + 1, ((z7 p c.street).getD i default).letter⟩⟩] (g := g) (x := (z7 p c.street).getD i default) v hs0 hs1 (w5 (by assumption)) (by simp only [go_sem, *]) (by simp only [go_sem, *]) rfl rfl (by rw [S2 k, if_pos ho]) ?_
    simp only [go_sem, *]
    repeat' (first | (refine Qr rfl ?_; try intro _ hK; try simp only [go_sem, *]) | refine Qh rfl ?_ | refine Qd rfl (by kernel_rfl) ?_ | (refine Qc rfl rfl ?_ ?_ <;> (intro hb; have hc := hb; try simp only [go_sem] at hc)) | refine z6 rfl ?_ | (refine Qb ?_ ?_; focus kernel_rfl) | ((with_reducible apply And.intro); focus omega) | (refine z5 hK ?_; clear hK; simp only [go_sem, *]) | simp only [z3, z4, go_sem, *])
    have e := b9 (l := z7 p c.street) (i := i) (by assumption)
    exact x9 (i' := i + 1) [some 0, some 1, some 2] [] (zNo p c g ((z7 p c.street).getD i default)) (by rw [e]; exact hP.one _)
  · have ho : ¬ zNb ((z7 p c.street).getD i default) = true := by
      have := hx (by assumption)
      rw [W8]
      have hc2 : ((z7 p c.street).getD i default).number.tmod 2 = 0 := by assumption
      rw [J5 (by omega)] at hc2; omega
    refine S3 [⟨c.street, ⟨((z7 p c.street).getD i default).number - 1, ((z7 p c.street).getD i default).letter⟩⟩] (g := g) (x := (z7 p c.street).getD i default) v hs0 hs1 (w5 (by assumption)) (by simp only [go_sem, *]) (by simp only [go_sem, *]) rfl rfl (by rw [S2 k, if_neg ho]) ?_
    simp only [go_sem, *]
    repeat' (first | (refine Qr rfl ?_; try intro _ hK; try simp only [go_sem, *]) | refine Qh rfl ?_ | refine Qd rfl (by kernel_rfl) ?_ | (refine Qc rfl rfl ?_ ?_ <;> (intro hb; have hc := hb; try simp only [go_sem] at hc)) | refine z6 rfl ?_ | (refine Qb ?_ ?_; focus kernel_rfl) | ((with_reducible apply And.intro); focus omega) | (refine z5 hK ?_; clear hK; simp only [go_sem, *]) | simp only [z3, z4, go_sem, *])
    have e := b9 (l := z7 p c.street) (i := i) (by assumption)
    exact x9 (i' := i + 1) [some 0, some 1, some 2] [] (zNo p c g ((z7 p c.street).getD i default)) (by rw [e]; exact hP.one _)
  · rw [List.take_of_length_le (by omega)] at hP
    have e := hP.fin (fun x hx hn => absurd hx hn)
    simp only [y6] at e
    refine ⟨[_], [some 0], [], ⟨rfl, trivial⟩, ?_⟩
    simp only [go_sem, *]
end Go.Abs

namespace Go.Abs
open Go Go.Proofs Tryz
attribute [local irreducible] q8 Hold y4
def prB (i : Nat) (x : Plate) : Bool := if i = 0 then x.number.tmod 2 != 0 else x.number.tmod 2 == 0
def v6 (l : List Plate) (i : Nat) : List Plate := l.filter (prB i)
theorem zHr {l : List Plate} (h : Sound l) {i : Nat} {x y : Plate} (hy : y ∈ v6 l i) (hx : x ∈ l) : prB i x = (zNb x == zNb y) := by
 obtain ⟨hy1, hy2⟩ := List.mem_filter.1 hy
 have ox := (p9 x).1 (h.ok x hx)
 have oy := (p9 y).1 (h.ok y hy1)
 rw [Bool.eq_iff_iff, F0]
 unfold prB at *
 rw [J5 (by omega)] at *
 split at hy2 <;> simp_all <;> omega
theorem zBy {l : List Plate} (h : Sound l) {i : Nat} {y : Plate} (hy : y ∈ v6 l i) : l.filter (fun z => zNb z == zNb y) = v6 l i :=
 List.filter_congr (fun x hx => (zHr h hy hx).symm)
theorem zGE {l : List Plate} (h : Sound l) {i : Nat} (hi : i < 2) {y : Plate} (hy : y ∈ v6 l i) : y.number % 2 = 1 - i := by
 obtain ⟨hy1, hy2⟩ := List.mem_filter.1 hy
 have oy := (p9 y).1 (h.ok y hy1)
 unfold prB at hy2
 rw [J5 (by omega)] at hy2
 have : i = 0 ∨ i = 1 := by omega
 rcases this with rfl | rfl <;> simp at hy2 <;> omega
theorem zBw {l : List Plate} {x : Plate} (hx : x ∈ l) : x ∈ v6 l 0 ∨ x ∈ v6 l 1 := by
 by_cases h : x.number.tmod 2 = 0
 ·right; exact List.mem_filter.2 ⟨hx, by simp [prB, h]⟩
 ·left; exact List.mem_filter.2 ⟨hx, by simp [prB, h]⟩
theorem zBz {l : List Plate} {i : Nat} {y : Plate} (hy : y ∈ v6 l i) : y ∈ l := (List.mem_filter.1 hy).1
theorem zBx {l : List Plate} (h : Sound l) {i j : Nat} (hj : j < (v6 l i).length) : (v6 l i).idxOf ((v6 l i).getD j default) = j := by
 have hn : (v6 l i).Nodup := h.nodup.filter _
 have hm := w5 hj
 have h1 := T0 hm
 have h2 : (v6 l i)[j] = (v6 l i).getD j default := by simp [List.getD, hj]
 exact (Y1 hn).1 (h1.trans h2.symm)
theorem zJW (p : zNU) (c : Change) (v : Valid p) (f : Fit p c) (k : c.kind = 1) : zNV prog 124 [y3 p, c.enc, .mp 0] [.mapo (y7 p) (y6 p fun h => [h])] (iV 0) [.mapo (y7 p) (y6 p (mv p c))] := by
 have hs : c.street.toNat < p.length := by have := f.street; omega
 have hs0 := f.street.1
 have hs1 := f.street.2
 have hr := v.row c.street
 have hl8 := hr.len
 have hbl : ∀ i, (v6 (z7 p c.street) i).length ≤ 8 := fun i => Nat.le_trans (List.length_filter_le _ _) hl8
 have hb0 := hbl 0
 have hb1 := hbl 1
 have spo : zNV prog 153 [q9 (z7 p c.street), fnV 154] [] (.own 0 2 0 (v6 (z7 p c.street) 0).length) [.row 2 ((v6 (z7 p c.street) 0).map Plate.enc)] :=
  E6 (by kernel_rfl) (fun x => by simpa [prB] using zAw x) (z7 p c.street) (by omega)
 have spe : zNV prog 153 [q9 (z7 p c.street), fnV 155] [] (.own 0 2 0 (v6 (z7 p c.street) 1).length) [.row 2 ((v6 (z7 p c.street) 1).map Plate.enc)] :=
  E6 (by kernel_rfl) (fun x => by simpa [prB] using zDD x) (z7 p c.street) (by omega)
 obtain ⟨L, hL⟩ : ∃ L, L = [v6 (z7 p c.street) 0, v6 (z7 p c.street) 1] := ⟨_, rfl⟩
 have hLb : L.map q9 = [q9 (v6 (z7 p c.street) 0), q9 (v6 (z7 p c.street) 1)] := by rw [hL]; rfl
 have hLl : L.length = 2 := by rw [hL]; rfl
 have hLg : ∀ i, i < 2 → L.getD i default = v6 (z7 p c.street) i := fun i hi => by
  have : i = 0 ∨ i = 1 := by omega
  rcases this with rfl | rfl <;> rw [hL] <;> rfl
 have hcov : ∀ x, x ∈ z7 p c.street → x ∈ (L.map id).flatten := fun x hx => by
  rw [hL]
  rcases zBw hx with h | h <;> simp [h]
 clear hL
 refine z9 func124 rfl (fun E hE => ?_); simp only [go_sem, ntmps124]
 repeat' (first | (refine Qr rfl ?_; try intro _ hK; try simp only [go_sem, *]) | refine Qh rfl ?_ | refine Qd rfl (by kernel_rfl) ?_ | (refine Qc rfl rfl ?_ ?_ <;> (intro hb; have hc := hb; try simp only [go_sem] at hc)) | refine z6 rfl ?_ | (refine Qb ?_ ?_; focus kernel_rfl) | (refine u3 (spo) ?_; simp only [go_sem, *]) | (refine u3 (spe) ?_; simp only [go_sem, *]) | ((with_reducible apply And.intro); focus omega) | (refine z5 hK ?_; clear hK; simp only [go_sem, *]) | simp only [z3, z4, go_sem, *])
 refine v9 rfl (2) (fun i (g : House → List House) => Upd p c g (((L.take i).map id).flatten)) 57 (fun i g => [(27, iV i), (26, iV 2), (25, .own 3 1 0 2), (4, .ptr 2 0), (3, .ptr 1 0), (2, .mp 0)]) (fun i g => [.mapo (y7 p) (y6 p g), zNi p, zN8 c, .box (L.map q9)]) [some 0, some 1, some 2, some 5] [3, 4] (fun h => [h]) (by exact Upd.nil _ _) ?_; intro i g hi hP
 clear hLb
 repeat' (first | (refine Qr rfl ?_; try intro _ hK; try simp only [go_sem, *]) | refine Qh rfl ?_ | refine Qd rfl (by kernel_rfl) ?_ | (refine Qc rfl rfl ?_ ?_ <;> (intro hb; have hc := hb; try simp only [go_sem] at hc)) | refine z6 rfl ?_ | (refine Qb ?_ ?_; focus kernel_rfl) | ((with_reducible apply And.intro); focus omega) | (refine z5 hK ?_; clear hK; simp only [go_sem, *]) | simp only [z3, z4, go_sem, *])
 ·have hi2 : i < 2 := by omega
  have hlb := hbl i
  generalize hl : v6 (z7 p c.street) i = l at *
  refine v9 rfl (l.length) (fun j (g : House → List House) => Upd p c g (((L.take i).map id).flatten ++ l.take j)) 57 (fun j g => [(33, iV j), (32, iV l.length), (31, q9 l), (8, q9 l), (27, iV i), (26, iV 2), (25, .own 3 1 0 2), (4, .ptr 2 0), (3, .ptr 1 0), (2, .mp 0)]) (fun j g => [.mapo (y7 p) (y6 p g), zNi p, zN8 c, .box (L.map q9)]) [some 0, some 1, some 2, some 3] [] (g) (by simpa using hP) ?_; intro j g hj hQ
  have hw1 : j < l.length → IntKind.i64.wrap ((l.length : Int) - 1) = ((l.length - 1 : Nat) : Int) := fun h => by rw [wrap_i64 (by omega) (by omega)]; omega
  have hw2 : j < l.length → IntKind.i64.wrap (((l.length - 1 : Nat) : Int) - (j : Int)) = ((l.length - 1 - j : Nat) : Int) := fun h => by rw [wrap_i64 (by omega) (by omega)]; omega
  have hw3 : j < l.length → l.length - 1 - j < l.length := fun h => by omega
  repeat' (first | (refine Qr rfl ?_; try intro _ hK; try simp only [go_sem, *]) | refine Qh rfl ?_ | refine Qd rfl (by kernel_rfl) ?_ | (refine Qc rfl rfl ?_ ?_ <;> (intro hb; have hc := hb; try simp only [go_sem] at hc)) | refine z6 rfl ?_ | (refine Qb ?_ ?_; focus kernel_rfl) | ((with_reducible apply And.intro); focus omega) | (refine z5 hK ?_; clear hK; simp only [go_sem, *]) | simp only [z3, z4, go_sem, *])
  ·have hmj : l.getD j default ∈ l := w5 (by assumption)
   have hown := zBy hr (i := i) (y := l.getD j default) (by rw [hl]; exact hmj)
   have hjx : l.idxOf (l.getD j default) = j := by have := zBx hr (i := i) (j := j) (by rw [hl]; assumption); rwa [hl] at this
   refine S3 [⟨c.street, l.getD (l.length - 1 - j) default⟩] (g := g) (x := l.getD j default) v hs0 hs1 (zBz (i := i) (by rw [hl]; exact hmj)) (by simp only [go_sem, *]) (by simp only [go_sem, *]) rfl rfl (by rw [N2 k, hown, hl, hjx]) ?_
   simp only [go_sem, *]
   repeat' (first | (refine Qr rfl ?_; try intro _ hK; try simp only [go_sem, *]) | refine Qh rfl ?_ | refine Qd rfl (by kernel_rfl) ?_ | (refine Qc rfl rfl ?_ ?_ <;> (intro hb; have hc := hb; try simp only [go_sem] at hc)) | refine z6 rfl ?_ | (refine Qb ?_ ?_; focus kernel_rfl) | ((with_reducible apply And.intro); focus omega) | (refine z5 hK ?_; clear hK; simp only [go_sem, *]) | simp only [z3, z4, go_sem, *])
   have e := b9 (l := l) (i := j) (by assumption)
   exact x9 (i' := j + 1) [some 0, some 1, some 2, some 3] [] (zNo p c g (l.getD j default)) (by rw [e, ← List.append_assoc]; exact hQ.one _)
  ·have e2 : l.take j = l := List.take_of_length_le (by omega)
   rw [e2] at hQ
   have e := b9 (l := L) (i := i) (by omega)
   rw [hLg i hi2, hl] at e
   exact x9 (i' := i + 1) [some 0, some 1, some 2, some 3] [] (g) (by rw [e]; simpa using hQ)
 ·rw [List.take_of_length_le (by omega)] at hP
  have e := hP.fin (fun x hx hn => absurd (hcov x hx) hn)
  simp only [y6] at e
  refine ⟨[_], [some 0], [], ⟨rfl, trivial⟩, ?_⟩
  simp only [go_sem, *]
end Go.Abs

namespace Go.Abs
open Go Go.Proofs Tryz
attribute [local irreducible] q8 Hold y4
theorem zI0 (p : zNU) (c : Change) (v : Valid p) (f : Fit p c) (k : c.kind = 3) : zNV prog 126 [y3 p, c.enc, .mp 0] [.mapo (y7 p) (y6 p fun h => [h])] (iV 0) [.mapo (y7 p) (y6 p (mv p c))] := by
 have hs : c.street.toNat < p.length := by have := f.street; omega
 have hs0 := f.street.1
 have hs1 := f.street.2
 have hr := v.row c.street
 have hl8 := hr.len
 have hbl : ∀ i, (v6 (z7 p c.street) i).length ≤ 8 := fun i => Nat.le_trans (List.length_filter_le _ _) hl8
 obtain ⟨Fs, hFs⟩ : ∃ Fs : List Nat, Fs = [154, 155] := ⟨_, rfl⟩
 have hFb : Fs.map fnV = [fnV 154, fnV 155] := by rw [hFs]; rfl
 have hFl : Fs.length = 2 := by rw [hFs]; rfl
 have hsp : ∀ i, i < 2 → zNV prog 153 [q9 (z7 p c.street), fnV (Fs.getD i default)] [] (.own 0 2 0 (v6 (z7 p c.street) i).length) [.row 2 ((v6 (z7 p c.street) i).map Plate.enc)] := fun i hi => by
  have : i = 0 ∨ i = 1 := by omega
  rcases this with rfl | rfl <;> rw [hFs]
  ·exact E6 (by kernel_rfl) (fun x => by simpa [prB] using zAw x) (z7 p c.street) (by omega)
  ·exact E6 (by kernel_rfl) (fun x => by simpa [prB] using zDD x) (z7 p c.street) (by omega)
 clear hFs
 refine z9 func126 rfl (fun E hE => ?_); simp only [go_sem, ntmps126]
 repeat' (first | (refine Qr rfl ?_; try intro _ hK; try simp only [go_sem, *]) | refine Qh rfl ?_ | refine Qd rfl (by kernel_rfl) ?_ | (refine Qc rfl rfl ?_ ?_ <;> (intro hb; have hc := hb; try simp only [go_sem] at hc)) | refine z6 rfl ?_ | (refine Qb ?_ ?_; focus kernel_rfl) | ((with_reducible apply And.intro); focus omega) | (refine z5 hK ?_; clear hK; simp only [go_sem, *]) | simp only [z3, z4, go_sem, *])
 refine v9 rfl (2) (fun i (g : House → List House) => Upd p c g (((List.range i).map (v6 (z7 p c.street))).flatten)) 48 (fun i g => [(13, iV i), (12, iV 2), (11, .own 3 1 0 2), (4, .ptr 2 0), (3, .ptr 1 0), (2, .mp 0)]) (fun i g => [.mapo (y7 p) (y6 p g), zNi p, zN8 c, .row 1 (Fs.map fnV)]) [some 0, some 1, some 2, some 3] [] (fun h => [h]) (by exact Upd.nil _ _) ?_; intro i g hi hP
 clear hFb
 repeat' (first | (refine Qr rfl ?_; try intro _ hK; try simp only [go_sem, *]) | refine Qh rfl ?_ | refine Qd rfl (by kernel_rfl) ?_ | (refine Qc rfl rfl ?_ ?_ <;> (intro hb; have hc := hb; try simp only [go_sem] at hc)) | refine z6 rfl ?_ | (refine Qb ?_ ?_; focus kernel_rfl) | (refine u3 (hsp i (by omega)) ?_; simp only [go_sem, *]) | ((with_reducible apply And.intro); focus omega) | (refine z5 hK ?_; clear hK; simp only [go_sem, *]) | simp only [z3, z4, go_sem, *])
 ·have hi2 : i < 2 := by omega
  have hlb := hbl i
  generalize hl : v6 (z7 p c.street) i = l at *
  refine v9 rfl (l.length) (fun j (g : House → List House) => Upd p c g (((List.range i).map (v6 (z7 p c.street))).flatten ++ l.take j)) 48 (fun j g => [(27, iV j), (26, iV l.length), (25, .own 4 2 0 l.length), (7, iV i), (13, iV i), (12, iV 2), (11, .own 3 1 0 2), (4, .ptr 2 0), (3, .ptr 1 0), (2, .mp 0)]) (fun j g => [.mapo (y7 p) (y6 p g), zNi p, zN8 c, .row 1 (Fs.map fnV), .row 2 (l.map Plate.enc)]) [some 0, some 1, some 2, some 3, some 4] [] (g) (by simpa using hP) ?_; intro j g hj hQ
  have hw1 : j < l.length → IntKind.i64.wrap (2 * (j : Int)) = 2 * (j : Int) := fun h => wrap_i64 (by omega) (by omega)
  have hw2 : j < l.length → IntKind.i64.wrap (2 * (j : Int) + 1) = 2 * (j : Int) + 1 := fun h => wrap_i64 (by omega) (by omega)
  have hw3 : j < l.length → IntKind.i64.wrap (2 * (j : Int) + 1 + (i : Int)) = 2 * (j : Int) + 1 + (i : Int) := fun h => wrap_i64 (by omega) (by omega)
  repeat' (first | (refine Qr rfl ?_; try intro _ hK; try simp only [go_sem, *]) | refine Qh rfl ?_ | refine Qd rfl (by kernel_rfl) ?_ | (refine Qc rfl rfl ?_ ?_ <;> (intro hb; have hc := hb; try simp only [go_sem] at hc)) | refine z6 rfl ?_ | (refine Qb ?_ ?_; focus kernel_rfl) | (refine z8 (J0 _ _ _) ?_; simp only [go_sem, *]) | ((with_reducible apply And.intro); focus omega) | (refine z5 hK ?_; clear hK; simp only [go_sem, *]) | simp only [z3, z4, go_sem, *])
  ·have hmj : l.getD j default ∈ l := w5 (by assumption)
   have hown := zBy hr (i := i) (y := l.getD j default) (by rw [hl]; exact hmj)
   have hjx : l.idxOf (l.getD j default) = j := by have := zBx hr (i := i) (j := j) (by rw [hl]; assumption); rwa [hl] at this
   have hpar := zGE hr hi2 (y := l.getD j default) (by rw [hl]; exact hmj)
   refine S3 [⟨c.street, ⟨2 * (j : Int) + 1 + (i : Int), 0⟩⟩] (g := g) (x := l.getD j default) v hs0 hs1 (zBz (i := i) (by rw [hl]; exact hmj)) (by simp only [go_sem, *]) (by simp only [go_sem, *]) rfl rfl (by rw [N1 k, hown, hl, hjx, hpar]; congr 3; omega) ?_
   simp only [go_sem, *]
   repeat' (first | (refine Qr rfl ?_; try intro _ hK; try simp only [go_sem, *]) | refine Qh rfl ?_ | refine Qd rfl (by kernel_rfl) ?_ | (refine Qc rfl rfl ?_ ?_ <;> (intro hb; have hc := hb; try simp only [go_sem] at hc)) | refine z6 rfl ?_ | (refine Qb ?_ ?_; focus kernel_rfl) | ((with_reducible apply And.intro); focus omega) | (refine z5 hK ?_; clear hK; simp only [go_sem, *]) | simp only [z3, z4, go_sem, *])
   have e := b9 (l := l) (i := j) (by assumption)
   exact x9 (i' := j + 1) [some 0, some 1, some 2, some 3, some 4] [] (zNo p c g (l.getD j default)) (by rw [e, ← List.append_assoc]; exact hQ.one _)
  ·have e2 : l.take j = l := List.take_of_length_le (by omega)
   rw [e2] at hQ
   exact x9 (i' := i + 1) [some 0, some 1, some 2, some 3] [] (g) (by rw [List.range_succ]; simpa [hl] using hQ)
 ·have hi2 : i = 2 := by omega
  subst hi2
  have e := hP.fin (fun x hx hn => absurd (by rcases zBw hx with h | h <;> simp [List.range_succ, h]) hn)
  simp only [y6] at e
  refine ⟨[_], [some 0], [], ⟨rfl, trivial⟩, ?_⟩
  simp only [go_sem, *]
end Go.Abs

namespace Go.Abs
open Go Go.Proofs Tryz
attribute [local irreducible] q8 Hold y4
theorem A3 (m : Int) : ∀ (l : List Plate) (n : Int), n ≤ m → (∀ x, x ∈ l → x.number ≤ m) → l.foldl (fun n x => max n x.number) n ≤ m
 | [], n, h, _ => h
 | x :: r, n, h, hx => by
  rw [List.foldl_cons]
  have := hx x (by simp)
  exact A3 m r _ (by omega) (fun y hy => hx y (by simp [hy]))
theorem zBm : ∀ (l : List Plate) (n : Int), n ≤ l.foldl (fun n x => max n x.number) n ∧ ∀ x, x ∈ l → x.number ≤ l.foldl (fun n x => max n x.number) n
  | [], n => by simp
  | y :: r, n => by
    obtain ⟨h1, h2⟩ := zBm r (max n y.number)
    rw [List.foldl_cons]
    exact ⟨by omega, fun x hx => by rcases List.mem_cons.1 hx with rfl | hx; · omega
                                    · exact h2 x hx⟩
theorem zES {l : List Plate} (h : Sound l) (h0 : 0 < l.length) : base l = (l.getD (l.length - 1) default).number + (l.getD (l.length - 1) default).number.tmod 2 := by
 have hm : l.getD (l.length - 1) default ∈ l := w5 (by omega)
 have hle : ∀ x, x ∈ l → x.number ≤ (l.getD (l.length - 1) default).number := fun x hx => by
  obtain ⟨i, hi, rfl⟩ := List.getElem_of_mem hx
  have hg : l.getD (l.length - 1) default = l[l.length - 1] := by simp [List.getD, show l.length - 1 < l.length by omega]
  rw [hg]
  by_cases e : i = l.length - 1
  ·subst e; omega
  ·have := (List.pairwise_iff_getElem.1 h.sorted) i (l.length - 1) hi (by omega) (by omega)
   rw [Plate.lt_iff] at this; omega
 have ho := (p9 _).1 (h.ok _ hm)
 have h1 := A3 _ l 0 (by omega) hle
 have h2 := (zBm l 0).2 _ hm
 unfold base
 rw [J5 (by omega)]
 simp only
 omega
theorem zET {l : List Plate} (h : Sound l) : 0 ≤ base l ∧ base l ≤ 41 := by
 have h1 := A3 40 l 0 (by omega) (fun x hx => ((p9 x).1 (h.ok x hx)).1.2)
 have h2 := zBM l
 unfold base at *
 simp only at *
 omega
theorem A0 {p : zNU} {c : Change} (h : c.kind = 4) : y5 p c = if 8 < (z7 p c.street).length + (z7 p c.other).length then 6 else if (z7 p c.street).any (fun x => decide (40 < x.number + base (z7 p c.other))) = true then 1 else 0 := by
 unfold y5; rw [if_pos h]
@[go_sem] theorem zMD (n : Nat) : ((8 : Int) < (n : Int)) = (8 < n) := by simp; omega
def JoinP (p : zNU) (c : Change) (g : House → List House) (i : Nat) : Prop := Upd p c g ((z7 p c.street).take i) ∧ ∀ x, x ∈ (z7 p c.street).take i → x.number + base (z7 p c.other) ≤ 40
theorem JoinP.next {p : zNU} {c : Change} {g : House → List House} {i : Nat} (h : JoinP p c g i) (hi : i < (z7 p c.street).length) (hx : ((z7 p c.street).getD i default).number + base (z7 p c.other) ≤ 40) : JoinP p c (zNo p c g ((z7 p c.street).getD i default)) (i + 1) := by
 have e := b9 (l := z7 p c.street) (i := i) hi
 refine ⟨by rw [e]; exact h.1.one _, fun x hm => ?_⟩
 rw [e] at hm
 rcases List.mem_append.1 hm with hm | hm
 ·exact h.2 x hm
 ·simp only [List.mem_cons, List.not_mem_nil, or_false] at hm; subst hm; exact hx
theorem zJC (p : zNU) (c : Change) (v : Valid p) (f : Pre p c) (k : c.kind = 4) : zNV prog 127 [y3 p, c.enc, .mp 0] [.mapo (y7 p) (y6 p fun h => [h])] (iV (y5 p c)) [zNe p c] := by
  have hs0 := f.street.1
  have hs1 := f.street.2
  obtain ⟨ht0, ht1, _⟩ := f.other (.inl k)
  have hs : c.street.toNat < p.length := by omega
  have ht : c.other.toNat < p.length := by omega
  have hr := v.row c.street
  have hro := v.row c.other
  have hl8 := hr.len
  have ho8 := hro.len
  have hbb := zET hro
  have hwl : IntKind.i64.wrap (((z7 p c.street).length : Int) + ((z7 p c.other).length : Int)) = (((z7 p c.street).length + (z7 p c.other).length : Nat) : Int) := by rw [wrap_i64 (by omega) (by omega)]; omega
  have hwn : 0 < (z7 p c.other).length → IntKind.i64.wrap (((z7 p c.other).length : Int) - 1) = (((z7 p c.other).length - 1 : Nat) : Int) := fun h => by rw [wrap_i64 (by omega) (by omega)]; omega
  have hlt : 0 < (z7 p c.other).length → (z7 p c.other).length - 1 < (z7 p c.other).length := fun h => by omega
  have hwb : 0 < (z7 p c.other).length → IntKind.i64.wrap (((z7 p c.other).getD ((z7 p c.other).length - 1) default).number + ((z7 p c.other).getD ((z7 p c.other).length - 1) default).number.tmod 2) = base (z7 p c.other) := fun h => by
    have e := zES hro h
    rw [← e, wrap_i64 (by omega) (by omega)]
  have hb0 : (z7 p c.other).length ≤ 0 → base (z7 p c.other) = 0 := fun h => by rw [List.eq_nil_of_length_eq_zero (by omega : (z7 p c.other).length = 0)]; rfl
  refine z9 func127 rfl (fun E hE => ?_); simp only [go_sem, ntmps127]
  repeat' (first | (refine Qr rfl ?_; try intro _ hK; try simp only [go_sem, *]) | refine Qh rfl ?_ | refine Qd rfl (by kernel_rfl) ?_ | (refine Qc rfl rfl ?_ ?_ <;> (intro hb; have hc := hb; try simp only [go_sem] at hc)) | refine z6 rfl ?_ | (refine Qb ?_ ?_; focus kernel_rfl) | ((with_reducible apply And.intro); focus omega) | (refine z5 hK ?_; clear hK; simp only [go_sem, *]) | simp only [z3, z4, go_sem, *])
  · have e : y5 p c = 6 := by rw [A0 k, if_pos (by omega)]
    have e2 : zNe p c = .dead := by simp [zNe, e]
    refine ⟨[_], [some 0], [], ⟨rfl, trivial⟩, ?_⟩
    simp only [go_sem, e, e2]
  all_goals
    have hnb : ¬ 8 < (z7 p c.street).length + (z7 p c.other).length := by omega
    refine v9 rfl ((z7 p c.street).length) (fun i (g : House → List House) => JoinP p c g i) 76 (fun i g => [(51, iV i), (50, iV (z7 p c.street).length), (49, q9 (z7 p c.street)), (9, iV (base (z7 p c.other))), (4, .ptr 2 0), (3, .ptr 1 0), (2, .mp 0)]) (fun i g => [.mapo (y7 p) (y6 p g), zNi p, zN8 c]) [some 0, some 1, some 2] [] (fun h => [h]) (by exact ⟨Upd.nil _ _, by simp⟩) ?_; intro i g hi hP
    clear hb0 hwb hlt hwn hwl
    have hx : i < (z7 p c.street).length → 1 ≤ ((z7 p c.street).getD i default).number ∧ ((z7 p c.street).getD i default).number ≤ 40 := fun h => ((p9 _).1 (hr.ok _ (w5 h))).1
    have hw1 : i < (z7 p c.street).length → IntKind.i64.wrap (((z7 p c.street).getD i default).number + base (z7 p c.other)) = ((z7 p c.street).getD i default).number + base (z7 p c.other) := fun h => by have := hx h; exact wrap_i64 (by omega) (by omega)
    repeat' (first | (refine Qr rfl ?_; try intro _ hK; try simp only [go_sem, *]) | refine Qh rfl ?_ | refine Qd rfl (by kernel_rfl) ?_ | (refine Qc rfl rfl ?_ ?_ <;> (intro hb; have hc := hb; try simp only [go_sem] at hc)) | refine z6 rfl ?_ | (refine Qb ?_ ?_; focus kernel_rfl) | (refine z8 (J0 _ _ _) ?_; simp only [go_sem, *]) | ((with_reducible apply And.intro); focus omega) | (refine z5 hK ?_; clear hK; simp only [go_sem, *]) | simp only [z3, z4, go_sem, *])
    · have e : y5 p c = 1 := by
        rw [A0 k, if_neg hnb, if_pos]
        rw [List.any_eq_true]
        exact ⟨_, w5 (by assumption), by simpa using (by assumption : (40 : Int) < ((z7 p c.street).getD i default).number + base (z7 p c.other))⟩
      have e2 : zNe p c = .dead := by simp [zNe, e]
      refine ⟨[_], [some 0], [], ⟨rfl, trivial⟩, ?_⟩
      simp only [go_sem, e, e2]
    · refine S3 [⟨c.other, ⟨((z7 p c.street).getD i default).number + base (z7 p c.other), ((z7 p c.street).getD i default).letter⟩⟩] (g := g) (x := (z7 p c.street).getD i default) v hs0 hs1 (w5 (by assumption)) (by simp only [go_sem, *]) (by simp only [go_sem, *]) rfl rfl (by rw [S1 k]) ?_
      simp only [go_sem, *]
      repeat' (first | (refine Qr rfl ?_; try intro _ hK; try simp only [go_sem, *]) | refine Qh rfl ?_ | refine Qd rfl (by kernel_rfl) ?_ | (refine Qc rfl rfl ?_ ?_ <;> (intro hb; have hc := hb; try simp only [go_sem] at hc)) | refine z6 rfl ?_ | (refine Qb ?_ ?_; focus kernel_rfl) | ((with_reducible apply And.intro); focus omega) | (refine z5 hK ?_; clear hK; simp only [go_sem, *]) | simp only [z3, z4, go_sem, *])
      exact x9 (i' := i + 1) [some 0, some 1, some 2] [] (zNo p c g ((z7 p c.street).getD i default)) (by exact hP.next (by assumption) (by assumption))
    · unfold JoinP at hP
      rw [List.take_of_length_le (by omega)] at hP
      have e0 := hP.1.fin (fun x hx hn => absurd hx hn)
      have e : y5 p c = 0 := by
        rw [A0 k, if_neg hnb, if_neg]
        rw [List.any_eq_true]
        rintro ⟨x, hx, h⟩
        have := hP.2 x hx
        simp at h; omega
      have e2 : zNe p c = .mapo (y7 p) (y6 p g) := by rw [e0]; simp [zNe, e]
      refine ⟨[_], [some 0], [], ⟨rfl, trivial⟩, ?_⟩
      simp only [go_sem, e, e2]
end Go.Abs

namespace Go.Abs
open Go Go.Proofs Tryz
attribute [local irreducible] q8 Hold y4
@[go_sem] theorem zK6 {x : Plate} {l : List Plate} : (decide (x ∈ l) = false) = (x ∉ l) := by simp
theorem zI3 (p : zNU) (c : Change) (v : Valid p) (f : Pre p c) (k : c.kind = 6) : zNV prog 129 [y3 p, c.enc, .mp 0] [.mapo (y7 p) (y6 p fun h => [h])] (iV (y5 p c)) [zNe p c] := by
 have hs0 := f.street.1
 have hs1 := f.street.2
 have hs : c.street.toNat < p.length := by omega
 have hr := v.row c.street
 have hl8 := hr.len
 refine z9 func129 rfl (fun E hE => ?_); simp only [go_sem, ntmps129]
 repeat' (first | (refine Qr rfl ?_; try intro _ hK; try simp only [go_sem, *]) | refine Qh rfl ?_ | refine Qd rfl (by kernel_rfl) ?_ | (refine Qc rfl rfl ?_ ?_ <;> (intro hb; have hc := hb; try simp only [go_sem] at hc)) | refine z6 rfl ?_ | (refine Qb ?_ ?_; focus kernel_rfl) | (refine z8 (zAo (z7 p c.street) c.src (by omega)) ?_; simp only [go_sem, *]) | ((with_reducible apply And.intro); focus omega) | (refine z5 hK ?_; clear hK; simp only [go_sem, *]) | simp only [z3, z4, go_sem, *])
 ·have hm : c.src ∉ z7 p c.street := by assumption
  have e : y5 p c = 3 := by rw [zBe k, if_pos hm]
  have e2 : zNe p c = .dead := by simp [zNe, e]
  refine ⟨[_], [some 0], [], ⟨rfl, trivial⟩, ?_⟩
  simp only [go_sem, e, e2]
 ·have hm : c.src ∈ z7 p c.street := by assumption
  refine zJr (g := fun h => [h]) v hs0 hs1 hm (by simp only [go_sem]) (by rw [S0 k, if_pos rfl]) ?_
  simp only [go_sem, *]
  repeat' (first | (refine Qr rfl ?_; try intro _ hK; try simp only [go_sem, *]) | refine Qh rfl ?_ | refine Qd rfl (by kernel_rfl) ?_ | (refine Qc rfl rfl ?_ ?_ <;> (intro hb; have hc := hb; try simp only [go_sem] at hc)) | refine z6 rfl ?_ | (refine Qb ?_ ?_; focus kernel_rfl) | ((with_reducible apply And.intro); focus omega) | (refine z5 hK ?_; clear hK; simp only [go_sem, *]) | simp only [z3, z4, go_sem, *])
  have e : y5 p c = 0 := by rw [zBe k, if_neg (fun h => h hm)]
  have e0 := ((Upd.nil p c).one c.src).fin (fun x hx hn => by
   have : ¬ x = c.src := fun h => hn (by simp [h])
   rw [S0 k, if_neg this])
  have e2 : zNe p c = .mapo (y7 p) (y6 p (zNo p c (fun h => [h]) c.src)) := by rw [e0]; simp [zNe, e]
  refine ⟨[_], [some 0], [], ⟨rfl, trivial⟩, ?_⟩
  simp only [go_sem, e, e2]
theorem zGx {l : List Plate} {n : Int} (h : ∀ j : Nat, j < 4 → (⟨n, (j : Int) + 1⟩ : Plate) ∈ l) : letter l n = 0 := by
 have h0 := h 0; have h1 := h 1; have h2 := h 2; have h3 := h 3
 simp_all [letter]
@[go_sem] theorem zMC (n : Nat) : ((8 : Int) ≤ (n : Int)) = (8 ≤ n) := by simp; omega
theorem zI2 (p : zNU) (c : Change) (v : Valid p) (f : Pre p c) (k : c.kind = 5) : zNV prog 128 [y3 p, c.enc, .mp 0] [.mapo (y7 p) (y6 p fun h => [h])] (iV (y5 p c)) [zNe p c] := by
  have hs0 := f.street.1
  have hs1 := f.street.2
  have hs : c.street.toNat < p.length := by omega
  have hr := v.row c.street
  have hl8 := hr.len
  refine z9 func128 rfl (fun E hE => ?_); simp only [go_sem, ntmps128]
  repeat' (first | (refine Qr rfl ?_; try intro _ hK; try simp only [go_sem, *]) | (refine Qi rfl rfl rfl rfl ?_ ?_ <;> (intro hb; (try intro _ hK); have hc := hb; try simp only [go_sem] at hc; simp only [go_sem, *])) | refine Qh rfl ?_ | refine Qd rfl (by kernel_rfl) ?_ | (refine Qc rfl rfl ?_ ?_ <;> (intro hb; have hc := hb; try simp only [go_sem] at hc)) | refine z6 rfl ?_ | (refine Qb ?_ ?_; focus kernel_rfl) | (refine z8 (zAo (z7 p c.street) c.src (by omega)) ?_; simp only [go_sem, *]) | ((with_reducible apply And.intro); focus omega) | (refine z5 hK ?_; clear hK; simp only [go_sem, *]) | simp only [z3, z4, go_sem, *])
  · have hm : c.src ∉ z7 p c.street := by assumption
    have e : y5 p c = 3 := by rw [M4 k, if_pos hm]
    have e2 : zNe p c = .dead := by simp [zNe, e]
    refine ⟨[_], [some 0], [], ⟨rfl, trivial⟩, ?_⟩
    simp only [go_sem, e, e2]
  · have hm : c.src ∈ z7 p c.street := by assumption
    refine v5 rfl (4) (fun i => ∀ j : Nat, j < i → (⟨c.src.number, (j : Int) + 1⟩ : Plate) ∈ z7 p c.street) 53 (fun i => [(8, iV ((i : Int) + 1)), (7, q9 (z7 p c.street)), (4, .ptr 2 0), (3, .ptr 1 0), (2, .mp 0)]) (fun i => [.mapo (y7 p) (y6 p fun h => [h]), zNi p, zN8 c]) [some 0, some 1, some 2] [] (by simp) ?_; intro i hi hP
    have hw : i ≤ 4 → IntKind.i64.wrap ((i : Int) + 1 + 1) = (((i + 1 : Nat) : Int) + 1) := fun h => by rw [wrap_i64 (by omega) (by omega)]; omega
    repeat' (first | (refine Qr rfl ?_; try intro _ hK; try simp only [go_sem, *]) | (refine Qi rfl rfl rfl rfl ?_ ?_ <;> (intro hb; (try intro _ hK); have hc := hb; try simp only [go_sem] at hc; simp only [go_sem, *])) | refine Qh rfl ?_ | refine Qd rfl (by kernel_rfl) ?_ | (refine Qc rfl rfl ?_ ?_ <;> (intro hb; have hc := hb; try simp only [go_sem] at hc)) | refine z6 rfl ?_ | (refine Qb ?_ ?_; focus kernel_rfl) | ((first | refine z8 (zAo (z7 p c.street) ⟨c.src.number, (i : Int) + 1⟩ (by omega)) ?_ | refine z8 (J0 _ _ _) ?_); simp only [go_sem, *]) | ((with_reducible apply And.intro); focus omega) | (refine z5 hK ?_; clear hK; simp only [go_sem, *]) | simp only [z3, z4, go_sem, *])
    · have hx : (⟨c.src.number, (i : Int) + 1⟩ : Plate) ∈ z7 p c.street := by assumption
      have hok := (p9 _).1 (hr.ok _ hx)
      simp only at hok
      have hi4 : i < 4 := by omega
      refine ⟨_, (by omega), [some 0, some 1, some 2], [], _, _, _, (by (simp only [Weak, go_sem, List.map_append, List.map_set, *] <;> (try simp (disch := omega) only [y8]) <;> (try simp) <;> (try omega))), i + 1, rfl, (by omega), (fun j hj => ?_), rfl, rfl, rfl⟩
      rcases Nat.lt_succ_iff_lt_or_eq.1 hj with h | h
      · exact hP j h
      · subst h; exact hx
    · have hn : (⟨c.src.number, (i : Int) + 1⟩ : Plate) ∉ z7 p c.street := by assumption
      have e : y5 p c = 6 := by
        have h4 : i = 4 := by omega
        subst h4
        rw [M4 k, if_neg (fun h => h hm), if_pos (.inr (zGx hP))]
      have e2 : zNe p c = .dead := by simp [zNe, e]
      refine ⟨[_], [some 0], [], ⟨rfl, trivial⟩, ?_⟩
      simp only [go_sem, e, e2]
    · have hn : (⟨c.src.number, (i : Int) + 1⟩ : Plate) ∉ z7 p c.street := by assumption
      have hi4 : i < 4 := by omega
      have hlet := zGw hi4 hP hn
      refine S3 [⟨c.street, c.src⟩, ⟨c.street, ⟨c.src.number, (i : Int) + 1⟩⟩] (g := fun h => [h]) v hs0 hs1 hm (by simp only [go_sem]) (by simp only [go_sem]) rfl rfl (by rw [U0 k, if_pos rfl, hlet]) ?_
      simp only [go_sem, *]
      repeat' (first | (refine Qr rfl ?_; try intro _ hK; try simp only [go_sem, *]) | (refine Qi rfl rfl rfl rfl ?_ ?_ <;> (intro hb; (try intro _ hK); have hc := hb; try simp only [go_sem] at hc; simp only [go_sem, *])) | refine Qh rfl ?_ | refine Qd rfl (by kernel_rfl) ?_ | (refine Qc rfl rfl ?_ ?_ <;> (intro hb; have hc := hb; try simp only [go_sem] at hc)) | refine z6 rfl ?_ | (refine Qb ?_ ?_; focus kernel_rfl) | ((with_reducible apply And.intro); focus omega) | (refine z5 hK ?_; clear hK; simp only [go_sem, *]) | simp only [z3, z4, go_sem, *])
      have e : y5 p c = 0 := by rw [M4 k, if_neg (fun h => h hm), if_neg (by omega)]
      have e0 := ((Upd.nil p c).one c.src).fin (fun x hx hn => by
        have : ¬ x = c.src := fun h => hn (by simp [h])
        rw [U0 k, if_neg this])
      have e2 : zNe p c = .mapo (y7 p) (y6 p (zNo p c (fun h => [h]) c.src)) := by rw [e0]; simp [zNe, e]
      refine ⟨[_], [some 0], [], ⟨rfl, trivial⟩, ?_⟩
      simp only [go_sem, e, e2]
    · have e : y5 p c = 6 := by
        rw [M4 k, if_neg (fun h => h hm), if_pos (.inl (by omega))]
      have e2 : zNe p c = .dead := by simp [zNe, e]
      refine ⟨[_], [some 0], [], ⟨rfl, trivial⟩, ?_⟩
      simp only [go_sem, e, e2]
end Go.Abs

namespace Go.Abs
open Go Go.Proofs Tryz
attribute [local irreducible] q8 Hold y4
@[go_sem] theorem zMJ (n : Nat) : ((n : Int) < 0) = False := by simp
@[go_sem] theorem zK5 : decide False = false := rfl
@[go_sem] theorem zMM : ((-1 : Int) < 0) = True := by simp
theorem zI1 (p : zNU) (c : Change) (v : Valid p) (f : Pre p c) (k : c.kind = 7) : zNV prog 130 [y3 p, c.enc, .mp 0] [.mapo (y7 p) (y6 p fun h => [h])] (iV (y5 p c)) [zNe p c] := by
 have hs0 := f.street.1
 have hs1 := f.street.2
 obtain ⟨ht0, ht1, hne⟩ := f.other (.inr k)
 have hs : c.street.toNat < p.length := by omega
 have ht : c.other.toNat < p.length := by omega
 have hr := v.row c.street
 have hl8 := hr.len
 have ho8 := (v.row c.other).len
 have fail : ∀ n : Int, y5 p c = n → n ≠ 0 → zNe p c = .dead := fun n e h => by simp [zNe, e, h]
 by_cases hm : c.src ∈ z7 p c.street
 ·have hA := Q4 hm
  have hAl := Q5 hm
  by_cases hd : c.dst ∈ z7 p c.street
  ·have hB := Q4 hd
   have hBl := Q5 hd
   have hcmp := E5 hr.sorted hd hm
   generalize hAe : (z7 p c.street).idxOf c.src = A at *
   generalize hBe : (z7 p c.street).idxOf c.dst = B at *
   have hf := H3 (p := p) k
   rw [if_neg (by simp [hm, hd])] at hf
   have hwB : IntKind.i64.wrap ((B : Int) + 1) = ((B + 1 : Nat) : Int) := y8 (by omega)
   obtain ⟨l', hl'⟩ : ∃ l', l' = ((z7 p c.street).drop A).take (B + 1 - A) := ⟨_, rfl⟩
   have hll : ¬ B < A → l'.length = B + 1 - A := fun h => by rw [hl']; simp; omega
   by_cases hlt : B < A
   ·rw [if_pos (hcmp.2 hlt)] at hf
    have e2 := fail _ hf (by omega)
    refine z9 func130 rfl (fun E hE => ?_); simp only [go_sem, ntmps130]
    repeat' (first | (refine Qr rfl ?_; try intro _ hK; try simp only [go_sem, *]) | (refine Qi rfl rfl rfl rfl ?_ ?_ <;> (intro hb; (try intro _ hK); have hc := hb; try simp only [go_sem] at hc; simp only [go_sem, *])) | refine Qh rfl ?_ | refine Qd rfl (by kernel_rfl) ?_ | (refine Qc rfl rfl ?_ ?_ <;> (intro hb; have hc := hb; try simp only [go_sem] at hc)) | refine z6 rfl ?_ | (refine Qb ?_ ?_; focus kernel_rfl) | ((first | refine z8 (b7 (z7 p c.street) c.src (by omega)) ?_ | refine z8 (b7 (z7 p c.street) c.dst (by omega)) ?_); simp only [go_sem, *]) | ((with_reducible apply And.intro); focus omega) | (refine z5 hK ?_; clear hK; simp only [go_sem, *]) | simp only [z3, z4, go_sem, *])
    all_goals first | (exfalso; omega) | (refine ⟨[_], [some 0], [], ⟨rfl, trivial⟩, ?_⟩; simp only [go_sem, *])
   ·rw [if_neg (fun h => hlt (hcmp.1 h))] at hf
    by_cases ho : 0 < (z7 p c.other).length
    ·rw [if_pos ho] at hf
     have e2 := fail _ hf (by omega)
     refine z9 func130 rfl (fun E hE => ?_); simp only [go_sem, ntmps130]
     repeat' (first | (refine Qr rfl ?_; try intro _ hK; try simp only [go_sem, *]) | (refine Qi rfl rfl rfl rfl ?_ ?_ <;> (intro hb; (try intro _ hK); have hc := hb; try simp only [go_sem] at hc; simp only [go_sem, *])) | refine Qh rfl ?_ | refine Qd rfl (by kernel_rfl) ?_ | (refine Qc rfl rfl ?_ ?_ <;> (intro hb; have hc := hb; try simp only [go_sem] at hc)) | refine z6 rfl ?_ | (refine Qb ?_ ?_; focus kernel_rfl) | ((first | refine z8 (b7 (z7 p c.street) c.src (by omega)) ?_ | refine z8 (b7 (z7 p c.street) c.dst (by omega)) ?_); simp only [go_sem, *]) | ((with_reducible apply And.intro); focus omega) | (refine z5 hK ?_; clear hK; simp only [go_sem, *]) | simp only [z3, z4, go_sem, *])
     all_goals first | (exfalso; omega) | (refine ⟨[_], [some 0], [], ⟨rfl, trivial⟩, ?_⟩; simp only [go_sem, *])
    ·rw [if_neg ho] at hf
     have hAB : A ≤ B + 1 := by omega
     have hll := hll hlt
     have hm' : List.take (B + 1 - A) (List.drop A ((z7 p c.street).map Plate.enc)) = l'.map Plate.enc := by rw [hl', List.map_take, List.map_drop]
     have hget : ∀ i, i < l'.length → ∃ h : A + i < (z7 p c.street).length, l'.getD i default = (z7 p c.street)[A + i] := fun i hi => by
      have h : A + i < (z7 p c.street).length := by omega
      refine ⟨h, ?_⟩
      rw [hl']
      simp only [List.getD_eq_getElem?_getD, List.getElem?_take, List.getElem?_drop]
      rw [if_pos (by omega), List.getElem?_eq_getElem h]; rfl
     have hidx : ∀ i (h : i < (z7 p c.street).length), (z7 p c.street).idxOf (z7 p c.street)[i] = i := fun i h => by
      have := T0 (List.getElem_mem h)
      exact (Y1 hr.nodup).1 this
     have hcond : ∀ x, x ∈ z7 p c.street → ((x.lt c.src = false ∧ c.dst.lt x = false) ↔ A ≤ (z7 p c.street).idxOf x ∧ (z7 p c.street).idxOf x ≤ B) := fun x hx => by
      have h1 := E5 hr.sorted hx hm
      have h2 := E5 hr.sorted hd hx
      rw [hAe] at h1; rw [hBe] at h2
      rw [← Bool.not_eq_true, ← Bool.not_eq_true, h1, h2]; omega
     have htoP : ∀ i, i < l'.length → toP p c (l'.getD i default) = [⟨c.other, ⟨(i : Int) + 1, 0⟩⟩] ∧ l'.getD i default ∈ z7 p c.street := fun i hi => by
      obtain ⟨h, e⟩ := hget i hi
      rw [e]
      have hmx := List.getElem_mem h
      have hix := hidx _ h
      refine ⟨?_, hmx⟩
      rw [T9 k, if_pos ((hcond _ hmx).2 (by rw [hix]; omega)), Q4 hmx, hA, hix]
      congr 3; omega
     have hcov : ∀ x, x ∈ z7 p c.street → x ∉ l' → toP p c x = [⟨c.street, x⟩] := fun x hx hn => by
      rw [T9 k, if_neg]
      rw [hcond x hx]
      rintro ⟨h1, h2⟩
      apply hn
      have hi : (z7 p c.street).idxOf x - A < l'.length := by omega
      obtain ⟨h, e⟩ := hget _ hi
      have : (z7 p c.street)[A + ((z7 p c.street).idxOf x - A)] = x := by
       have h4 : A + ((z7 p c.street).idxOf x - A) = (z7 p c.street).idxOf x := by omega
       simp only [h4]; exact T0 hx
      rw [this] at e
      rw [← e]; exact w5 hi
     clear hget hidx hcond hl'
     have hB8 : B + 1 ≤ (z7 p c.street).length := by omega
     refine z9 func130 rfl (fun E hE => ?_); simp only [go_sem, ntmps130]
     repeat' (first | (refine Qr rfl ?_; try intro _ hK; try simp only [go_sem, *]) | (refine Qi rfl rfl rfl rfl ?_ ?_ <;> (intro hb; (try intro _ hK); have hc := hb; try simp only [go_sem] at hc; simp only [go_sem, *])) | refine Qh rfl ?_ | refine Qd rfl (by kernel_rfl) ?_ | (refine Qc rfl rfl ?_ ?_ <;> (intro hb; have hc := hb; try simp only [go_sem] at hc)) | refine z6 rfl ?_ | (refine Qb ?_ ?_; focus kernel_rfl) | ((first | refine z8 (b7 (z7 p c.street) c.src (by omega)) ?_ | refine z8 (b7 (z7 p c.street) c.dst (by omega)) ?_); simp only [go_sem, *]) | ((with_reducible apply And.intro); focus omega) | (refine z5 hK ?_; clear hK; simp only [go_sem, *]) | simp only [z3, z4, go_sem, *])
     all_goals first | (exfalso; omega) | skip
     refine ⟨fun y hy => by obtain ⟨x, _, rfl⟩ := List.mem_map.1 hy; rfl, ?_⟩
     try rw [hm']
     repeat' (first | (refine Qr rfl ?_; try intro _ hK; try simp only [go_sem, *]) | (refine Qi rfl rfl rfl rfl ?_ ?_ <;> (intro hb; (try intro _ hK); have hc := hb; try simp only [go_sem] at hc; simp only [go_sem, *])) | refine Qh rfl ?_ | refine Qd rfl (by kernel_rfl) ?_ | (refine Qc rfl rfl ?_ ?_ <;> (intro hb; have hc := hb; try simp only [go_sem] at hc)) | refine z6 rfl ?_ | (refine Qb ?_ ?_; focus kernel_rfl) | ((with_reducible apply And.intro); focus omega) | (refine z5 hK ?_; clear hK; simp only [go_sem, *]) | simp only [z3, z4, go_sem, *])
     refine v9 rfl (l'.length) (fun i (g : House → List House) => Upd p c g (l'.take i)) 69 (fun i g => [(52, iV i), (51, iV l'.length), (50, q9 l'), (4, .ptr 2 0), (3, .ptr 1 0), (2, .mp 0)]) (fun i g => [.mapo (y7 p) (y6 p g), zNi p, zN8 c]) [some 0, some 1, some 2] [] (fun h => [h]) (by exact Upd.nil _ _) ?_; intro i g hi hP
     have hw : i < l'.length → IntKind.i64.wrap ((i : Int) + 1) = (i : Int) + 1 := fun h => wrap_i64 (by omega) (by omega)
     repeat' (first | (refine Qr rfl ?_; try intro _ hK; try simp only [go_sem, *]) | (refine Qi rfl rfl rfl rfl ?_ ?_ <;> (intro hb; (try intro _ hK); have hc := hb; try simp only [go_sem] at hc; simp only [go_sem, *])) | refine Qh rfl ?_ | refine Qd rfl (by kernel_rfl) ?_ | (refine Qc rfl rfl ?_ ?_ <;> (intro hb; have hc := hb; try simp only [go_sem] at hc)) | refine z6 rfl ?_ | (refine Qb ?_ ?_; focus kernel_rfl) | (refine z8 (J0 _ _ _) ?_; simp only [go_sem, *]) | ((with_reducible apply And.intro); focus omega) | (refine z5 hK ?_; clear hK; simp only [go_sem, *]) | simp only [z3, z4, go_sem, *])
     ·obtain ⟨q1, q2⟩ := htoP i (by omega)
      refine S3 [⟨c.other, ⟨(i : Int) + 1, 0⟩⟩] (g := g) (x := l'.getD i default) v hs0 hs1 q2 (by simp only [go_sem, *]) (by simp only [go_sem, *]) rfl rfl q1 ?_
      simp only [go_sem, *]
      repeat' (first | (refine Qr rfl ?_; try intro _ hK; try simp only [go_sem, *]) | (refine Qi rfl rfl rfl rfl ?_ ?_ <;> (intro hb; (try intro _ hK); have hc := hb; try simp only [go_sem] at hc; simp only [go_sem, *])) | refine Qh rfl ?_ | refine Qd rfl (by kernel_rfl) ?_ | (refine Qc rfl rfl ?_ ?_ <;> (intro hb; have hc := hb; try simp only [go_sem] at hc)) | refine z6 rfl ?_ | (refine Qb ?_ ?_; focus kernel_rfl) | ((with_reducible apply And.intro); focus omega) | (refine z5 hK ?_; clear hK; simp only [go_sem, *]) | simp only [z3, z4, go_sem, *])
      have e := b9 (l := l') (i := i) (by omega)
      exact x9 (i' := i + 1) [some 0, some 1, some 2] [] (zNo p c g (l'.getD i default)) (by rw [e]; exact hP.one _)
     ·rw [List.take_of_length_le (by omega)] at hP
      have e0 := hP.fin hcov
      have e2 : zNe p c = .mapo (y7 p) (y6 p g) := by rw [e0]; simp [zNe, hf]
      refine ⟨[_], [some 0], [], ⟨rfl, trivial⟩, ?_⟩
      simp only [go_sem, hf, e2]
  ·have hf : y5 p c = 3 := by rw [H3 k, if_pos (.inr hd)]
   have e2 := fail _ hf (by omega)
   have hB := G2 hd
   refine z9 func130 rfl (fun E hE => ?_); simp only [go_sem, ntmps130]
   repeat' (first | (refine Qr rfl ?_; try intro _ hK; try simp only [go_sem, *]) | (refine Qi rfl rfl rfl rfl ?_ ?_ <;> (intro hb; (try intro _ hK); have hc := hb; try simp only [go_sem] at hc; simp only [go_sem, *])) | refine Qh rfl ?_ | refine Qd rfl (by kernel_rfl) ?_ | (refine Qc rfl rfl ?_ ?_ <;> (intro hb; have hc := hb; try simp only [go_sem] at hc)) | refine z6 rfl ?_ | (refine Qb ?_ ?_; focus kernel_rfl) | ((first | refine z8 (b7 (z7 p c.street) c.src (by omega)) ?_ | refine z8 (b7 (z7 p c.street) c.dst (by omega)) ?_); simp only [go_sem, *]) | ((with_reducible apply And.intro); focus omega) | (refine z5 hK ?_; clear hK; simp only [go_sem, *]) | simp only [z3, z4, go_sem, *])
   all_goals first | (exfalso; omega) | (refine ⟨[_], [some 0], [], ⟨rfl, trivial⟩, ?_⟩; simp only [go_sem, *])
 ·have hf : y5 p c = 3 := by rw [H3 k, if_pos (.inl hm)]
  have e2 := fail _ hf (by omega)
  have hA := G2 hm
  refine z9 func130 rfl (fun E hE => ?_); simp only [go_sem, ntmps130]
  repeat' (first | (refine Qr rfl ?_; try intro _ hK; try simp only [go_sem, *]) | (refine Qi rfl rfl rfl rfl ?_ ?_ <;> (intro hb; (try intro _ hK); have hc := hb; try simp only [go_sem] at hc; simp only [go_sem, *])) | refine Qh rfl ?_ | refine Qd rfl (by kernel_rfl) ?_ | (refine Qc rfl rfl ?_ ?_ <;> (intro hb; have hc := hb; try simp only [go_sem] at hc)) | refine z6 rfl ?_ | (refine Qb ?_ ?_; focus kernel_rfl) | ((first | refine z8 (b7 (z7 p c.street) c.src (by omega)) ?_ | refine z8 (b7 (z7 p c.street) c.dst (by omega)) ?_); simp only [go_sem, *]) | ((with_reducible apply And.intro); focus omega) | (refine z5 hK ?_; clear hK; simp only [go_sem, *]) | simp only [z3, z4, go_sem, *])
  all_goals first | (exfalso; omega) | (refine ⟨[_], [some 0], [], ⟨rfl, trivial⟩, ?_⟩; simp only [go_sem, *])
end Go.Abs

namespace Go.Abs
open Go Go.Proofs Tryz
attribute [local irreducible] q8 Hold y4
theorem zE5 (p : zNU) (c : Change) (hl : p.length ≤ 1000) (hbk : zNX c.kind 1 7 = false) : zNV prog 84 [y3 p, c.enc] [] (.tup [.raw (.map none), iV 8]) [] := by
 have hwl : IntKind.i64.wrap ((p.length : Int) - 1) = (p.length : Int) - 1 := wrap_i64 (by omega) (by omega)
 refine z9 func84 rfl (fun E hE => ?_); simp only [go_sem, ntmps84]
 repeat' (first | (refine Qr rfl ?_; try intro _ hK; try simp only [go_sem, *]) | (refine Qi rfl rfl rfl rfl ?_ ?_ <;> (intro hb; (try intro _ hK); have hc := hb; try simp only [go_sem] at hc; simp only [go_sem, *])) | refine Qh rfl ?_ | refine Qd rfl (by kernel_rfl) ?_ | (refine Qc rfl rfl ?_ ?_ <;> (intro hb; have hc := hb; try simp only [go_sem] at hc)) | refine z6 rfl ?_ | (refine Qb ?_ ?_; focus kernel_rfl) | (refine z8 (t9 _ _ _) ?_; simp only [go_sem, *]) | ((with_reducible apply And.intro); focus omega) | (refine z5 hK ?_; clear hK; simp only [go_sem, *]) | simp only [z3, z4, go_sem, *])
 all_goals (refine ⟨[_, _], [], [], ⟨rfl, rfl, trivial⟩, ?_⟩; simp only [go_sem, *])
theorem zFA (p : zNU) (c : Change) (hl : p.length ≤ 1000) (hbk : zNX c.kind 1 7 = true) (hbs : zNX c.street 0 ((p.length : Int) - 1) = false) : zNV prog 84 [y3 p, c.enc] [] (.tup [.raw (.map none), iV 3]) [] := by
 have hwl : IntKind.i64.wrap ((p.length : Int) - 1) = (p.length : Int) - 1 := wrap_i64 (by omega) (by omega)
 refine z9 func84 rfl (fun E hE => ?_); simp only [go_sem, ntmps84]
 repeat' (first | (refine Qr rfl ?_; try intro _ hK; try simp only [go_sem, *]) | (refine Qi rfl rfl rfl rfl ?_ ?_ <;> (intro hb; (try intro _ hK); have hc := hb; try simp only [go_sem] at hc; simp only [go_sem, *])) | refine Qh rfl ?_ | refine Qd rfl (by kernel_rfl) ?_ | (refine Qc rfl rfl ?_ ?_ <;> (intro hb; have hc := hb; try simp only [go_sem] at hc)) | refine z6 rfl ?_ | (refine Qb ?_ ?_; focus kernel_rfl) | (refine z8 (t9 _ _ _) ?_; simp only [go_sem, *]) | ((with_reducible apply And.intro); focus omega) | (refine z5 hK ?_; clear hK; simp only [go_sem, *]) | simp only [z3, z4, go_sem, *])
 all_goals (refine ⟨[_, _], [], [], ⟨rfl, rfl, trivial⟩, ?_⟩; simp only [go_sem, *])
theorem zE6 (p : zNU) (c : Change) (hl : p.length ≤ 1000) (hbk : zNX c.kind 1 7 = true) (hbs : zNX c.street 0 ((p.length : Int) - 1) = true) (hk4 : (c.kind == 4) = true) (hbo : zNX c.other 0 ((p.length : Int) - 1) = false) : zNV prog 84 [y3 p, c.enc] [] (.tup [.raw (.map none), iV 3]) [] := by
 have hwl : IntKind.i64.wrap ((p.length : Int) - 1) = (p.length : Int) - 1 := wrap_i64 (by omega) (by omega)
 refine z9 func84 rfl (fun E hE => ?_); simp only [go_sem, ntmps84]
 repeat' (first | (refine Qr rfl ?_; try intro _ hK; try simp only [go_sem, *]) | (refine Qi rfl rfl rfl rfl ?_ ?_ <;> (intro hb; (try intro _ hK); have hc := hb; try simp only [go_sem] at hc; simp only [go_sem, *])) | refine Qh rfl ?_ | refine Qd rfl (by kernel_rfl) ?_ | (refine Qc rfl rfl ?_ ?_ <;> (intro hb; have hc := hb; try simp only [go_sem] at hc)) | refine z6 rfl ?_ | (refine Qb ?_ ?_; focus kernel_rfl) | (refine z8 (t9 _ _ _) ?_; simp only [go_sem, *]) | ((with_reducible apply And.intro); focus omega) | (refine z5 hK ?_; clear hK; simp only [go_sem, *]) | simp only [z3, z4, go_sem, *])
 all_goals (refine ⟨[_, _], [], [], ⟨rfl, rfl, trivial⟩, ?_⟩; simp only [go_sem, *])
theorem zE7 (p : zNU) (c : Change) (hl : p.length ≤ 1000) (hbk : zNX c.kind 1 7 = true) (hbs : zNX c.street 0 ((p.length : Int) - 1) = true) (hk4 : (c.kind == 4) = false) (hk7 : (c.kind == 7) = true) (hbo : zNX c.other 0 ((p.length : Int) - 1) = false) : zNV prog 84 [y3 p, c.enc] [] (.tup [.raw (.map none), iV 3]) [] := by
 have hwl : IntKind.i64.wrap ((p.length : Int) - 1) = (p.length : Int) - 1 := wrap_i64 (by omega) (by omega)
 refine z9 func84 rfl (fun E hE => ?_); simp only [go_sem, ntmps84]
 repeat' (first | (refine Qr rfl ?_; try intro _ hK; try simp only [go_sem, *]) | (refine Qi rfl rfl rfl rfl ?_ ?_ <;> (intro hb; (try intro _ hK); have hc := hb; try simp only [go_sem] at hc; simp only [go_sem, *])) | refine Qh rfl ?_ | refine Qd rfl (by kernel_rfl) ?_ | (refine Qc rfl rfl ?_ ?_ <;> (intro hb; have hc := hb; try simp only [go_sem] at hc)) | refine z6 rfl ?_ | (refine Qb ?_ ?_; focus kernel_rfl) | (refine z8 (t9 _ _ _) ?_; simp only [go_sem, *]) | ((with_reducible apply And.intro); focus omega) | (refine z5 hK ?_; clear hK; simp only [go_sem, *]) | simp only [z3, z4, go_sem, *])
 all_goals (refine ⟨[_, _], [], [], ⟨rfl, rfl, trivial⟩, ?_⟩; simp only [go_sem, *])
theorem zE8 (p : zNU) (c : Change) (hl : p.length ≤ 1000) (hbk : zNX c.kind 1 7 = true) (hbs : zNX c.street 0 ((p.length : Int) - 1) = true) (hk4 : (c.kind == 4) = true) (hbo : zNX c.other 0 ((p.length : Int) - 1) = true) (hrp : (c.other == c.street) = true) : zNV prog 84 [y3 p, c.enc] [] (.tup [.raw (.map none), iV 4]) [] := by
 have hwl : IntKind.i64.wrap ((p.length : Int) - 1) = (p.length : Int) - 1 := wrap_i64 (by omega) (by omega)
 refine z9 func84 rfl (fun E hE => ?_); simp only [go_sem, ntmps84]
 repeat' (first | (refine Qr rfl ?_; try intro _ hK; try simp only [go_sem, *]) | (refine Qi rfl rfl rfl rfl ?_ ?_ <;> (intro hb; (try intro _ hK); have hc := hb; try simp only [go_sem] at hc; simp only [go_sem, *])) | refine Qh rfl ?_ | refine Qd rfl (by kernel_rfl) ?_ | (refine Qc rfl rfl ?_ ?_ <;> (intro hb; have hc := hb; try simp only [go_sem] at hc)) | refine z6 rfl ?_ | (refine Qb ?_ ?_; focus kernel_rfl) | (refine z8 (t9 _ _ _) ?_; simp only [go_sem, *]) | ((with_reducible apply And.intro); focus omega) | (refine z5 hK ?_; clear hK; simp only [go_sem, *]) | simp only [z3, z4, go_sem, *])
 all_goals (refine ⟨[_, _], [], [], ⟨rfl, rfl, trivial⟩, ?_⟩; simp only [go_sem, *])
theorem zE9 (p : zNU) (c : Change) (hl : p.length ≤ 1000) (hbk : zNX c.kind 1 7 = true) (hbs : zNX c.street 0 ((p.length : Int) - 1) = true) (hk4 : (c.kind == 4) = false) (hk7 : (c.kind == 7) = true) (hbo : zNX c.other 0 ((p.length : Int) - 1) = true) (hrp : (c.other == c.street) = true) : zNV prog 84 [y3 p, c.enc] [] (.tup [.raw (.map none), iV 4]) [] := by
 have hwl : IntKind.i64.wrap ((p.length : Int) - 1) = (p.length : Int) - 1 := wrap_i64 (by omega) (by omega)
 refine z9 func84 rfl (fun E hE => ?_); simp only [go_sem, ntmps84]
 repeat' (first | (refine Qr rfl ?_; try intro _ hK; try simp only [go_sem, *]) | (refine Qi rfl rfl rfl rfl ?_ ?_ <;> (intro hb; (try intro _ hK); have hc := hb; try simp only [go_sem] at hc; simp only [go_sem, *])) | refine Qh rfl ?_ | refine Qd rfl (by kernel_rfl) ?_ | (refine Qc rfl rfl ?_ ?_ <;> (intro hb; have hc := hb; try simp only [go_sem] at hc)) | refine z6 rfl ?_ | (refine Qb ?_ ?_; focus kernel_rfl) | (refine z8 (t9 _ _ _) ?_; simp only [go_sem, *]) | ((with_reducible apply And.intro); focus omega) | (refine z5 hK ?_; clear hK; simp only [go_sem, *]) | simp only [z3, z4, go_sem, *])
 all_goals (refine ⟨[_, _], [], [], ⟨rfl, rfl, trivial⟩, ?_⟩; simp only [go_sem, *])
theorem zEs (p : zNU) (c : Change) (hl : p.length ≤ 1000) (hbk : zNX c.kind 1 7 = true) (hbs : zNX c.street 0 ((p.length : Int) - 1) = true) (hk4 : (c.kind == 4) = false) (hk7 : (c.kind == 7) = false) (hco : (c.other != 0) = true) : zNV prog 84 [y3 p, c.enc] [] (.tup [.raw (.map none), iV 1]) [] := by
 have hwl : IntKind.i64.wrap ((p.length : Int) - 1) = (p.length : Int) - 1 := wrap_i64 (by omega) (by omega)
 refine z9 func84 rfl (fun E hE => ?_); simp only [go_sem, ntmps84]
 repeat' (first | (refine Qr rfl ?_; try intro _ hK; try simp only [go_sem, *]) | (refine Qi rfl rfl rfl rfl ?_ ?_ <;> (intro hb; (try intro _ hK); have hc := hb; try simp only [go_sem] at hc; simp only [go_sem, *])) | refine Qh rfl ?_ | refine Qd rfl (by kernel_rfl) ?_ | (refine Qc rfl rfl ?_ ?_ <;> (intro hb; have hc := hb; try simp only [go_sem] at hc)) | refine z6 rfl ?_ | (refine Qb ?_ ?_; focus kernel_rfl) | (refine z8 (t9 _ _ _) ?_; simp only [go_sem, *]) | ((with_reducible apply And.intro); focus omega) | (refine z5 hK ?_; clear hK; simp only [go_sem, *]) | simp only [z3, z4, go_sem, *])
 all_goals (refine ⟨[_, _], [], [], ⟨rfl, rfl, trivial⟩, ?_⟩; simp only [go_sem, *])
theorem zEu (p : zNU) (c : Change) (hl : p.length ≤ 1000) (hbk : zNX c.kind 1 7 = true) (hbs : zNX c.street 0 ((p.length : Int) - 1) = true) (hk4 : (c.kind == 4) = true) (hbo : zNX c.other 0 ((p.length : Int) - 1) = true) (hrp : (c.other == c.street) = false) (hk5 : decide (c.kind ≥ 5) = false) (hsz : (c.src.number == 0 && c.src.letter == 0) = false) : zNV prog 84 [y3 p, c.enc] [] (.tup [.raw (.map none), iV 1]) [] := by
 have hwl : IntKind.i64.wrap ((p.length : Int) - 1) = (p.length : Int) - 1 := wrap_i64 (by omega) (by omega)
 refine z9 func84 rfl (fun E hE => ?_); simp only [go_sem, ntmps84]
 repeat' (first | (refine Qr rfl ?_; try intro _ hK; try simp only [go_sem, *]) | (refine Qi rfl rfl rfl rfl ?_ ?_ <;> (intro hb; (try intro _ hK); have hc := hb; try simp only [go_sem] at hc; simp only [go_sem, *])) | refine Qh rfl ?_ | refine Qd rfl (by kernel_rfl) ?_ | (refine Qc rfl rfl ?_ ?_ <;> (intro hb; have hc := hb; try simp only [go_sem] at hc)) | refine z6 rfl ?_ | (refine Qb ?_ ?_; focus kernel_rfl) | (refine z8 (t9 _ _ _) ?_; simp only [go_sem, *]) | ((with_reducible apply And.intro); focus omega) | (refine z5 hK ?_; clear hK; simp only [go_sem, *]) | simp only [z3, z4, go_sem, *])
 all_goals (refine ⟨[_, _], [], [], ⟨rfl, rfl, trivial⟩, ?_⟩; simp only [go_sem, *])
theorem zEt (p : zNU) (c : Change) (hl : p.length ≤ 1000) (hbk : zNX c.kind 1 7 = true) (hbs : zNX c.street 0 ((p.length : Int) - 1) = true) (hk4 : (c.kind == 4) = false) (hk7 : (c.kind == 7) = false) (hco : (c.other != 0) = false) (hk5 : decide (c.kind ≥ 5) = false) (hsz : (c.src.number == 0 && c.src.letter == 0) = false) : zNV prog 84 [y3 p, c.enc] [] (.tup [.raw (.map none), iV 1]) [] := by
 have hwl : IntKind.i64.wrap ((p.length : Int) - 1) = (p.length : Int) - 1 := wrap_i64 (by omega) (by omega)
 refine z9 func84 rfl (fun E hE => ?_); simp only [go_sem, ntmps84]
 repeat' (first | (refine Qr rfl ?_; try intro _ hK; try simp only [go_sem, *]) | (refine Qi rfl rfl rfl rfl ?_ ?_ <;> (intro hb; (try intro _ hK); have hc := hb; try simp only [go_sem] at hc; simp only [go_sem, *])) | refine Qh rfl ?_ | refine Qd rfl (by kernel_rfl) ?_ | (refine Qc rfl rfl ?_ ?_ <;> (intro hb; have hc := hb; try simp only [go_sem] at hc)) | refine z6 rfl ?_ | (refine Qb ?_ ?_; focus kernel_rfl) | (refine z8 (t9 _ _ _) ?_; simp only [go_sem, *]) | ((with_reducible apply And.intro); focus omega) | (refine z5 hK ?_; clear hK; simp only [go_sem, *]) | simp only [z3, z4, go_sem, *])
 all_goals (refine ⟨[_, _], [], [], ⟨rfl, rfl, trivial⟩, ?_⟩; simp only [go_sem, *])
theorem zEw (p : zNU) (c : Change) (hl : p.length ≤ 1000) (hbk : zNX c.kind 1 7 = true) (hbs : zNX c.street 0 ((p.length : Int) - 1) = true) (hk4 : (c.kind == 4) = true) (hk7 : (c.kind == 7) = false) (hbo : zNX c.other 0 ((p.length : Int) - 1) = true) (hrp : (c.other == c.street) = false) (hk5 : decide (c.kind ≥ 5) = false) (hsz : (c.src.number == 0 && c.src.letter == 0) = true) (hdz : (c.dst.number == 0 && c.dst.letter == 0) = false) : zNV prog 84 [y3 p, c.enc] [] (.tup [.raw (.map none), iV 1]) [] := by
 have hwl : IntKind.i64.wrap ((p.length : Int) - 1) = (p.length : Int) - 1 := wrap_i64 (by omega) (by omega)
 refine z9 func84 rfl (fun E hE => ?_); simp only [go_sem, ntmps84]
 repeat' (first | (refine Qr rfl ?_; try intro _ hK; try simp only [go_sem, *]) | (refine Qi rfl rfl rfl rfl ?_ ?_ <;> (intro hb; (try intro _ hK); have hc := hb; try simp only [go_sem] at hc; simp only [go_sem, *])) | refine Qh rfl ?_ | refine Qd rfl (by kernel_rfl) ?_ | (refine Qc rfl rfl ?_ ?_ <;> (intro hb; have hc := hb; try simp only [go_sem] at hc)) | refine z6 rfl ?_ | (refine Qb ?_ ?_; focus kernel_rfl) | (refine z8 (t9 _ _ _) ?_; simp only [go_sem, *]) | ((with_reducible apply And.intro); focus omega) | (refine z5 hK ?_; clear hK; simp only [go_sem, *]) | simp only [z3, z4, go_sem, *])
 all_goals (refine ⟨[_, _], [], [], ⟨rfl, rfl, trivial⟩, ?_⟩; simp only [go_sem, *])
theorem zEv (p : zNU) (c : Change) (hl : p.length ≤ 1000) (hbk : zNX c.kind 1 7 = true) (hbs : zNX c.street 0 ((p.length : Int) - 1) = true) (hk4 : (c.kind == 4) = false) (hk7 : (c.kind == 7) = false) (hco : (c.other != 0) = false) (hk5 : decide (c.kind ≥ 5) = false) (hsz : (c.src.number == 0 && c.src.letter == 0) = true) (hdz : (c.dst.number == 0 && c.dst.letter == 0) = false) : zNV prog 84 [y3 p, c.enc] [] (.tup [.raw (.map none), iV 1]) [] := by
 have hwl : IntKind.i64.wrap ((p.length : Int) - 1) = (p.length : Int) - 1 := wrap_i64 (by omega) (by omega)
 refine z9 func84 rfl (fun E hE => ?_); simp only [go_sem, ntmps84]
 repeat' (first | (refine Qr rfl ?_; try intro _ hK; try simp only [go_sem, *]) | (refine Qi rfl rfl rfl rfl ?_ ?_ <;> (intro hb; (try intro _ hK); have hc := hb; try simp only [go_sem] at hc; simp only [go_sem, *])) | refine Qh rfl ?_ | refine Qd rfl (by kernel_rfl) ?_ | (refine Qc rfl rfl ?_ ?_ <;> (intro hb; have hc := hb; try simp only [go_sem] at hc)) | refine z6 rfl ?_ | (refine Qb ?_ ?_; focus kernel_rfl) | (refine z8 (t9 _ _ _) ?_; simp only [go_sem, *]) | ((with_reducible apply And.intro); focus omega) | (refine z5 hK ?_; clear hK; simp only [go_sem, *]) | simp only [z3, z4, go_sem, *])
 all_goals (refine ⟨[_, _], [], [], ⟨rfl, rfl, trivial⟩, ?_⟩; simp only [go_sem, *])
theorem zEx (p : zNU) (c : Change) (hl : p.length ≤ 1000) (hbk : zNX c.kind 1 7 = true) (hbs : zNX c.street 0 ((p.length : Int) - 1) = true) (hk4 : (c.kind == 4) = false) (hk7 : (c.kind == 7) = false) (hco : (c.other != 0) = false) (hk5 : decide (c.kind ≥ 5) = true) (hdz : (c.dst.number == 0 && c.dst.letter == 0) = false) : zNV prog 84 [y3 p, c.enc] [] (.tup [.raw (.map none), iV 1]) [] := by
 have hwl : IntKind.i64.wrap ((p.length : Int) - 1) = (p.length : Int) - 1 := wrap_i64 (by omega) (by omega)
 refine z9 func84 rfl (fun E hE => ?_); simp only [go_sem, ntmps84]
 repeat' (first | (refine Qr rfl ?_; try intro _ hK; try simp only [go_sem, *]) | (refine Qi rfl rfl rfl rfl ?_ ?_ <;> (intro hb; (try intro _ hK); have hc := hb; try simp only [go_sem] at hc; simp only [go_sem, *])) | refine Qh rfl ?_ | refine Qd rfl (by kernel_rfl) ?_ | (refine Qc rfl rfl ?_ ?_ <;> (intro hb; have hc := hb; try simp only [go_sem] at hc)) | refine z6 rfl ?_ | (refine Qb ?_ ?_; focus kernel_rfl) | (refine z8 (t9 _ _ _) ?_; simp only [go_sem, *]) | ((with_reducible apply And.intro); focus omega) | (refine z5 hK ?_; clear hK; simp only [go_sem, *]) | simp only [z3, z4, go_sem, *])
 all_goals (refine ⟨[_, _], [], [], ⟨rfl, rfl, trivial⟩, ?_⟩; simp only [go_sem, *])
end Go.Abs

namespace Go.Abs
open Go Go.Proofs Tryz
attribute [local irreducible] q8 Hold y4
attribute [go_sem] ge_iff_le
theorem A1 {p : zNU} {c : Change} (h : c.kind = 1 ∨ c.kind = 2 ∨ c.kind = 3) : y5 p c = 0 := by
 unfold y5; rw [if_neg (by omega), if_neg (by omega), if_neg (by omega), if_neg (by omega)]
theorem Z3 {p : zNU} {c : Change} (h : y5 p c = 0) : zNe p c = .mapo (y7 p) (y6 p (mv p c)) := by simp [zNe, h]
def zNa (p : zNU) (c : Change) : AV := if y5 p c = 0 then .tup [.mp 0, iV 0] else .tup [.raw (.map none), iV (y5 p c)]
def zNZ (p : zNU) (c : Change) : List AObj := if y5 p c = 0 then [.mapo (y7 p) (y6 p (mv p c))] else []
@[go_sem] theorem zKl : zNX 1 1 7 = true := by decide
@[go_sem] theorem zKm : zNX 2 1 7 = true := by decide
@[go_sem] theorem zKn : zNX 3 1 7 = true := by decide
@[go_sem] theorem zKo : zNX 4 1 7 = true := by decide
@[go_sem] theorem zKp : zNX 5 1 7 = true := by decide
@[go_sem] theorem zKq : zNX 6 1 7 = true := by decide
@[go_sem] theorem zKr : zNX 7 1 7 = true := by decide
theorem zJD (p : zNU) (c : Change) (v : Valid p) (f : Pre p c) (k : c.kind = 1) : zNV prog 124 [y3 p, c.enc, .mp 0] [.mapo (y7 p) (y6 p fun h => [h])] (iV (y5 p c)) [zNe p c] := by
 have h := A1 (p := p) (c := c) (by omega)
 rw [Z3 h, h]
 exact zJW p c v (f.fit h) k
theorem zJE (p : zNU) (c : Change) (v : Valid p) (f : Pre p c) (k : c.kind = 2) : zNV prog 125 [y3 p, c.enc, .mp 0] [.mapo (y7 p) (y6 p fun h => [h])] (iV (y5 p c)) [zNe p c] := by
 have h := A1 (p := p) (c := c) (by omega)
 rw [Z3 h, h]
 exact zJQ p c v (f.fit h) k
theorem zJF (p : zNU) (c : Change) (v : Valid p) (f : Pre p c) (k : c.kind = 3) : zNV prog 126 [y3 p, c.enc, .mp 0] [.mapo (y7 p) (y6 p fun h => [h])] (iV (y5 p c)) [zNe p c] := by
 have h := A1 (p := p) (c := c) (by omega)
 rw [Z3 h, h]
 exact zI0 p c v (f.fit h) k
theorem zEy (p : zNU) (c : Change) (v : Valid p) (f : Pre p c) (k : c.kind = 1) (hco : (c.other != 0) = false) (hsz : (c.src.number == 0 && c.src.letter == 0) = true) (hdz : (c.dst.number == 0 && c.dst.letter == 0) = true) : zNV prog 84 [y3 p, c.enc] [] (zNa p c) (zNZ p c) := by
 have hwl : IntKind.i64.wrap ((p.length : Int) - 1) = (p.length : Int) - 1 := by have := v.len; exact wrap_i64 (by omega) (by omega)
 have hbs : zNX c.street 0 ((p.length : Int) - 1) = true := betw_iff.2 (by have := f.street; omega)
 refine z9 func84 rfl (fun E hE => ?_); simp only [go_sem, ntmps84]
 repeat' (first | (refine Qr rfl ?_; try intro _ hK; try simp only [go_sem, *]) | (refine Qi rfl rfl rfl rfl ?_ ?_ <;> (intro hb; (try intro _ hK); have hc := hb; try simp only [go_sem] at hc; simp only [go_sem, *])) | refine Qh rfl ?_ | refine Qd rfl (by kernel_rfl) ?_ | (refine Qc rfl rfl ?_ ?_ <;> (intro hb; have hc := hb; try simp only [go_sem] at hc)) | refine z6 rfl ?_ | (refine Qb ?_ ?_; focus kernel_rfl) | ((first | refine z8 (t9 _ _ _) ?_ | refine z8 (T8) ?_); simp only [go_sem, *]) | (refine u3 (V5 p v) ?_; simp only [go_sem, *]) | ((with_reducible apply And.intro); focus omega) | (refine z5 hK ?_; clear hK; simp only [go_sem, *]) | simp only [z3, z4, go_sem, *])
 refine x8 [2] [] (zJD p c v f k) (by simp) (by simp only [go_sem, *]) (by simp only [go_sem, AObj.live, *]) (by simp) (.inl rfl) (by simp [go_sem]) (by simp [zNe]; split <;> simp) ?_
 simp only [go_sem, *]
 repeat' (first | (refine Qr rfl ?_; try intro _ hK; try simp only [go_sem, *]) | (refine Qi rfl rfl rfl rfl ?_ ?_ <;> (intro hb; (try intro _ hK); have hc := hb; try simp only [go_sem] at hc; simp only [go_sem, *])) | refine Qh rfl ?_ | refine Qd rfl (by kernel_rfl) ?_ | (refine Qc rfl rfl ?_ ?_ <;> (intro hb; have hc := hb; try simp only [go_sem] at hc)) | refine z6 rfl ?_ | (refine Qb ?_ ?_; focus kernel_rfl) | ((with_reducible apply And.intro); focus omega) | (refine z5 hK ?_; clear hK; simp only [go_sem, *]) | simp only [z3, z4, go_sem, *])
 ·have h : ¬ y5 p c = 0 := by assumption
  have e1 : zNa p c = .tup [.raw (.map none), iV (y5 p c)] := by simp [zNa, h]
  have e2 : zNZ p c = [] := by simp [zNZ, h]
  refine ⟨[_, _], [], [], ⟨rfl, rfl, trivial⟩, ?_⟩
  simp only [go_sem, e1, e2]
 ·have h : y5 p c = 0 := by assumption
  have e1 : zNa p c = .tup [.mp 0, iV 0] := by simp [zNa, h]
  have e2 : zNZ p c = [.mapo (y7 p) (y6 p (mv p c))] := by simp [zNZ, h]
  have e3 := Z3 h
  refine ⟨[_, _], [some 2], [], ⟨rfl, rfl, trivial⟩, ?_⟩
  simp only [go_sem, e1, e2, e3, AObj.ren]
theorem zEz (p : zNU) (c : Change) (v : Valid p) (f : Pre p c) (k : c.kind = 2) (hco : (c.other != 0) = false) (hsz : (c.src.number == 0 && c.src.letter == 0) = true) (hdz : (c.dst.number == 0 && c.dst.letter == 0) = true) : zNV prog 84 [y3 p, c.enc] [] (zNa p c) (zNZ p c) := by
 have hwl : IntKind.i64.wrap ((p.length : Int) - 1) = (p.length : Int) - 1 := by have := v.len; exact wrap_i64 (by omega) (by omega)
 have hbs : zNX c.street 0 ((p.length : Int) - 1) = true := betw_iff.2 (by have := f.street; omega)
 refine z9 func84 rfl (fun E hE => ?_); simp only [go_sem, ntmps84]
 repeat' (first | (refine Qr rfl ?_; try intro _ hK; try simp only [go_sem, *]) | (refine Qi rfl rfl rfl rfl ?_ ?_ <;> (intro hb; (try intro _ hK); have hc := hb; try simp only [go_sem] at hc; simp only [go_sem, *])) | refine Qh rfl ?_ | refine Qd rfl (by kernel_rfl) ?_ | (refine Qc rfl rfl ?_ ?_ <;> (intro hb; have hc := hb; try simp only [go_sem] at hc)) | refine z6 rfl ?_ | (refine Qb ?_ ?_; focus kernel_rfl) | ((first | refine z8 (t9 _ _ _) ?_ | refine z8 (T8) ?_); simp only [go_sem, *]) | (refine u3 (V5 p v) ?_; simp only [go_sem, *]) | ((with_reducible apply And.intro); focus omega) | (refine z5 hK ?_; clear hK; simp only [go_sem, *]) | simp only [z3, z4, go_sem, *])
 refine x8 [2] [] (zJE p c v f k) (by simp) (by simp only [go_sem, *]) (by simp only [go_sem, AObj.live, *]) (by simp) (.inl rfl) (by simp [go_sem]) (by simp [zNe]; split <;> simp) ?_
 simp only [go_sem, *]
 repeat' (first | (refine Qr rfl ?_; try intro _ hK; try simp only [go_sem, *]) | (refine Qi rfl rfl rfl rfl ?_ ?_ <;> (intro hb; (try intro _ hK); have hc := hb; try simp only [go_sem] at hc; simp only [go_sem, *])) | refine Qh rfl ?_ | refine Qd rfl (by kernel_rfl) ?_ | (refine Qc rfl rfl ?_ ?_ <;> (intro hb; have hc := hb; try simp only [go_sem] at hc)) | refine z6 rfl ?_ | (refine Qb ?_ ?_; focus kernel_rfl) | ((with_reducible apply And.intro); focus omega) | (refine z5 hK ?_; clear hK; simp only [go_sem, *]) | simp only [z3, z4, go_sem, *])
 ·have h : ¬ y5 p c = 0 := by assumption
  have e1 : zNa p c = .tup [.raw (.map none), iV (y5 p c)] := by simp [zNa, h]
  have e2 : zNZ p c = [] := by simp [zNZ, h]
  refine ⟨[_, _], [], [], ⟨rfl, rfl, trivial⟩, ?_⟩
  simp only [go_sem, e1, e2]
 ·have h : y5 p c = 0 := by assumption
  have e1 : zNa p c = .tup [.mp 0, iV 0] := by simp [zNa, h]
  have e2 : zNZ p c = [.mapo (y7 p) (y6 p (mv p c))] := by simp [zNZ, h]
  have e3 := Z3 h
  refine ⟨[_, _], [some 2], [], ⟨rfl, rfl, trivial⟩, ?_⟩
  simp only [go_sem, e1, e2, e3, AObj.ren]
theorem zE0 (p : zNU) (c : Change) (v : Valid p) (f : Pre p c) (k : c.kind = 3) (hco : (c.other != 0) = false) (hsz : (c.src.number == 0 && c.src.letter == 0) = true) (hdz : (c.dst.number == 0 && c.dst.letter == 0) = true) : zNV prog 84 [y3 p, c.enc] [] (zNa p c) (zNZ p c) := by
 have hwl : IntKind.i64.wrap ((p.length : Int) - 1) = (p.length : Int) - 1 := by have := v.len; exact wrap_i64 (by omega) (by omega)
 have hbs : zNX c.street 0 ((p.length : Int) - 1) = true := betw_iff.2 (by have := f.street; omega)
 refine z9 func84 rfl (fun E hE => ?_); simp only [go_sem, ntmps84]
 repeat' (first | (refine Qr rfl ?_; try intro _ hK; try simp only [go_sem, *]) | (refine Qi rfl rfl rfl rfl ?_ ?_ <;> (intro hb; (try intro _ hK); have hc := hb; try simp only [go_sem] at hc; simp only [go_sem, *])) | refine Qh rfl ?_ | refine Qd rfl (by kernel_rfl) ?_ | (refine Qc rfl rfl ?_ ?_ <;> (intro hb; have hc := hb; try simp only [go_sem] at hc)) | refine z6 rfl ?_ | (refine Qb ?_ ?_; focus kernel_rfl) | ((first | refine z8 (t9 _ _ _) ?_ | refine z8 (T8) ?_); simp only [go_sem, *]) | (refine u3 (V5 p v) ?_; simp only [go_sem, *]) | ((with_reducible apply And.intro); focus omega) | (refine z5 hK ?_; clear hK; simp only [go_sem, *]) | simp only [z3, z4, go_sem, *])
 refine x8 [2] [] (zJF p c v f k) (by simp) (by simp only [go_sem, *]) (by simp only [go_sem, AObj.live, *]) (by simp) (.inl rfl) (by simp [go_sem]) (by simp [zNe]; split <;> simp) ?_
 simp only [go_sem, *]
 repeat' (first | (refine Qr rfl ?_; try intro _ hK; try simp only [go_sem, *]) | (refine Qi rfl rfl rfl rfl ?_ ?_ <;> (intro hb; (try intro _ hK); have hc := hb; try simp only [go_sem] at hc; simp only [go_sem, *])) | refine Qh rfl ?_ | refine Qd rfl (by kernel_rfl) ?_ | (refine Qc rfl rfl ?_ ?_ <;> (intro hb; have hc := hb; try simp only [go_sem] at hc)) | refine z6 rfl ?_ | (refine Qb ?_ ?_; focus kernel_rfl) | ((with_reducible apply And.intro); focus omega) | (refine z5 hK ?_; clear hK; simp only [go_sem, *]) | simp only [z3, z4, go_sem, *])
 ·have h : ¬ y5 p c = 0 := by assumption
  have e1 : zNa p c = .tup [.raw (.map none), iV (y5 p c)] := by simp [zNa, h]
  have e2 : zNZ p c = [] := by simp [zNZ, h]
  refine ⟨[_, _], [], [], ⟨rfl, rfl, trivial⟩, ?_⟩
  simp only [go_sem, e1, e2]
 ·have h : y5 p c = 0 := by assumption
  have e1 : zNa p c = .tup [.mp 0, iV 0] := by simp [zNa, h]
  have e2 : zNZ p c = [.mapo (y7 p) (y6 p (mv p c))] := by simp [zNZ, h]
  have e3 := Z3 h
  refine ⟨[_, _], [some 2], [], ⟨rfl, rfl, trivial⟩, ?_⟩
  simp only [go_sem, e1, e2, e3, AObj.ren]
theorem zE1 (p : zNU) (c : Change) (v : Valid p) (f : Pre p c) (k : c.kind = 4) (hbo : zNX c.other 0 ((p.length : Int) - 1) = true) (hrp : (c.other == c.street) = false) (hsz : (c.src.number == 0 && c.src.letter == 0) = true) (hdz : (c.dst.number == 0 && c.dst.letter == 0) = true) : zNV prog 84 [y3 p, c.enc] [] (zNa p c) (zNZ p c) := by
 have hwl : IntKind.i64.wrap ((p.length : Int) - 1) = (p.length : Int) - 1 := by have := v.len; exact wrap_i64 (by omega) (by omega)
 have hbs : zNX c.street 0 ((p.length : Int) - 1) = true := betw_iff.2 (by have := f.street; omega)
 refine z9 func84 rfl (fun E hE => ?_); simp only [go_sem, ntmps84]
 repeat' (first | (refine Qr rfl ?_; try intro _ hK; try simp only [go_sem, *]) | (refine Qi rfl rfl rfl rfl ?_ ?_ <;> (intro hb; (try intro _ hK); have hc := hb; try simp only [go_sem] at hc; simp only [go_sem, *])) | refine Qh rfl ?_ | refine Qd rfl (by kernel_rfl) ?_ | (refine Qc rfl rfl ?_ ?_ <;> (intro hb; have hc := hb; try simp only [go_sem] at hc)) | refine z6 rfl ?_ | (refine Qb ?_ ?_; focus kernel_rfl) | ((first | refine z8 (t9 _ _ _) ?_ | refine z8 (T8) ?_); simp only [go_sem, *]) | (refine u3 (V5 p v) ?_; simp only [go_sem, *]) | ((with_reducible apply And.intro); focus omega) | (refine z5 hK ?_; clear hK; simp only [go_sem, *]) | simp only [z3, z4, go_sem, *])
 refine x8 [2] [] (zJC p c v f k) (by simp) (by simp only [go_sem, *]) (by simp only [go_sem, AObj.live, *]) (by simp) (.inl rfl) (by simp [go_sem]) (by simp [zNe]; split <;> simp) ?_
 simp only [go_sem, *]
 repeat' (first | (refine Qr rfl ?_; try intro _ hK; try simp only [go_sem, *]) | (refine Qi rfl rfl rfl rfl ?_ ?_ <;> (intro hb; (try intro _ hK); have hc := hb; try simp only [go_sem] at hc; simp only [go_sem, *])) | refine Qh rfl ?_ | refine Qd rfl (by kernel_rfl) ?_ | (refine Qc rfl rfl ?_ ?_ <;> (intro hb; have hc := hb; try simp only [go_sem] at hc)) | refine z6 rfl ?_ | (refine Qb ?_ ?_; focus kernel_rfl) | ((with_reducible apply And.intro); focus omega) | (refine z5 hK ?_; clear hK; simp only [go_sem, *]) | simp only [z3, z4, go_sem, *])
 ·have h : ¬ y5 p c = 0 := by assumption
  have e1 : zNa p c = .tup [.raw (.map none), iV (y5 p c)] := by simp [zNa, h]
  have e2 : zNZ p c = [] := by simp [zNZ, h]
  refine ⟨[_, _], [], [], ⟨rfl, rfl, trivial⟩, ?_⟩
  simp only [go_sem, e1, e2]
 ·have h : y5 p c = 0 := by assumption
  have e1 : zNa p c = .tup [.mp 0, iV 0] := by simp [zNa, h]
  have e2 : zNZ p c = [.mapo (y7 p) (y6 p (mv p c))] := by simp [zNZ, h]
  have e3 := Z3 h
  refine ⟨[_, _], [some 2], [], ⟨rfl, rfl, trivial⟩, ?_⟩
  simp only [go_sem, e1, e2, e3, AObj.ren]
theorem zE2 (p : zNU) (c : Change) (v : Valid p) (f : Pre p c) (k : c.kind = 5) (hco : (c.other != 0) = false) (hdz : (c.dst.number == 0 && c.dst.letter == 0) = true) : zNV prog 84 [y3 p, c.enc] [] (zNa p c) (zNZ p c) := by
 have hwl : IntKind.i64.wrap ((p.length : Int) - 1) = (p.length : Int) - 1 := by have := v.len; exact wrap_i64 (by omega) (by omega)
 have hbs : zNX c.street 0 ((p.length : Int) - 1) = true := betw_iff.2 (by have := f.street; omega)
 refine z9 func84 rfl (fun E hE => ?_); simp only [go_sem, ntmps84]
 repeat' (first | (refine Qr rfl ?_; try intro _ hK; try simp only [go_sem, *]) | (refine Qi rfl rfl rfl rfl ?_ ?_ <;> (intro hb; (try intro _ hK); have hc := hb; try simp only [go_sem] at hc; simp only [go_sem, *])) | refine Qh rfl ?_ | refine Qd rfl (by kernel_rfl) ?_ | (refine Qc rfl rfl ?_ ?_ <;> (intro hb; have hc := hb; try simp only [go_sem] at hc)) | refine z6 rfl ?_ | (refine Qb ?_ ?_; focus kernel_rfl) | ((first | refine z8 (t9 _ _ _) ?_ | refine z8 (T8) ?_); simp only [go_sem, *]) | (refine u3 (V5 p v) ?_; simp only [go_sem, *]) | ((with_reducible apply And.intro); focus omega) | (refine z5 hK ?_; clear hK; simp only [go_sem, *]) | simp only [z3, z4, go_sem, *])
 refine x8 [2] [] (zI2 p c v f k) (by simp) (by simp only [go_sem, *]) (by simp only [go_sem, AObj.live, *]) (by simp) (.inl rfl) (by simp [go_sem]) (by simp [zNe]; split <;> simp) ?_
 simp only [go_sem, *]
 repeat' (first | (refine Qr rfl ?_; try intro _ hK; try simp only [go_sem, *]) | (refine Qi rfl rfl rfl rfl ?_ ?_ <;> (intro hb; (try intro _ hK); have hc := hb; try simp only [go_sem] at hc; simp only [go_sem, *])) | refine Qh rfl ?_ | refine Qd rfl (by kernel_rfl) ?_ | (refine Qc rfl rfl ?_ ?_ <;> (intro hb; have hc := hb; try simp only [go_sem] at hc)) | refine z6 rfl ?_ | (refine Qb ?_ ?_; focus kernel_rfl) | ((with_reducible apply And.intro); focus omega) | (refine z5 hK ?_; clear hK; simp only [go_sem, *]) | simp only [z3, z4, go_sem, *])
 ·have h : ¬ y5 p c = 0 := by assumption
  have e1 : zNa p c = .tup [.raw (.map none), iV (y5 p c)] := by simp [zNa, h]
  have e2 : zNZ p c = [] := by simp [zNZ, h]
  refine ⟨[_, _], [], [], ⟨rfl, rfl, trivial⟩, ?_⟩
  simp only [go_sem, e1, e2]
 ·have h : y5 p c = 0 := by assumption
  have e1 : zNa p c = .tup [.mp 0, iV 0] := by simp [zNa, h]
  have e2 : zNZ p c = [.mapo (y7 p) (y6 p (mv p c))] := by simp [zNZ, h]
  have e3 := Z3 h
  refine ⟨[_, _], [some 2], [], ⟨rfl, rfl, trivial⟩, ?_⟩
  simp only [go_sem, e1, e2, e3, AObj.ren]
theorem zE3 (p : zNU) (c : Change) (v : Valid p) (f : Pre p c) (k : c.kind = 6) (hco : (c.other != 0) = false) (hdz : (c.dst.number == 0 && c.dst.letter == 0) = true) : zNV prog 84 [y3 p, c.enc] [] (zNa p c) (zNZ p c) := by
 have hwl : IntKind.i64.wrap ((p.length : Int) - 1) = (p.length : Int) - 1 := by have := v.len; exact wrap_i64 (by omega) (by omega)
 have hbs : zNX c.street 0 ((p.length : Int) - 1) = true := betw_iff.2 (by have := f.street; omega)
 refine z9 func84 rfl (fun E hE => ?_); simp only [go_sem, ntmps84]
 repeat' (first | (refine Qr rfl ?_; try intro _ hK; try simp only [go_sem, *]) | (refine Qi rfl rfl rfl rfl ?_ ?_ <;> (intro hb; (try intro _ hK); have hc := hb; try simp only [go_sem] at hc; simp only [go_sem, *])) | refine Qh rfl ?_ | refine Qd rfl (by kernel_rfl) ?_ | (refine Qc rfl rfl ?_ ?_ <;> (intro hb; have hc := hb; try simp only [go_sem] at hc)) | refine z6 rfl ?_ | (refine Qb ?_ ?_; focus kernel_rfl) | ((first | refine z8 (t9 _ _ _) ?_ | refine z8 (T8) ?_); simp only [go_sem, *]) | (refine u3 (V5 p v) ?_; simp only [go_sem, *]) | ((with_reducible apply And.intro); focus omega) | (refine z5 hK ?_; clear hK; simp only [go_sem, *]) | simp only [z3, z4, go_sem, *])
 refine x8 [2] [] (zI3 p c v f k) (by simp) (by simp only [go_sem, *]) (by simp only [go_sem, AObj.live, *]) (by simp) (.inl rfl) (by simp [go_sem]) (by simp [zNe]; split <;> simp) ?_
 simp only [go_sem, *]
 repeat' (first | (refine Qr rfl ?_; try intro _ hK; try simp only [go_sem, *]) | (refine Qi rfl rfl rfl rfl ?_ ?_ <;> (intro hb; (try intro _ hK); have hc := hb; try simp only [go_sem] at hc; simp only [go_sem, *])) | refine Qh rfl ?_ | refine Qd rfl (by kernel_rfl) ?_ | (refine Qc rfl rfl ?_ ?_ <;> (intro hb; have hc := hb; try simp only [go_sem] at hc)) | refine z6 rfl ?_ | (refine Qb ?_ ?_; focus kernel_rfl) | ((with_reducible apply And.intro); focus omega) | (refine z5 hK ?_; clear hK; simp only [go_sem, *]) | simp only [z3, z4, go_sem, *])
 ·have h : ¬ y5 p c = 0 := by assumption
  have e1 : zNa p c = .tup [.raw (.map none), iV (y5 p c)] := by simp [zNa, h]
  have e2 : zNZ p c = [] := by simp [zNZ, h]
  refine ⟨[_, _], [], [], ⟨rfl, rfl, trivial⟩, ?_⟩
  simp only [go_sem, e1, e2]
 ·have h : y5 p c = 0 := by assumption
  have e1 : zNa p c = .tup [.mp 0, iV 0] := by simp [zNa, h]
  have e2 : zNZ p c = [.mapo (y7 p) (y6 p (mv p c))] := by simp [zNZ, h]
  have e3 := Z3 h
  refine ⟨[_, _], [some 2], [], ⟨rfl, rfl, trivial⟩, ?_⟩
  simp only [go_sem, e1, e2, e3, AObj.ren]
theorem zE4 (p : zNU) (c : Change) (v : Valid p) (f : Pre p c) (k : c.kind = 7) (hbo : zNX c.other 0 ((p.length : Int) - 1) = true) (hrp : (c.other == c.street) = false) : zNV prog 84 [y3 p, c.enc] [] (zNa p c) (zNZ p c) := by
 have hwl : IntKind.i64.wrap ((p.length : Int) - 1) = (p.length : Int) - 1 := by have := v.len; exact wrap_i64 (by omega) (by omega)
 have hbs : zNX c.street 0 ((p.length : Int) - 1) = true := betw_iff.2 (by have := f.street; omega)
 refine z9 func84 rfl (fun E hE => ?_); simp only [go_sem, ntmps84]
 repeat' (first | (refine Qr rfl ?_; try intro _ hK; try simp only [go_sem, *]) | (refine Qi rfl rfl rfl rfl ?_ ?_ <;> (intro hb; (try intro _ hK); have hc := hb; try simp only [go_sem] at hc; simp only [go_sem, *])) | refine Qh rfl ?_ | refine Qd rfl (by kernel_rfl) ?_ | (refine Qc rfl rfl ?_ ?_ <;> (intro hb; have hc := hb; try simp only [go_sem] at hc)) | refine z6 rfl ?_ | (refine Qb ?_ ?_; focus kernel_rfl) | ((first | refine z8 (t9 _ _ _) ?_ | refine z8 (T8) ?_); simp only [go_sem, *]) | (refine u3 (V5 p v) ?_; simp only [go_sem, *]) | ((with_reducible apply And.intro); focus omega) | (refine z5 hK ?_; clear hK; simp only [go_sem, *]) | simp only [z3, z4, go_sem, *])
 refine x8 [2] [] (zI1 p c v f k) (by simp) (by simp only [go_sem, *]) (by simp only [go_sem, AObj.live, *]) (by simp) (.inl rfl) (by simp [go_sem]) (by simp [zNe]; split <;> simp) ?_
 simp only [go_sem, *]
 repeat' (first | (refine Qr rfl ?_; try intro _ hK; try simp only [go_sem, *]) | (refine Qi rfl rfl rfl rfl ?_ ?_ <;> (intro hb; (try intro _ hK); have hc := hb; try simp only [go_sem] at hc; simp only [go_sem, *])) | refine Qh rfl ?_ | refine Qd rfl (by kernel_rfl) ?_ | (refine Qc rfl rfl ?_ ?_ <;> (intro hb; have hc := hb; try simp only [go_sem] at hc)) | refine z6 rfl ?_ | (refine Qb ?_ ?_; focus kernel_rfl) | ((with_reducible apply And.intro); focus omega) | (refine z5 hK ?_; clear hK; simp only [go_sem, *]) | simp only [z3, z4, go_sem, *])
 ·have h : ¬ y5 p c = 0 := by assumption
  have e1 : zNa p c = .tup [.raw (.map none), iV (y5 p c)] := by simp [zNa, h]
  have e2 : zNZ p c = [] := by simp [zNZ, h]
  refine ⟨[_, _], [], [], ⟨rfl, rfl, trivial⟩, ?_⟩
  simp only [go_sem, e1, e2]
 ·have h : y5 p c = 0 := by assumption
  have e1 : zNa p c = .tup [.mp 0, iV 0] := by simp [zNa, h]
  have e2 : zNZ p c = [.mapo (y7 p) (y6 p (mv p c))] := by simp [zNZ, h]
  have e3 := Z3 h
  refine ⟨[_, _], [some 2], [], ⟨rfl, rfl, trivial⟩, ?_⟩
  simp only [go_sem, e1, e2, e3, AObj.ren]
end Go.Abs

namespace Go.Abs
open Go Go.Proofs Tryz
attribute [local irreducible] q8 Hold y4
theorem zHZ (cf : Plate → Plate → Int) (xs : List Plate) : xs = w8 cf (xs.take 1) ++ xs.drop 1 := by
 cases xs with
 | nil => rfl
 | cons x r => simp [w8, zNk, zNy]
def D7 (cf : Plate → Plate → Int) (xs cur : List Plate) (i : Nat) : Prop := cur = w8 cf (xs.take (i + 1)) ++ xs.drop (i + 1)
theorem zJA {f : Nat} {cf : Plate → Plate → Int} (hc : r8 prog f = true) (hf : ∀ a b : Plate, zNV prog f [a.enc, b.enc] [] (iV (cf a b)) []) (xs : List Plate) (h1 : xs.length ≤ 12) :
  zNV prog 131 [.own 0 2 0 xs.length, iV 0, iV xs.length, fnV f] [.row 2 (xs.map Plate.enc)] (.tup []) [.row 2 ((w8 cf xs).map Plate.enc)] := by
 refine z9 func131 rfl (fun E hE => ?_); simp only [go_sem, ntmps131]
 have hw0 : IntKind.i64.wrap 1 = (1 : Int) := wrap_i64 (by omega) (by omega)
 repeat' (first | (refine Qr rfl ?_; try intro _ hK; try simp only [go_sem, *]) | (refine Qi rfl rfl rfl rfl ?_ ?_ <;> (intro hb; (try intro _ hK); have hc := hb; try simp only [go_sem] at hc; simp only [go_sem, *])) | refine Qh rfl ?_ | refine Qd rfl (by kernel_rfl) ?_ | (refine Qc rfl rfl ?_ ?_ <;> (intro hb; have hc := hb; try simp only [go_sem] at hc)) | refine z6 rfl ?_ | (refine Qb ?_ ?_; focus kernel_rfl) | ((with_reducible apply And.intro); focus omega) | (refine z5 hK ?_; clear hK; simp only [go_sem, *]) | simp only [z3, z4, go_sem, *])
 refine v9 rfl (xs.length) (fun i (cur : List Plate) => D7 cf xs cur i) 53 (fun i cur => [(8, iV ((i : Int) + 1)), (0, .own 0 2 0 xs.length), (1, iV 0), (2, iV xs.length), (3, fnV f)]) (fun i cur => [.row 2 (cur.map Plate.enc)]) [some 0] [] (xs) (by exact zHZ cf xs) ?_; intro i cur hi hP
 have hw : i < xs.length → IntKind.i64.wrap ((i : Int) + 1 + 1) = (((i + 1 : Nat) : Int) + 1) := fun h => by rw [wrap_i64 (by omega) (by omega)]; omega
 have hcm : ((i : Int) + 1 < (xs.length : Int)) = (i + 1 < xs.length) := by simp only [eq_iff_iff]; omega
 repeat' (first | (refine Qr rfl ?_; try intro _ hK; try simp only [go_sem, *]) | (refine Qi rfl rfl rfl rfl ?_ ?_ <;> (intro hb; (try intro _ hK); have hc := hb; try simp only [go_sem] at hc; simp only [go_sem, *])) | refine Qh rfl ?_ | refine Qd rfl (by kernel_rfl) ?_ | (refine Qc rfl rfl ?_ ?_ <;> (intro hb; have hc := hb; try simp only [go_sem] at hc)) | refine z6 rfl ?_ | (refine Qb ?_ ?_; focus kernel_rfl) | ((with_reducible apply And.intro); focus omega) | (refine z5 hK ?_; clear hK; simp only [go_sem, *]) | simp only [z3, z4, go_sem, *])
 ·have hlt : i + 1 < xs.length := by assumption
  have hlt' : i < xs.length := by omega
  obtain ⟨S, hS⟩ : ∃ S, S = w8 cf (xs.take (i + 1)) := ⟨_, rfl⟩
  have hSl : S.length = i + 1 := by rw [hS, G5]; simp; try omega
  obtain ⟨x, hx⟩ : ∃ x, x = xs.getD (i + 1) default := ⟨_, rfl⟩
  obtain ⟨R, hR⟩ : ∃ R, R = xs.drop (i + 1 + 1) := ⟨_, rfl⟩
  have hcur : cur = S ++ x :: R := by
   unfold D7 at hP
   rw [hP, hS, hx, hR, v3 hlt]
  have hfin : zNk cf S x ++ R = w8 cf (xs.take (i + 1 + 1)) ++ xs.drop (i + 1 + 1) := by
   rw [hS, hx, hR, zDZ hlt, zB9]
  have hst : InsP cf S x R cur 0 := by rw [hcur]; exact InsP.start cf S x R
  have hRl : R.length = xs.length - (i + 2) := by rw [hR]; simp; try omega
  clear hS hx hR hcur hP
  refine v9 rfl (i + 1) (fun d (cur : List Plate) => InsP cf S x R cur d) 53 (fun d cur => [(9, iV (((i + 1) - d : Nat) : Int)), (8, iV ((i : Int) + 1)), (0, .own 0 2 0 xs.length), (1, iV 0), (2, iV xs.length), (3, fnV f)]) (fun d cur => [.row 2 (cur.map Plate.enc)]) [some 0] [] (cur) (by exact hst) ?_; intro d cur hd hQ
  have hcl : cur.length = xs.length := by rw [hQ.1, zBU]; omega
  have gx : cur.getD (i + 1 - d) default = x := by rw [hQ.1, ← hSl]; exact zBV S x R (by omega)
  have gy : d < i + 1 → cur.getD (i + 1 - d - 1) default = S.getD (i + 1 - d - 1) default := fun h => by rw [hQ.1, ← hSl]; exact zBW S x R (by omega)
  have hwk : 0 < i + 1 - d → IntKind.i64.wrap (((i + 1 - d : Nat) : Int) - 1) = ((i + 1 - d - 1 : Nat) : Int) := fun h => by rw [wrap_i64 (by omega) (by omega)]; omega
  have hnx : i + 1 - (d + 1) = i + 1 - d - 1 := by omega
  have hkl : i + 1 - d < xs.length := by omega
  have hkl1 : i + 1 - d - 1 < xs.length := by omega
  have hd1 : 0 < i + 1 - d → d < i + 1 := fun h => by omega
  repeat' (first | (refine Qr rfl ?_; try intro _ hK; try simp only [go_sem, *]) | (refine Qi rfl rfl rfl rfl ?_ ?_ <;> (intro hb; (try intro _ hK); have hc := hb; try simp only [go_sem] at hc; simp only [go_sem, *])) | refine Qh rfl ?_ | refine Qd rfl (by kernel_rfl) ?_ | (refine Qc rfl rfl ?_ ?_ <;> (intro hb; have hc := hb; try simp only [go_sem] at hc)) | refine z6 rfl ?_ | (refine Qb ?_ ?_; focus kernel_rfl) | (refine z8 (hf _ _) ?_; simp only [go_sem, *]) | ((with_reducible apply And.intro); focus omega) | (refine z5 hK ?_; clear hK; simp only [go_sem, *]) | simp only [z3, z4, go_sem, *])
  ·exact x9 (i' := d + 1) [some 0] [] ((cur.set (i + 1 - d) (S.getD (i + 1 - d - 1) default)).set (i + 1 - d - 1) x) (by have := InsP.next cf hQ (by omega) (by rw [hSl]; assumption); rwa [hSl] at this)
  ·have hs := InsP.stop cf hQ (by omega) (fun _ => by rw [hSl]; omega)
   exact x9 (i' := i + 1) [some 0] [] (cur) (by rw [hs]; exact hfin)
  ·have hs := InsP.stop cf hQ (by omega) (fun h => by omega)
   exact x9 (i' := i + 1) [some 0] [] (cur) (by rw [hs]; exact hfin)
 ·refine ⟨[], [some 0], [], trivial, ?_⟩
  have e1 : xs.take (i + 1) = xs := List.take_of_length_le (by omega)
  have e2 : xs.drop (i + 1) = [] := u0 (by omega)
  unfold D7 at hP
  rw [e1, e2, List.append_nil] at hP
  rw [hP]
  simp only [go_sem, Z4, *]
end Go.Abs

namespace Go.Abs
open Go Go.Proofs Tryz
attribute [local irreducible] q8 Hold y4
theorem zHY (cf : House → House → Int) (xs : List House) : xs = w8 cf (xs.take 1) ++ xs.drop 1 := by
 cases xs with
 | nil => rfl
 | cons x r => simp [w8, zNk, zNy]
def D6 (cf : House → House → Int) (xs cur : List House) (i : Nat) : Prop := cur = w8 cf (xs.take (i + 1)) ++ xs.drop (i + 1)
theorem zI9 {f : Nat} {cf : House → House → Int} (hc : r8 prog f = true) (hf : ∀ a b : House, zNV prog f [a.enc, b.enc] [] (iV (cf a b)) []) (xs : List House) (h1 : xs.length ≤ 12) :
  zNV prog 141 [.own 0 3 0 xs.length, iV 0, iV xs.length, fnV f] [.row 3 (xs.map House.enc)] (.tup []) [.row 3 ((w8 cf xs).map House.enc)] := by
 refine z9 func141 rfl (fun E hE => ?_); simp only [go_sem, ntmps141]
 have hw0 : IntKind.i64.wrap 1 = (1 : Int) := wrap_i64 (by omega) (by omega)
 repeat' (first | (refine Qr rfl ?_; try intro _ hK; try simp only [go_sem, *]) | (refine Qi rfl rfl rfl rfl ?_ ?_ <;> (intro hb; (try intro _ hK); have hc := hb; try simp only [go_sem] at hc; simp only [go_sem, *])) | refine Qh rfl ?_ | refine Qd rfl (by kernel_rfl) ?_ | (refine Qc rfl rfl ?_ ?_ <;> (intro hb; have hc := hb; try simp only [go_sem] at hc)) | refine z6 rfl ?_ | (refine Qb ?_ ?_; focus kernel_rfl) | ((with_reducible apply And.intro); focus omega) | (refine z5 hK ?_; clear hK; simp only [go_sem, *]) | simp only [z3, z4, go_sem, *])
 refine v9 rfl (xs.length) (fun i (cur : List House) => D6 cf xs cur i) 53 (fun i cur => [(8, iV ((i : Int) + 1)), (0, .own 0 3 0 xs.length), (1, iV 0), (2, iV xs.length), (3, fnV f)]) (fun i cur => [.row 3 (cur.map House.enc)]) [some 0] [] (xs) (by exact zHY cf xs) ?_; intro i cur hi hP
 have hw : i < xs.length → IntKind.i64.wrap ((i : Int) + 1 + 1) = (((i + 1 : Nat) : Int) + 1) := fun h => by rw [wrap_i64 (by omega) (by omega)]; omega
 have hcm : ((i : Int) + 1 < (xs.length : Int)) = (i + 1 < xs.length) := by simp only [eq_iff_iff]; omega
 repeat' (first | (refine Qr rfl ?_; try intro _ hK; try simp only [go_sem, *]) | (refine Qi rfl rfl rfl rfl ?_ ?_ <;> (intro hb; (try intro _ hK); have hc := hb; try simp only [go_sem] at hc; simp only [go_sem, *])) | refine Qh rfl ?_ | refine Qd rfl (by kernel_rfl) ?_ | (refine Qc rfl rfl ?_ ?_ <;> (intro hb; have hc := hb; try simp only [go_sem] at hc)) | refine z6 rfl ?_ | (refine Qb ?_ ?_; focus kernel_rfl) | ((with_reducible apply And.intro); focus omega) | (refine z5 hK ?_; clear hK; simp only [go_sem, *]) | simp only [z3, z4, go_sem, *])
 ·have hlt : i + 1 < xs.length := by assumption
  have hlt' : i < xs.length := by omega
  obtain ⟨S, hS⟩ : ∃ S, S = w8 cf (xs.take (i + 1)) := ⟨_, rfl⟩
  have hSl : S.length = i + 1 := by rw [hS, G5]; simp; try omega
  obtain ⟨x, hx⟩ : ∃ x, x = xs.getD (i + 1) default := ⟨_, rfl⟩
  obtain ⟨R, hR⟩ : ∃ R, R = xs.drop (i + 1 + 1) := ⟨_, rfl⟩
  have hcur : cur = S ++ x :: R := by
   unfold D6 at hP
   rw [hP, hS, hx, hR, v3 hlt]
  have hfin : zNk cf S x ++ R = w8 cf (xs.take (i + 1 + 1)) ++ xs.drop (i + 1 + 1) := by
   rw [hS, hx, hR, zDZ hlt, zB9]
  have hst : InsP cf S x R cur 0 := by rw [hcur]; exact InsP.start cf S x R
  have hRl : R.length = xs.length - (i + 2) := by rw [hR]; simp; try omega
  clear hS hx hR hcur hP
  refine v9 rfl (i + 1) (fun d (cur : List House) => InsP cf S x R cur d) 53 (fun d cur => [(9, iV (((i + 1) - d : Nat) : Int)), (8, iV ((i : Int) + 1)), (0, .own 0 3 0 xs.length), (1, iV 0), (2, iV xs.length), (3, fnV f)]) (fun d cur => [.row 3 (cur.map House.enc)]) [some 0] [] (cur) (by exact hst) ?_; intro d cur hd hQ
  have hcl : cur.length = xs.length := by rw [hQ.1, zBU]; omega
  have gx : cur.getD (i + 1 - d) default = x := by rw [hQ.1, ← hSl]; exact zBV S x R (by omega)
  have gy : d < i + 1 → cur.getD (i + 1 - d - 1) default = S.getD (i + 1 - d - 1) default := fun h => by rw [hQ.1, ← hSl]; exact zBW S x R (by omega)
  have hwk : 0 < i + 1 - d → IntKind.i64.wrap (((i + 1 - d : Nat) : Int) - 1) = ((i + 1 - d - 1 : Nat) : Int) := fun h => by rw [wrap_i64 (by omega) (by omega)]; omega
  have hnx : i + 1 - (d + 1) = i + 1 - d - 1 := by omega
  have hkl : i + 1 - d < xs.length := by omega
  have hkl1 : i + 1 - d - 1 < xs.length := by omega
  have hd1 : 0 < i + 1 - d → d < i + 1 := fun h => by omega
  repeat' (first | (refine Qr rfl ?_; try intro _ hK; try simp only [go_sem, *]) | (refine Qi rfl rfl rfl rfl ?_ ?_ <;> (intro hb; (try intro _ hK); have hc := hb; try simp only [go_sem] at hc; simp only [go_sem, *])) | refine Qh rfl ?_ | refine Qd rfl (by kernel_rfl) ?_ | (refine Qc rfl rfl ?_ ?_ <;> (intro hb; have hc := hb; try simp only [go_sem] at hc)) | refine z6 rfl ?_ | (refine Qb ?_ ?_; focus kernel_rfl) | (refine z8 (hf _ _) ?_; simp only [go_sem, *]) | ((with_reducible apply And.intro); focus omega) | (refine z5 hK ?_; clear hK; simp only [go_sem, *]) | simp only [z3, z4, go_sem, *])
  ·exact x9 (i' := d + 1) [some 0] [] ((cur.set (i + 1 - d) (S.getD (i + 1 - d - 1) default)).set (i + 1 - d - 1) x) (by have := InsP.next cf hQ (by omega) (by rw [hSl]; assumption); rwa [hSl] at this)
  ·have hs := InsP.stop cf hQ (by omega) (fun _ => by rw [hSl]; omega)
   exact x9 (i' := i + 1) [some 0] [] (cur) (by rw [hs]; exact hfin)
  ·have hs := InsP.stop cf hQ (by omega) (fun h => by omega)
   exact x9 (i' := i + 1) [some 0] [] (cur) (by rw [hs]; exact hfin)
 ·refine ⟨[], [some 0], [], trivial, ?_⟩
  have e1 : xs.take (i + 1) = xs := List.take_of_length_le (by omega)
  have e2 : xs.drop (i + 1) = [] := u0 (by omega)
  unfold D6 at hP
  rw [e1, e2, List.append_nil] at hP
  rw [hP]
  simp only [go_sem, Z4, *]
end Go.Abs

namespace Go.Abs
open Go Go.Proofs Tryz
attribute [local irreducible] q8 Hold y4
theorem wrap_u64 {n : Int} (h0 : 0 ≤ n) (h1 : n ≤ 1000) : IntKind.u64.wrap n = n := by
 simp [IntKind.wrap, IntKind.signed, IntKind.bits]; omega
theorem zJ0 {n : Int} (h0 : 0 ≤ n) (h1 : n ≤ 200) : IntKind.u8.wrap n = n := by
 simp [IntKind.wrap, IntKind.signed, IntKind.bits]; omega
theorem zIn (n : Nat) (h : n ≤ 12) : zNV prog 140 [.raw (.int .u64 n)] [] .any [] := by
 have hw8 : IntKind.u8.wrap (n : Int) = (n : Int) := zJ0 (by omega) (by omega)
 have h1 : ((4294967296 : Int) ≤ (n : Int)) = False := by simp only [eq_iff_iff, iff_false]; omega
 have h2 : ((65536 : Int) ≤ (n : Int)) = False := by simp only [eq_iff_iff, iff_false]; omega
 have h3 : ((256 : Int) ≤ (n : Int)) = False := by simp only [eq_iff_iff, iff_false]; omega
 refine z9 func140 rfl (fun E hE => ?_); simp only [go_sem, ntmps140]
 repeat' (first | (refine Qr rfl ?_; try intro _ hK; try simp only [go_sem, *]) | refine Qh rfl ?_ | (refine Qc rfl rfl ?_ ?_ <;> (intro hb; have hc := hb; try simp only [go_sem] at hc)) | refine z6 rfl ?_ | ((with_reducible apply And.intro); focus omega) | (refine z5 hK ?_; clear hK; simp only [go_sem, *]) | simp only [z3, z4, go_sem, *])
 refine ⟨Nat.lt_of_le_of_lt h (by decide), ?_⟩
 repeat' (first | (refine Qr rfl ?_; try intro _ hK; try simp only [go_sem, *]) | refine Qh rfl ?_ | (refine Qc rfl rfl ?_ ?_ <;> (intro hb; have hc := hb; try simp only [go_sem] at hc)) | refine z6 rfl ?_ | ((with_reducible apply And.intro); focus omega) | (refine z5 hK ?_; clear hK; simp only [go_sem, *]) | simp only [z3, z4, go_sem, *])
 all_goals (refine ⟨[_], [], [], ⟨rfl, trivial⟩, ?_⟩; simp only [go_sem])
theorem zDB (n : Nat) (h : n ≤ 12) : zNV prog 111 [.raw (.int .u64 n)] [] .any [] := by
 refine z9 func111 rfl (fun E hE => ?_); simp only [go_sem, ntmps111]
 repeat' (first | (refine Qr rfl ?_; try intro _ hK; try simp only [go_sem, *]) | refine Qh rfl ?_ | (refine Qc rfl rfl ?_ ?_ <;> (intro hb; have hc := hb; try simp only [go_sem] at hc)) | refine z6 rfl ?_ | (refine z8 (zIn n h) ?_; simp only [go_sem, *]) | ((with_reducible apply And.intro); focus omega) | (refine z5 hK ?_; clear hK; simp only [go_sem, *]) | simp only [z3, z4, go_sem, *])
 all_goals (refine ⟨[_], [], [], ⟨rfl, trivial⟩, ?_⟩; simp only [go_sem])
end Go.Abs

namespace Go.Abs
open Go Go.Proofs Tryz
attribute [local irreducible] q8 Hold y4
theorem zJL {f : Nat} {cf : Plate → Plate → Int} (hcal : r8 prog f = true) (hf : ∀ a b : Plate, zNV prog f [a.enc, b.enc] [] (iV (cf a b)) []) (xs : List Plate) (h1 : xs.length ≤ 12) :
  zNV prog 110 [.own 0 2 0 xs.length, iV 0, iV xs.length, .any, fnV f] [.row 2 (xs.map Plate.enc)] (.tup []) [.row 2 ((w8 cf xs).map Plate.enc)] := by
 have hw : IntKind.i64.wrap ((xs.length : Int) - 0) = (xs.length : Int) := by rw [wrap_i64 (by omega) (by omega)]; omega
 have h12 : ((xs.length : Int) ≤ 12) = True := by simp only [eq_iff_iff, iff_true]; omega
 refine z9 func110 rfl (fun E hE => ?_); simp only [go_sem, ntmps110]
 repeat' (first | (refine Qr rfl ?_; try intro _ hK; try simp only [go_sem, *]) | (refine Qi rfl rfl rfl rfl ?_ ?_ <;> (intro hb; (try intro _ hK); have hc := hb; try simp only [go_sem] at hc; simp only [go_sem, *])) | refine Qh rfl ?_ | refine Qd rfl (by kernel_rfl) ?_ | (refine Qc rfl rfl ?_ ?_ <;> (intro hb; have hc := hb; try simp only [go_sem] at hc)) | refine z6 rfl ?_ | (refine Qb ?_ ?_; focus kernel_rfl) | ((with_reducible apply And.intro); focus omega) | (refine z5 hK ?_; clear hK; simp only [go_sem, *]) | simp only [z3, z4, go_sem, *])
 refine v5 rfl (1) (fun i => NoP i) 148 (fun i => [(0, .own 0 2 0 xs.length), (1, iV 0), (2, iV xs.length), (4, fnV f)]) (fun i => [.row 2 (xs.map Plate.enc)]) [some 0] [] (by trivial) ?_; intro i hi hP
 repeat' (first | (refine Qr rfl ?_; try intro _ hK; try simp only [go_sem, *]) | (refine Qi rfl rfl rfl rfl ?_ ?_ <;> (intro hb; (try intro _ hK); have hc := hb; try simp only [go_sem] at hc; simp only [go_sem, *])) | refine Qh rfl ?_ | refine Qd rfl (by kernel_rfl) ?_ | (refine Qc rfl rfl ?_ ?_ <;> (intro hb; have hc := hb; try simp only [go_sem] at hc)) | refine z6 rfl ?_ | (refine Qb ?_ ?_; focus kernel_rfl) | ((with_reducible apply And.intro); focus omega) | (refine z5 hK ?_; clear hK; simp only [go_sem, *]) | simp only [z3, z4, go_sem, *])
 refine x8 [0] [] (zJA hcal hf xs h1) (by simp) (by simp only [go_sem, *]) (by simp only [go_sem, AObj.live, *]) (by simp) (.inl rfl) (by simp [go_sem]) (by simp) ?_
 simp only [go_sem, *]
 repeat' (first | (refine Qr rfl ?_; try intro _ hK; try simp only [go_sem, *]) | (refine Qi rfl rfl rfl rfl ?_ ?_ <;> (intro hb; (try intro _ hK); have hc := hb; try simp only [go_sem] at hc; simp only [go_sem, *])) | refine Qh rfl ?_ | refine Qd rfl (by kernel_rfl) ?_ | (refine Qc rfl rfl ?_ ?_ <;> (intro hb; have hc := hb; try simp only [go_sem] at hc)) | refine z6 rfl ?_ | (refine Qb ?_ ?_; focus kernel_rfl) | ((with_reducible apply And.intro); focus omega) | (refine z5 hK ?_; clear hK; simp only [go_sem, *]) | simp only [z3, z4, go_sem, *])
 refine ⟨[], [some 0], [], trivial, ?_⟩
 simp only [go_sem, Z4, AObj.ren, *]
theorem O9 {f : Nat} {cf : Plate → Plate → Int} (hcal : r8 prog f = true) (hf : ∀ a b : Plate, zNV prog f [a.enc, b.enc] [] (iV (cf a b)) []) (xs : List Plate) (h1 : xs.length ≤ 12) :
  zNV prog 85 [.own 0 2 0 xs.length, fnV f] [.row 2 (xs.map Plate.enc)] (.tup []) [.row 2 ((w8 cf xs).map Plate.enc)] := by
 have hw : IntKind.u64.wrap (xs.length : Int) = (xs.length : Int) := wrap_u64 (by omega) (by omega)
 refine z9 func85 rfl (fun E hE => ?_); simp only [go_sem, ntmps85]
 repeat' (first | (refine Qr rfl ?_; try intro _ hK; try simp only [go_sem, *]) | refine Qh rfl ?_ | (refine Qc rfl rfl ?_ ?_ <;> (intro hb; have hc := hb; try simp only [go_sem] at hc)) | refine z6 rfl ?_ | (refine z8 (zDB xs.length h1) ?_; simp only [go_sem, *]) | ((with_reducible apply And.intro); focus omega) | (refine z5 hK ?_; clear hK; simp only [go_sem, *]) | simp only [z3, z4, go_sem, *])
 refine x8 [0] [] (zJL hcal hf xs h1) (by simp) (by simp only [go_sem, *]) (by simp only [go_sem, AObj.live, *]) (by simp) (.inl rfl) (by simp [go_sem]) (by simp) ?_
 simp only [go_sem, *]
 repeat' (first | (refine Qr rfl ?_; try intro _ hK; try simp only [go_sem, *]) | refine Qh rfl ?_ | (refine Qc rfl rfl ?_ ?_ <;> (intro hb; have hc := hb; try simp only [go_sem] at hc)) | refine z6 rfl ?_ | ((with_reducible apply And.intro); focus omega) | (refine z5 hK ?_; clear hK; simp only [go_sem, *]) | simp only [z3, z4, go_sem, *])
 refine ⟨[], [some 0], [], trivial, ?_⟩
 simp only [go_sem, Z4, AObj.ren, *]
end Go.Abs

namespace Go.Abs
open Go Go.Proofs Tryz
attribute [local irreducible] q8 Hold y4
def zOj (g : House → List House) (hs rem : List House) (i : Nat) (b0 : List Plate) : Prop := rem.length + i = hs.length ∧ (∀ h, h ∈ rem → h ∈ hs) ∧ Bk b0 0 (rem.flatMap g) (hs.flatMap g)
def zOm (rest tot : List House) (b0 : List Plate) : Prop := Bk b0 0 rest tot ∧ True
theorem zIt (hs : List House) (g : House → List House) (hst : ∀ z, z ∈ hs.flatMap g → 0 ≤ z.street ∧ z.street < 1) (hnd : (hs.flatMap g).Nodup) (hlen : ∀ s : Nat, s < 1 → ((hs.flatMap g).filter (fun h => h.street == (s : Int))).length ≤ 12) (hsl : hs.length ≤ 1000) (hgl : ∀ h, h ∈ hs → (g h).length ≤ 1000) :
  zNV prog 57 [.fmap (hs.map House.key) (hs.map (zNY g)), iV 1] [] (y3 (laid (hs.flatMap g) 1)) [] := by
 have rz : List.replicate 1 (AV.raw (Value.slice none 0 0)) = [AV.raw (Value.slice none 0 0)] := rfl
 have hmt : (zNr prog 117).isSome = true := by kernel_rfl
 have hv1 : IntKind.i64.wrap 1 = (1 : Int) := wrap_i64 (by omega) (by omega)
 have hv2 : IntKind.i64.wrap 2 = (2 : Int) := wrap_i64 (by omega) (by omega)
 have hv3 : IntKind.i64.wrap 3 = (3 : Int) := wrap_i64 (by omega) (by omega)
 refine z9 func57 rfl (fun E hE => ?_); simp only [go_sem, ntmps57]
 repeat' (first | (refine Qr rfl ?_; try intro _ hK; try simp only [go_sem, *]) | refine Qh rfl ?_ | refine Qd rfl (by kernel_rfl) ?_ | (refine Qc rfl rfl ?_ ?_ <;> (intro hb; have hc := hb; try simp only [go_sem] at hc)) | refine z6 rfl ?_ | (refine Qb ?_ ?_; focus kernel_rfl) | ((with_reducible apply And.intro); focus omega) | (refine z5 hK ?_; clear hK; simp only [go_sem, *]) | simp only [z3, z4, go_sem, *])
 refine Z7 rfl (fun zn zN zenv zAs => ∃ (i : Nat) (cur : Option (Value × AV)) (rem : List House) (b0 : List Plate), zn = (hs.length) - i ∧ i ≤ (hs.length) ∧ (zOj g hs rem i b0) ∧ zN = 54 ∧ zenv = [(4, .ptr 0 0), (5, .ptr 1 0), (16, .ptr 4 0)] ∧ zAs = [.box [zNs], .box [.own 2 1 0 1], .box [.own 3 2 0 b0.length], .row 2 (b0.map Plate.enc), .iter cur (rem.map House.key) (rem.map (zNY g))]) (hs.length) ⟨[some 0, some 2, some 1, none, some 3], [], _, _, _, (by (simp only [Weak, go_sem, List.map_append, List.map_set, *] <;> (try simp (disch := omega) only [y8]) <;> (try simp) <;> (try omega))), 0, none, hs, [], (by simp), (by simp), (by exact ⟨by omega, fun h hh => hh, Bk.start _ _⟩), rfl, rfl, rfl⟩ ?_; rintro _ _ _ _ ⟨i, cur, rem, b0, rfl, hi, hP, rfl, rfl, rfl⟩
 refine O7 rfl ?_
 refine E3 (o := 4) rfl rfl rfl rfl rfl rfl rfl cur (rem.map House.key) (rem.map (zNY g)) (by simp only [go_sem]) (by simp only [go_sem]) (show (17 : Nat) < 54 by decide) (show (18 : Nat) < 54 by decide) (fun hk _ => ?_) (fun r hr1 hr2 => ?_)
 ·simp only [go_sem]
  repeat' (first | (refine Qr rfl ?_; try intro _ hK; try simp only [go_sem, *]) | refine Qh rfl ?_ | refine Qd rfl (by kernel_rfl) ?_ | (refine Qc rfl rfl ?_ ?_ <;> (intro hb; have hc := hb; try simp only [go_sem] at hc)) | refine z6 rfl ?_ | (refine Qb ?_ ?_; focus kernel_rfl) | ((with_reducible apply And.intro); focus omega) | (refine z5 hK ?_; clear hK; simp only [go_sem, *]) | simp only [z3, z4, go_sem, *])
  obtain rfl : rem = [] := by simpa using hk
  obtain ⟨hlen0, hsub, p0⟩ := hP
  rw [List.flatMap_nil] at p0
  have hl0 := Nat.le_trans p0.len (hlen 0 (by omega))
  refine v5 rfl (1) (fun k => NoP k) 54 (fun k => [(46, iV k), (45, iV 1), (44, .own 2 1 0 1), (4, .ptr 0 0), (5, .ptr 1 0)]) (fun k => [.box [zNs], .box [.own 2 1 0 1], .box [.own 3 2 0 b0.length], .row 2 ((zOL k 0 b0).map Plate.enc)]) [some 0, some 1, some 2, some 3] [] (by trivial) ?_; intro k hk hK
  rcases (by omega : k = 0 ∨ k = 1) with rfl | rfl
  ·repeat' (first | (refine Qr rfl ?_; try intro _ hK; try simp only [go_sem, *]) | refine Qh rfl ?_ | refine Qd rfl (by kernel_rfl) ?_ | (refine Qc rfl rfl ?_ ?_ <;> (intro hb; have hc := hb; try simp only [go_sem] at hc)) | refine z6 rfl ?_ | (refine Qb ?_ ?_; focus kernel_rfl) | ((with_reducible apply And.intro); focus omega) | (refine z5 hK ?_; clear hK; simp only [go_sem, *]) | simp only [z3, z4, go_sem, *])
   refine x8 [3] [] (O9 (by kernel_rfl) V4 b0 (by omega)) (by simp) (by simp only [go_sem, *]) (by simp only [go_sem, AObj.live, *]) (by simp) (.inl rfl) (by simp [go_sem]) (by simp) ?_
   simp only [go_sem, AObj.ren, *]
   repeat' (first | (refine Qr rfl ?_; try intro _ hK; try simp only [go_sem, *]) | refine Qh rfl ?_ | refine Qd rfl (by kernel_rfl) ?_ | (refine Qc rfl rfl ?_ ?_ <;> (intro hb; have hc := hb; try simp only [go_sem] at hc)) | refine z6 rfl ?_ | (refine Qb ?_ ?_; focus kernel_rfl) | ((with_reducible apply And.intro); focus omega) | (refine z5 hK ?_; clear hK; simp only [go_sem, *]) | simp only [z3, z4, go_sem, *])
   exact v4 (i' := 0 + 1) [some 0, some 1, some 2, some 3] [] (by trivial)
  ·repeat' (first | (refine Qr rfl ?_; try intro _ hK; try simp only [go_sem, *]) | refine Qh rfl ?_ | refine Qd rfl (by kernel_rfl) ?_ | (refine Qc rfl rfl ?_ ?_ <;> (intro hb; have hc := hb; try simp only [go_sem] at hc)) | refine z6 rfl ?_ | (refine Qb ?_ ?_; focus kernel_rfl) | ((with_reducible apply And.intro); focus omega) | (refine z5 hK ?_; clear hK; simp only [go_sem, *]) | simp only [z3, z4, go_sem, *])
   have e : laid (hs.flatMap g) 1 = [w8 zNh b0] := by
    rw [p0.fin hnd (n := 1) (by omega)]; simp [laid, z7, List.range_succ]
   refine ⟨[.agg [.own 2 1 0 1]], [], [2, 3], ⟨by simp only [x7, go_sem], trivial⟩, ?_⟩
   simp only [go_sem, e, *]
   exact .inr (by simp)
 ·obtain ⟨hr, hrk, hrx⟩ : ∃ hr : r < rem.length, (rem.map House.key)[r] = (rem[r]).key ∧ (rem.map (zNY g))[r] = .list ((g rem[r]).map House.enc) := ⟨by simpa using hr1, by simp, by simp [zNY]⟩
  rw [hrk, hrx, ← Y0, ← Y0]
  generalize (rem[r]).key = kk at *
  clear hrk
  simp only [go_sem]
  repeat' (first | (refine Qr rfl ?_; try intro _ hK; try simp only [go_sem, *]) | refine Qh rfl ?_ | refine Qd rfl (by kernel_rfl) ?_ | (refine Qc rfl rfl ?_ ?_ <;> (intro hb; have hc := hb; try simp only [go_sem] at hc)) | refine z6 rfl ?_ | (refine Qb ?_ ?_; focus kernel_rfl) | ((with_reducible apply And.intro); focus omega) | (refine z5 hK ?_; clear hK; simp only [go_sem, *]) | simp only [z3, z4, go_sem, *])
  obtain ⟨hlen0, hsub, p0⟩ := hP
  have p0 := p0.pick r hr
  have hll : (g rem[r]).length ≤ 1000 := hgl _ (hsub _ (List.getElem_mem hr))
  have hsl2 : ∀ z, z ∈ g rem[r] → 0 ≤ z.street ∧ z.street < 1 := fun z hz => hst z (List.mem_flatMap.2 ⟨_, hsub _ (List.getElem_mem hr), hz⟩)
  clear hrx
  generalize g rem[r] = l at *
  refine v9 rfl (l.length) (fun j (b0 : List Plate) => zOm (l.drop j ++ (rem.eraseIdx r).flatMap g) (hs.flatMap g) b0) 54 (fun j b0 => [(23, iV j), (22, iV l.length), (21, X4 l), (4, .ptr 0 0), (5, .ptr 1 0), (16, .ptr 4 0)]) (fun j b0 => [.box [zNs], .box [.own 2 1 0 1], .box [.own 3 2 0 b0.length], .row 2 (b0.map Plate.enc), .iter (some (kk, .list (l.map House.enc))) ((rem.eraseIdx r).map House.key) ((rem.eraseIdx r).map (zNY g))]) [some 0, some 1, some 2, some 3, some 4] [] (b0) (by exact ⟨p0, trivial⟩) ?_; intro j b0 hj hQ
  by_cases hj : j < l.length
  ·have hz := hsl2 _ (w5 hj)
   have hdj := v3 hj
   rw [hdj, List.cons_append] at hQ
   obtain ⟨q0, _⟩ := hQ
   have hl0 := Nat.le_trans q0.len (hlen 0 (by omega))
   clear hdj
   rcases (by omega : (l.getD j default).street = 0) with hs0
   ·repeat' (first | (refine Qr rfl ?_; try intro _ hK; try simp only [go_sem, *]) | refine Qh rfl ?_ | refine Qd rfl (by kernel_rfl) ?_ | (refine Qc rfl rfl ?_ ?_ <;> (intro hb; have hc := hb; try simp only [go_sem] at hc)) | refine z6 rfl ?_ | (refine Qb ?_ ?_; focus kernel_rfl) | ((with_reducible apply And.intro); focus omega) | (refine z5 hK ?_; clear hK; simp only [go_sem, *]) | simp only [z3, z4, go_sem, *])
    exact x9 (i' := j + 1) [some 0, some 1, some 2, some 7, some 4] [] (b0 ++ [(l.getD j default).plate]) (by exact ⟨q0.step_in (by rw [hs0]; rfl), trivial⟩)
  ·repeat' (first | (refine Qr rfl ?_; try intro _ hK; try simp only [go_sem, *]) | refine Qh rfl ?_ | refine Qd rfl (by kernel_rfl) ?_ | (refine Qc rfl rfl ?_ ?_ <;> (intro hb; have hc := hb; try simp only [go_sem] at hc)) | refine z6 rfl ?_ | (refine Qb ?_ ?_; focus kernel_rfl) | ((with_reducible apply And.intro); focus omega) | (refine z5 hK ?_; clear hK; simp only [go_sem, *]) | simp only [z3, z4, go_sem, *])
   rw [u0 (by omega), List.nil_append] at hQ
   refine ⟨_, (by omega), [some 0, some 1, some 2, some 3, some 4], [], _, _, _, (by (simp only [Weak, go_sem, List.map_append, List.map_set, *] <;> (try simp (disch := omega) only [y8]) <;> (try simp) <;> (try omega))), i + 1, (some (kk, .list (l.map House.enc))), rem.eraseIdx r, b0, rfl, (by omega), (by exact ⟨by rw [List.length_eraseIdx_of_lt hr]; omega, fun h hh => hsub h ((List.eraseIdx_sublist _ _).subset hh), hQ.1⟩), rfl, rfl, rfl⟩
end Go.Abs

