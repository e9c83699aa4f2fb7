/-
  WHAT THE PROOF STANDS ON, PART 4: contracts of the program's functions and the logic that they are proved in. No condition.
-/
import Derived.Test.YteehcinnfiaklaaGreatDoorRows
import Derived.ProofKit
import Derived.OpenShut
import Derived.JoinedCond
import Derived.ChangeSlices
import Derived.Carry
import Derived.KernelRfl
import Derived.Shelf.Strings.OnBuilder
import Derived.Shelf.Strings.Runes
import Derived.Test.YteehcinnfiaklaaGreatDoorProg
import Derived.Test.YteehcinnfiaklaaGreatDoorCards
import Derived.Deep.DeepHandedRow
import Derived.Deep.DeepWitnessRowRef
import Derived.Lib.LaidCaseMet
import Derived.LaidHandle
import Derived.WalkKit
import Derived.LaidEql
import Derived.Stop.Asserts
import Derived.RowKitTokens
import Derived.Maps.Keyed
import Derived.DeepKeys3
import Derived.Test.YteehcinnfiaklaaGreatDoorQE3
set_option maxRecDepth 100000
set_option maxHeartbeats 4000000
set_option linter.unusedVariables false
set_option linter.unusedSimpArgs false
set_option linter.unusedSectionVars false
namespace Go.Abs
open Go Go.Proofs Go.Proofs.YteehcinnfiaklaaGreatDoor Go.ChangeShapes Go.WideShapes Go.ChangeAt Go.RowKit
theorem zOl : ownKnob Tryz.prog.godebug = none := by kernel_rfl
theorem zLK : laidOutB Tryz.prog = true := by kernel_rfl
abbrev zNi (w : World) : Nat → Prop := fun b => b < w.heap.size
def D1 (w : World) : Prop := ∀ p, p ∈ H0 → w.cell? ⟨p.1, 0, none⟩ = some p.2
theorem zIy (w : World) (hlaid : D1 w) : SR (e9 w (zNi w) 0 (fun _ => .un)) (zNi w) (fun _ => .un) (hs []) X3 w :=
 ⟨.nil, rfl, fun t => .pure (.any _), fun o => rfl, fun o o' b c c' h => by simp [hs, zNL, AS.obj, lkO, AObj.live] at h, fun b hb => hb, fun o b c h => by simp [hs, zNL, AS.obj, lkO, AObj.live] at h,
  ⟨rfl, rfl, rfl, Nat.le_refl _, fun b _ _ => rfl, fun _ => Nat.le_refl _, fun p hp => ⟨hlaid p hp, fun ⟨j, c, hj, _⟩ => absurd hj (Nat.not_lt_zero j)⟩⟩, fun b hb => hb, fun b hb => .inl hb, fun k hk => absurd hk (Nat.not_lt_zero k)⟩
theorem zKP {f : FuncId} {args : List AV} (sp : zNF Tryz.prog f args [] (bV true) []) (w : World) (vs : Array Value) (hl : vs.size = args.length) (hv : ∀ i (h : i < args.length) (h' : i < vs.size), PR w (zNi w) args[i] vs[i]) (hlaid : D1 w := by (intro p hp; simp [H0] at hp)) :
  Calls Tryz.prog f vs w fun e w' => e = .returned (.bool true) ∧ Below w.heap.size w w' := by
 refine (sp w (zNi w) (fun _ => .un) vs (zIy w hlaid) hl (fun i h h' => .pure (hv i h h'))).mono ?_
 rintro e w' ⟨v, I', loc', rfl, hp⟩
 have hr := hp.val.raw_eq
 subst hr
 have fr := hp.sr.fr
 exact ⟨rfl, fr.os, fr.tape, fr.output, fr.size, fun k hk => fr.block k hk (fun ⟨j, c, hj, _⟩ => absurd hj (Nat.not_lt_zero j))⟩
theorem zGp {H : Type} (d : DataW H) : 1 ≤ Rows.uptoBulk d := by
 cases d with
 | lit l => cases l <;> simp [Rows.uptoBulk]
 | _ => simp [Rows.uptoBulk]
theorem length_le {H : Type} (l : List (DataW H)) : l.length ≤ Rows.uptoBulkAll l := by
 induction l with
 | nil => simp [Rows.uptoBulkAll]
 | cons x r ih => have := zGp x; simp only [Rows.uptoBulkAll, List.length_cons]; omega
theorem zJg {H : Type} {enc : TypeId × Value → H} {W : World} {v : Value} {d : DataW H} {ps : List MemPlace} (hval : Value.okWide Tryz.prog W .any 0 23 v ∨ ∃ base, Value.okWide Tryz.prog W .any base 23 v)
    (h : DataW.Trod enc Tryz.prog W 0 (fun _ => true) true 23 v d ps) (hk : Rows.uptoBulk d ≤ 1048576) : ∃ l : List Int, PR W (zNi W) (.list (l.map iV)) v ∧ l.length ≤ 1048576 := by
  have hsl : ∃ a len cap, v = .slice a len cap := by
    rcases hval with hval | ⟨base, hval⟩
    · exact okWide_slice Tryz.underlying23 hval
    · exact okWide_slice Tryz.underlying23 hval
  obtain ⟨a, len, cap, rfl⟩ := hsl
  obtain ⟨fuel, hf⟩ := h
  have hc : Tryz.prog.cellsOf 3 = 1 := by kernel_rfl
  rcases open_ints Tryz.underlying23 Tryz.underlying3 hc hf with ⟨hcs, _⟩ | ⟨a0, len0, cap0, zs, hcs, _, hle, hm, hz, hx, hcell, hwz⟩
  · have e : Value.slice a len cap = .slice none 0 0 := by simpa [Value.cells] using hcs
    rw [e]
    exact ⟨[], .nil _ _, by simp⟩
  · have e : Value.slice a len cap = .slice (some a0) len0 cap0 := by simpa [Value.cells] using hcs
    rw [e]
    simp only [if_true] at hz
    have hd := congrArg Prod.fst hx
    simp only at hd
    subst hd
    have hlen : (zs.take len0).length = len0 := by simp; omega
    refine ⟨zs.take len0, ?_, ?_⟩
    · by_cases h0 : len0 = 0
      · subst h0; exact .nil _ _
      · have h1 := hcell 0 (by omega)
        have hspot : a0.spot = none := by
          unfold World.cell? at h1
          split at h1
          · split at h1
            · cases h1
            · rename_i hs
              simpa [Addr.add] using hs
          · cases h1
        have hblk : a0.block < W.heap.size := by
          unfold World.cell? at h1
          split at h1
          · rename_i hb
            have := (Array.getElem?_eq_some_iff.1 hb).1
            simpa [Addr.add] using this
          · cases h1
        obtain ⟨b, off, sp⟩ := a0
        simp only at hspot hblk
        subst hspot
        have key := PR.list (w := W) (I := zNi W) b off cap0 1 ((zs.take len0).map iV) (fun i _ => .int .i64 (zs.getD i 0)) hblk (by omega) (by simp; omega) (fun i hi => by simp [AV.cells])
          (fun i j hi hj => by
            have hi' : i < zs.length := by simp at hi; omega
            have := hcell i hi'
            have hj0 : j = 0 := by omega
            subst hj0
            have ea : (⟨b, off, none⟩ : Addr).add i = ⟨b, off + i * 1 + 0, none⟩ := by
              unfold Addr.add
              split
              · rename_i h; subst h; simp
              · simp
            rw [ea] at this; exact this)
          (fun i hi j hj => by
            have hi' : i < zs.length := by simp at hi; omega
            have hj0 : j = 0 := by simp [AV.cells] at hj; omega
            subst hj0
            have e2 : (((zs.take len0).map iV)[i]).cells[0] = iV (zs.getD i 0) := by simp [AV.cells, List.getD, hi']
            rw [e2]
            exact .raw _ rfl)
        rw [List.length_map, hlen] at key
        exact key
    · have h1 : (zs.take len0).length ≤ Rows.uptoBulkAll (H := H) (lits .i64 (zs.take len0)) := by
        have := length_le (H := H) (lits .i64 (zs.take len0))
        simpa [lits] using this
      simp only [Rows.uptoBulk] at hk
      omega
end Go.Abs

namespace Go.Abs
open Go Go.Proofs Go.Proofs.YteehcinnfiaklaaGreatDoor Go.ChangeShapes Go.WideShapes Go.ChangeAt Go.RowKit
inductive Sh where
 | int
 | str
 | sl (b : Bool) (e : Sh)
 | st (body : Sh)
 | emp
 | cat (x y : Sh)
def Sh.n : Sh → Nat
 | .int => 1
 | .str => 1
 | .sl _ _ => 1
 | .st b => b.n
 | .emp => 0
 | .cat x y => x.n + y.n
def Sh.ok : Sh → TypeId ⊕ (List Field × Nat) → Prop
 | .int, .inl t => Tryz.prog.underlying t = some (.int .i64)
 | .str, .inl t => Tryz.prog.underlying t = some .string
 | .sl b e, .inl t => ∃ u, Tryz.prog.underlying t = some (.slice u) ∧ Tryz.prog.cellsOf u = e.n ∧ 0 < e.n ∧ (b = true → e.n = 1) ∧ e.ok (.inl u)
 | .st b, .inl t => ∃ fs, Tryz.prog.underlying t = some (.struct fs) ∧ Tryz.prog.cellsOf t = b.n ∧ b.ok (.inr (fs.toList, 0))
 | .emp, .inr (l, _) => l = []
 | .cat x y, .inr (l, off) => ∃ f r, l = f :: r ∧ f.offset = off ∧ Tryz.prog.cellsOf f.type = x.n ∧ x.ok (.inl f.type) ∧ y.ok (.inr (r, off + x.n))
 | _, _ => False
def TyC (N : Nat) : Sh → List AV → Prop
 | .int, c => ∃ n : Int, (Lit.int .i64 n).wf = true ∧ c = [iV n]
 | .str, c => ∃ s : Str, s.length ≤ N ∧ c = [sV s]
 | .sl b e, c => ∃ xs, c = [.list xs] ∧ xs.length ≤ N ∧ ∀ x, x ∈ xs → ∃ d, TyC N e d ∧ x = if b = true then d.getD 0 .any else .agg d
 | .st b, c => TyC N b c
 | .emp, c => c = []
 | .cat x y, c => ∃ c1 c2, c = c1 ++ c2 ∧ TyC N x c1 ∧ TyC N y c2
theorem TyC.len {N : Nat} : ∀ {s : Sh} {c : List AV}, TyC N s c → c.length = s.n
 | .int, c, ⟨n, _, h⟩ => by subst h; rfl
 | .str, c, ⟨n, _, h⟩ => by subst h; rfl
 | .sl b e, c, ⟨xs, h, _⟩ => by subst h; rfl
 | .st b, c, h => TyC.len (s := b) h
 | .emp, c, h => by cases (show c = [] from h); rfl
 | .cat x y, c, ⟨c1, c2, h, h1, h2⟩ => by subst h; rw [List.length_append, TyC.len h1, TyC.len h2]; rfl
end Go.Abs

namespace Go.Abs
open Go Go.Proofs Go.Proofs.YteehcinnfiaklaaGreatDoor Go.ChangeShapes Go.WideShapes Go.ChangeAt Go.RowKit
theorem zA6 {H : Type} {d : DataW H} : ∀ {l : List (DataW H)}, d ∈ l → Rows.uptoBulk d ≤ Rows.uptoBulkAll l
 | x :: r, h => by
  simp only [Rows.uptoBulkAll]
  rcases List.mem_cons.1 h with rfl | h
  ·omega
  ·have := zA6 h; omega
theorem zER {W : World} {a : Addr} {v : Value} (h : W.cell? a = some v) : a.spot = none ∧ a.block < W.heap.size := by
 unfold World.cell? at h
 split at h
 ·rename_i hb
  split at h
  ·cases h
  ·rename_i hs
   exact ⟨by simpa using hs, (Array.getElem?_eq_some_iff.1 hb).1⟩
 ·cases h
theorem pick {α : Type} [Inhabited α] {len : Nat} {p : Nat → α → Prop} (h : ∀ i, i < len → ∃ a, p i a) : ∃ F : Nat → α, ∀ i, i < len → p i (F i) :=
 ⟨fun i => if h' : i < len then Classical.choose (h i h') else default, fun i hi => by simp only [hi, dif_pos]; exact Classical.choose_spec (h i hi)⟩
theorem TyC.bare {N : Nat} : ∀ {s : Sh} {c : List AV}, TyC N s c → ∀ x, x ∈ c → x.cells = [x]
 | .int, c, ⟨n, _, h⟩, x, hx => by subst h; cases List.mem_singleton.1 hx; rfl
 | .str, c, ⟨n, _, h⟩, x, hx => by subst h; cases List.mem_singleton.1 hx; rfl
 | .sl b e, c, ⟨xs, h, _⟩, x, hx => by subst h; cases List.mem_singleton.1 hx; rfl
 | .st b, c, h, x, hx => TyC.bare (s := b) h x hx
 | .emp, c, h, x, hx => by cases (show c = [] from h); cases hx
 | .cat a b, c, ⟨c1, c2, h, h1, h2⟩, x, hx => by
  subst h
  rcases List.mem_append.1 hx with h | h
  ·exact TyC.bare h1 x h
  ·exact TyC.bare h2 x h
section
variable {H : Type} {enc : TypeId × Value → H} {W : World} {N : Nat}
noncomputable abbrev trd (enc : TypeId × Value → H) (W : World) (n : Nat) (t : TypeId) (cs : List Value) := DataW.trod enc Tryz.prog W 0 (fun _ => true) true n t cs
def U3 (W : World) (c : List AV) (cs : List Value) : Prop := c.length = cs.length ∧ ∀ i (h : i < c.length) (h' : i < cs.length), PR W (zNi W) c[i] cs[i]
theorem zG5 {n : Nat} {t : TypeId} {cs : List Value} {x : DataW H × List MemPlace} (ht : Sh.ok .int (.inl t)) (h : trd enc W n t cs = some x) : ∃ c, TyC N .int c ∧ U3 W c cs := by
 obtain ⟨k, rfl, _, hw⟩ := DataW.trod_int ht h
 exact ⟨[iV k], ⟨k, hw, rfl⟩, rfl, fun i h h' => by
  have : i = 0 := by simp at h; omega
  subst this
  exact .raw _ rfl⟩
theorem zCe {n : Nat} {t : TypeId} {cs : List Value} {x : DataW H × List MemPlace} (ht : Sh.ok .str (.inl t)) (h : trd enc W n t cs = some x) (hk : Rows.uptoBulk x.1 ≤ N) : ∃ c, TyC N .str c ∧ U3 W c cs := by
 obtain ⟨b, rfl, rfl, _⟩ := DataW.trod_string ht h
 obtain ⟨l, rfl⟩ := zEG b
 refine ⟨[sV l], ⟨l, ?_, rfl⟩, rfl, fun i h h' => ?_⟩
 ·simp [Rows.uptoBulk] at hk; omega
 ·have : i = 0 := by simp at h; omega
  subst this
  exact .raw _ rfl
theorem zG6 {e : Sh} {u : TypeId} {n : Nat} (b : Bool) (hu : Tryz.prog.cellsOf u = e.n) (h0 : 0 < e.n) (hb : b = true → e.n = 1)
  (ih : ∀ (cs : List Value) (x : DataW H × List MemPlace), trd enc W n u cs = some x → Rows.uptoBulk x.1 ≤ N → ∃ c, TyC N e c ∧ U3 W c cs)
  {a : Addr} {len cap : Nat} {elems : List (DataW H × List MemPlace)} (hlen : elems.length = len) (hcap : len ≤ cap) (hk : Rows.uptoBulkAll (elems.map (·.1)) ≤ N)
  (hel : ∀ i, i < len → (W.cells? 0 (a.add (i * Tryz.prog.cellsOf u)) (Tryz.prog.cellsOf u)).bind (trd enc W n u) = elems[i]?) :
  ∃ xs : List AV, xs.length ≤ N ∧ (∀ x, x ∈ xs → ∃ d, TyC N e d ∧ x = if b = true then d.getD 0 .any else .agg d) ∧ PR W (zNi W) (.list xs) (.slice (some a) len cap) := by
 have hN : len ≤ N := by have := length_le (elems.map (·.1)); rw [List.length_map] at this; omega
 have each : ∀ i, i < len → ∃ cs : List Value, ∃ d : List AV, W.cells? 0 (a.add (i * e.n)) e.n = some cs ∧ TyC N e d ∧ U3 W d cs := fun i hi => by
  have h := hel i hi
  rw [List.getElem?_eq_getElem (by omega), hu, Option.bind_eq_some_iff] at h
  obtain ⟨cs, h1, h2⟩ := h
  obtain ⟨d, h3, h4⟩ := ih cs _ h2 (Nat.le_trans (zA6 (List.mem_map.2 ⟨_, List.getElem_mem _, rfl⟩)) hk)
  exact ⟨cs, d, h1, h3, h4⟩
 obtain ⟨V, hV⟩ := pick each
 obtain ⟨D, hD⟩ := pick (p := fun i d => W.cells? 0 (a.add (i * e.n)) e.n = some (V i) ∧ TyC N e d ∧ U3 W d (V i)) hV
 have hcs : ∀ i, i < len → (if b = true then (D i).getD 0 .any else AV.agg (D i)).cells = D i := fun i hi => by
  cases b with
  | false => rfl
  | true =>
   have hl := (hD i hi).2.1.len
   rw [hb rfl] at hl
   obtain ⟨y, hy⟩ := List.length_eq_one_iff.1 hl
   rw [if_pos rfl, hy]
   exact (hD i hi).2.1.bare y (by rw [hy]; simp)
 refine ⟨(List.range len).map fun i => if b = true then (D i).getD 0 .any else .agg (D i), by simpa using hN, fun x hx => ?_, ?_⟩
 ·obtain ⟨i, hi, rfl⟩ := List.mem_map.1 hx
  exact ⟨D i, (hD i (List.mem_range.1 hi)).2.1, rfl⟩
 ·by_cases h0l : len = 0
  ·subst h0l; exact .nil _ _
  ·have rd : ∀ i j, i < len → j < e.n → W.cell? ((a.add (i * e.n)).add j) = (V i)[j]? := fun i j hi hj => (World.cells?_some (hD i hi).1).2.2 j hj
   have vl : ∀ i, i < len → (V i).length = e.n := fun i hi => (World.cells?_some (hD i hi).1).2.1
   have h00 : W.cell? ((a.add (0 * e.n)).add 0) = some ((V 0)[0]'(by rw [vl 0 (by omega)]; exact h0)) := by rw [rd 0 0 (by omega) h0, List.getElem?_eq_getElem]
   obtain ⟨hs, hblk⟩ := zER h00
   obtain ⟨bb, off, sp⟩ := a
   have hsp : sp = none := by simpa [Addr.add] using hs
   have hbb : bb < W.heap.size := by simpa [Addr.add] using hblk
   subst hsp
   have ad : ∀ i j, ((⟨bb, off, none⟩ : Addr).add (i * e.n)).add j = ⟨bb, off + i * e.n + j, none⟩ := fun i j => by
    have one : ∀ o k, (⟨bb, o, none⟩ : Addr).add k = ⟨bb, o + k, none⟩ := fun o k => by
     by_cases hk : k = 0
     ·subst hk; simp [Addr.add]
     ·simp [Addr.add, hk]
    rw [one, one]
   have gd : ∀ (l : List Value) (k : Nat) (h : k < l.length), l.getD k undef = l[k] := fun l k h => by simp [List.getD, h]
   have key := PR.list (w := W) (I := zNi W) bb off cap e.n ((List.range len).map fun i => if b = true then (D i).getD 0 .any else .agg (D i)) (fun i j => (V i).getD j undef) hbb h0 (by simpa using hcap)
    (fun i hi => by
     have hi' : i < len := by simpa using hi
     rw [List.getElem_map, List.getElem_range, hcs i hi', (hD i hi').2.1.len])
    (fun i j hi hj => by
     have hi' : i < len := by simpa using hi
     have := rd i j hi' hj
     rw [ad, List.getElem?_eq_getElem (by rw [vl i hi']; exact hj)] at this
     rw [this, gd _ _ (by rw [vl i hi']; exact hj)])
    (fun i hi j hj => by
     have hi' : i < len := by simpa using hi
     have e2 : (((List.range len).map fun i => if b = true then (D i).getD 0 .any else .agg (D i))[i]).cells = D i := by
      rw [List.getElem_map, List.getElem_range]; exact hcs i hi'
     have hj2 : j < (D i).length := by rw [← e2]; exact hj
     have hj3 : j < (V i).length := by rw [← (hD i hi').2.2.1]; exact hj2
     have := (hD i hi').2.2.2 j hj2 hj3
     rw [gd _ _ hj3]
     simpa only [e2] using this)
   rw [List.length_map, List.length_range] at key
   exact key
theorem zG4 : ∀ (s : Sh),
  (∀ (t : TypeId) (n : Nat) (cs : List Value) (x : DataW H × List MemPlace), s.ok (.inl t) → trd enc W n t cs = some x → Rows.uptoBulk x.1 ≤ N → ∃ c, TyC N s c ∧ U3 W c cs) ∧
  (∀ (l : List Field) (off n : Nat) (cs : List Value) (xs : List (DataW H × List MemPlace)), s.ok (.inr (l, off)) → xs.length = l.length → (∀ (i : Nat) (f : Field), l[i]? = some f → trd enc W n f.type ((cs.drop f.offset).take (Tryz.prog.cellsOf f.type)) = xs[i]?) →
   Rows.uptoBulkAll (xs.map (·.1)) ≤ N → cs.length = off + s.n → ∃ c, TyC N s c ∧ U3 W c (cs.drop off)) := by
 intro s
 induction s with
 | int => exact ⟨fun t n cs x ht h _ => zG5 ht h, fun l off n cs xs h => h.elim⟩
 | str => exact ⟨fun t n cs x ht h hk => zCe ht h hk, fun l off n cs xs h => h.elim⟩
 | sl b e ih =>
  refine ⟨fun t n cs x ht h hk => ?_, fun l off n cs xs h => h.elim⟩
  obtain ⟨u, ht, hu, h0, hb, he⟩ := ht
  rcases DataW.trod_slice ht h with ⟨rfl, _⟩ | ⟨a, len, cap, elems, rest, m, _, rfl, rfl, _, hl, _, hlen, hel, _, _⟩
  ·refine ⟨[.list []], ⟨[], rfl, Nat.zero_le _, fun x hx => by cases hx⟩, rfl, fun i h h' => ?_⟩
   have : i = 0 := by simp at h; omega
   subst this
   exact .nil _ _
  ·simp only [Rows.uptoBulk] at hk
   obtain ⟨xs, h1, h2, h3⟩ := zG6 b hu h0 hb (fun cs x hx hk => ih.1 u m cs x he hx hk) hlen hl (by omega) hel
   refine ⟨[.list xs], ⟨xs, rfl, h1, h2⟩, rfl, fun i h h' => ?_⟩
   have : i = 0 := by simp at h; omega
   subst this
   exact h3
 | st body ih =>
  refine ⟨fun t n cs x ht h hk => ?_, fun l off n cs xs h => h.elim⟩
  obtain ⟨fs, ht, hc, hb⟩ := ht
  obtain ⟨xs, m, _, rfl, hcl, hxl, hf⟩ := DataW.trod_struct ht h
  simp only [Rows.uptoBulk] at hk
  obtain ⟨c, h1, h2⟩ := ih.2 fs.toList 0 m cs xs hb (by simpa using hxl) (fun i f hi => hf i f (by simpa using hi)) (by omega) (by rw [hcl, hc]; simp)
  exact ⟨c, h1, by simpa using h2⟩
 | emp =>
  refine ⟨fun t n cs x ht => ht.elim, fun l off n cs xs h _ _ _ hl => ⟨[], rfl, ?_⟩⟩
  have : cs.drop off = [] := List.drop_eq_nil_of_le (by rw [hl]; exact Nat.le_refl _)
  rw [this]
  exact ⟨rfl, fun i h => by cases h⟩
 | cat a b iha ihb =>
  refine ⟨fun t n cs x ht => ht.elim, fun l off n cs xs h hxl hf hk hl => ?_⟩
  obtain ⟨f, r, rfl, ho, hc, ha, hb⟩ := h
  cases xs with
  | nil => simp at hxl
  | cons y ys =>
   simp only [List.map_cons, Rows.uptoBulkAll] at hk
   have h0 := hf 0 f rfl
   rw [ho, hc] at h0
   obtain ⟨c1, p1, p2⟩ := iha.1 f.type n _ y ha h0 (by omega)
   obtain ⟨c2, q1, q2⟩ := ihb.2 r (off + a.n) n cs ys hb (by simpa using hxl) (fun i g hi => by simpa using hf (i + 1) g (by simpa using hi)) (by omega) (by rw [hl]; simp only [Sh.n]; omega)
   refine ⟨c1 ++ c2, ⟨c1, c2, rfl, p1, q1⟩, ?_⟩
   have e : cs.drop off = (cs.drop off).take a.n ++ cs.drop (off + a.n) := by rw [← List.drop_drop, List.take_append_drop]
   rw [e]
   refine ⟨by rw [List.length_append, List.length_append, p2.1, q2.1], fun i h h' => ?_⟩
   by_cases hi : i < c1.length
   ·have hi' := hi
    rw [p2.1] at hi'
    rw [List.getElem_append_left hi, List.getElem_append_left hi']
    exact p2.2 i hi hi'
   ·have hi' : ((cs.drop off).take a.n).length ≤ i := by rw [← p2.1]; omega
    rw [List.getElem_append_right (by omega), List.getElem_append_right hi']
    have e1 : i - ((cs.drop off).take a.n).length = i - c1.length := by rw [p2.1]
    have := q2.2 (i - c1.length) (by simp at h; omega) (by rw [← q2.1]; simp at h; omega)
    simpa only [e1] using this
end
end Go.Abs

namespace Go.Abs
open Go
theorem Plate.lt_iff (a b : Plate) : a.lt b = true ↔ a.number < b.number ∨ (a.number = b.number ∧ a.letter < b.letter) := by simp [Plate.lt]
theorem House.lt_iff (a b : House) : a.lt b = true ↔ a.street < b.street ∨ (a.street = b.street ∧ (a.plate.number < b.plate.number ∨ (a.plate.number = b.plate.number ∧ a.plate.letter < b.plate.letter))) := by simp [House.lt, Plate.lt]
theorem Plate.lt_irrefl (a : Plate) : ¬ a.lt a = true := by rw [Plate.lt_iff]; omega
theorem House.lt_irrefl (a : House) : ¬ a.lt a = true := by rw [House.lt_iff]; omega
abbrev Strict (l : List House) : Prop := l.Pairwise (fun a b => a.lt b = true)
theorem Strict.nodup {l : List House} (h : Strict l) : l.Nodup := h.imp (fun {a b} hab e => by subst e; exact House.lt_irrefl _ hab)
theorem Valid.row {p : zNR} (v : Valid p) (s : Int) : Sound (S4 p s) := by
 unfold S4
 by_cases h : s.toNat < p.length
 ·exact v.rows _ (o7 h)
 ·simp only [List.getD_eq_getElem?_getD, List.getElem?_eq_none (Nat.le_of_not_lt h), Option.getD_none]
  show Sound []
  exact ⟨by simp, fun x hx => by simp at hx, List.Pairwise.nil⟩
end Go.Abs

namespace Go.Abs
open Go
structure Fit (p : zNR) (c : Change) : Prop where
 kind : 1 ≤ c.kind ∧ c.kind ≤ 7
 street : 0 ≤ c.street ∧ c.street < p.length
 other : c.kind = 4 ∨ c.kind = 7 → 0 ≤ c.other ∧ c.other < p.length ∧ c.other ≠ c.street
 fits : zBV p c = 0
theorem Sound.nodup {l : List Plate} (h : Sound l) : l.Nodup := h.sorted.imp (fun {a b} hab e => by subst e; exact Plate.lt_irrefl _ hab)
section
variable {p : zNR} {c : Change} {x : Plate}
end
end Go.Abs

namespace Go.Abs
open Go
end Go.Abs

namespace Go.Abs
open Go
abbrev u5 (a b : Str) : Bool := Op.bytesLess a b
theorem zAg (a b : UInt8) (x y : Str) : u5 (a :: x) (b :: y) = (decide (a < b) || (a == b && u5 x y)) := rfl
theorem zAh : ∀ a : Str, u5 a a = false
 | [] => rfl
 | a :: x => by rw [zAg, zAh x]; simp
theorem zAi : ∀ {a b c : Str}, u5 a b = true → u5 b c = true → u5 a c = true
 | [], [], _, h, _ => by cases h
 | [], _ :: _, [], _, h => by cases h
 | [], _ :: _, _ :: _, _, _ => rfl
 | _ :: _, [], _, h, _ => by cases h
 | _ :: _, _ :: _, [], _, h => by cases h
 | a :: x, b :: y, c :: z, h1, h2 => by
  rw [zAg, Bool.or_eq_true, Bool.and_eq_true, decide_eq_true_eq, beq_iff_eq] at h1 h2 ⊢
  rw [UInt8.lt_iff_toNat_lt] at h1 h2 ⊢
  rcases h1 with h1 | ⟨rfl, h1⟩
  ·rcases h2 with h2 | ⟨rfl, h2⟩
   ·exact .inl (by omega)
   ·exact .inl h1
  ·rcases h2 with h2 | ⟨rfl, h2⟩
   ·exact .inl h2
   ·exact .inr ⟨rfl, zAi h1 h2⟩
theorem N8 : ∀ {a b : Str}, u5 a b = false → u5 b a = false → a = b
 | [], [], _, _ => rfl
 | [], _ :: _, h, _ => by cases h
 | _ :: _, [], _, h => by cases h
 | a :: x, b :: y, h1, h2 => by
  rw [zAg, Bool.or_eq_false_iff] at h1 h2
  have e1 : ¬ a < b := by simpa using h1.1
  have e2 : ¬ b < a := by simpa using h2.1
  rw [UInt8.lt_iff_toNat_lt] at e1 e2
  have e : a = b := UInt8.toNat_inj.1 (by omega)
  subst e
  have g1 : u5 x y = false := by simpa using h1.2
  have g2 : u5 y x = false := by simpa using h2.2
  rw [N8 g1 g2]
theorem zAf {a b : Str} (h : u5 a b = true) : u5 b a = false := by
 cases e : u5 b a with
 | false => rfl
 | true => have := zAi h e; rw [zAh] at this; cases this
def zNI (a b : Str) : Int := if u5 a b = true then -1 else if u5 b a = true then 1 else 0
theorem cmpS_neg {a b : Str} : zNI a b < 0 ↔ u5 a b = true := by
 unfold zNI
 by_cases h : u5 a b = true
 ·rw [if_pos h]; simp [h]
 ·rw [if_neg h]
  split <;> simp [h]
theorem cmpS_zero {a b : Str} : zNI a b = 0 ↔ a = b := by
 unfold zNI
 constructor
 ·intro h
  by_cases h1 : u5 a b = true
  ·rw [if_pos h1] at h; cases h
  ·rw [if_neg h1] at h
   by_cases h2 : u5 b a = true
   ·rw [if_pos h2] at h; cases h
   ·exact N8 (by simpa using h1) (by simpa using h2)
 ·rintro rfl
  simp [zAh]
def y8 (c : UInt8) : Bool := decide (97 ≤ c.toNat) && decide (c.toNat ≤ 122)
def v7 (c : UInt8) : Bool := decide (65 ≤ c.toNat) && decide (c.toNat ≤ 90) && !(c == 72 || c == 81 || c == 87)
def w9 (c : UInt8) : Int := if y8 c = true then 1 else if v7 c = true then 2 else 0
def w6 (c : UInt8) : Str := if c = 67 then [99, 104] else if c = 74 then [106, 117] else if c = 88 then [115, 104] else if c = 89 then [106, 97] else if 65 ≤ c.toNat ∧ c.toNat ≤ 90 then [UInt8.ofNat (c.toNat + 32)] else [c]
def zNG (s : Str) : Str := s.flatMap w6
def l6 (s : Str) : Bool := s.all y8 || s.all v7
def x4 (s : Str) : Int := if s.length = 0 then 7 else if 6 < s.length then 10 else if l6 s = true then 0 else 2
structure ValidN (s : Str) : Prop where
 ne : 0 < s.length
 len : s.length ≤ 6
 form : l6 s = true
theorem checkN_zero {s : Str} : x4 s = 0 ↔ ValidN s := by
 unfold x4
 constructor
 ·intro h
  split at h
  ·cases h
  ·split at h
   ·cases h
   ·split at h
    ·rename_i h1 h2 h3; exact ⟨by omega, by omega, h3⟩
    ·cases h
 ·intro v
  have h1 := v.ne
  have h2 := v.len
  rw [if_neg (by omega), if_neg (by omega), if_pos v.form]
theorem zHh {c : UInt8} (h : y8 c = true) : w6 c = [c] := by
 unfold y8 at h
 rw [Bool.and_eq_true, decide_eq_true_eq, decide_eq_true_eq] at h
 have ne : ∀ d : UInt8, d.toNat < 97 → ¬ c = d := fun d hd e => by subst e; omega
 unfold w6
 rw [if_neg (ne 67 (by decide)), if_neg (ne 74 (by decide)), if_neg (ne 88 (by decide)), if_neg (ne 89 (by decide)), if_neg (by omega)]
theorem A2 : ∀ {s : Str}, s.all y8 = true → zNG s = s
 | [], _ => rfl
 | c :: r, h => by
  rw [List.all_cons, Bool.and_eq_true] at h
  show w6 c ++ zNG r = _
  rw [zHh h.1, A2 h.2]; rfl
theorem E3 (c : UInt8) : 1 ≤ (w6 c).length ∧ (w6 c).length ≤ 2 := by
 unfold w6
 repeat' split
 all_goals simp
theorem A3 : ∀ s : Str, s.length ≤ (zNG s).length ∧ (zNG s).length ≤ 2 * s.length
 | [] => by simp [zNG]
 | c :: r => by
  have h1 := E3 c
  have h2 := A3 r
  have e : zNG (c :: r) = w6 c ++ zNG r := rfl
  rw [e, List.length_append, List.length_cons]
  omega
theorem zHi {c : UInt8} (h : v7 c = true) : ∀ d, d ∈ w6 c → y8 d = true := by
 unfold v7 at h
 rw [Bool.and_eq_true, Bool.and_eq_true, decide_eq_true_eq, decide_eq_true_eq] at h
 obtain ⟨⟨h1, h2⟩, _⟩ := h
 unfold w6
 split
 ·decide
 ·split
  ·decide
  ·split
   ·decide
   ·split
    ·decide
    ·rw [if_pos ⟨h1, h2⟩]
     intro d hd
     rw [List.mem_singleton.1 hd]
     unfold y8
     have : (UInt8.ofNat (c.toNat + 32)).toNat = c.toNat + 32 := UInt8.toNat_ofNat_of_lt' (by show c.toNat + 32 < 256; omega)
     rw [this]
     simp; omega
theorem zGB {s : Str} (h : l6 s = true) : (zNG s).all y8 = true := by
 unfold l6 at h
 rw [Bool.or_eq_true] at h
 rcases h with h | h
 ·rw [A2 h]; exact h
 ·rw [List.all_eq_true] at h ⊢
  intro d hd
  obtain ⟨c, hc, hd⟩ := List.mem_flatMap.1 hd
  exact zHi (h c hc) d hd
def l8 (s : Str) : Int := w9 (s.getD 0 0)
def o5 (a b : Str) : Int := orI (zNI (zNG a) (zNG b)) (zNV (l8 a) (l8 b))
def zA3 (a b : Str) : Bool := if zNG a = zNG b then y8 (a.getD 0 0) && !y8 (b.getD 0 0) else u5 (zNG a) (zNG b)
end Go.Abs

namespace Go.Abs
open Go
structure Rule where
 src : Str
 dst : Str
 deriving DecidableEq, Inhabited
@[reducible] def Rule.enc (r : Rule) : AV := .agg [sV r.src, sV r.dst]
def x7 (s : Str) (lo hi : Nat) : Bool := decide (lo ≤ s.length) && (decide (s.length ≤ hi) && s.all y8)
def Rule.ok (r : Rule) : Bool := x7 r.src 1 2 && (x7 r.dst 0 2 && !(decide (r.src = r.dst)))
def j7 (l : List Rule) : Int := if 4 < l.length then 6 else if l.all Rule.ok = true then 0 else 2
def v6 : List Str → Int
 | [] => 0
 | s :: r => if x4 s = 0 then v6 r else x4 s
def u9 (l : List Str) : Int := if 6 < l.length then 6 else v6 l
def X5 (k a b : Str) (i : Nat) : List Str := (List.range' i (k.length + 1 - i)).flatMap fun i => if a.isPrefixOf (k.drop i) = true ∧ x7 (k.take i ++ b ++ k.drop (i + a.length)) 1 12 = true then [k.take i ++ b ++ k.drop (i + a.length)] else []
def j6 (k a b : Str) : List Str := X5 k a b 0
def p9 (l : List Rule) (k : Str) : List Str := l.flatMap fun r => j6 k r.src r.dst ++ j6 k r.dst r.src
def Y7 (met : List Str) : List Str → List Str
 | [] => []
 | x :: r => if x ∈ met then Y7 met r else x :: Y7 (x :: met) r
theorem zAE : ∀ (l met : List Str) (x : Str), x ∈ Y7 met l ↔ x ∈ l ∧ x ∉ met
 | [], met, x => by simp [Y7]
 | y :: r, met, x => by
  rw [Y7]
  split
  ·rename_i h
   rw [zAE r met x]
   constructor
   ·rintro ⟨h1, h2⟩; exact ⟨by simp [h1], h2⟩
   ·rintro ⟨h1, h2⟩
    refine ⟨?_, h2⟩
    rcases List.mem_cons.1 h1 with rfl | h1
    ·exact absurd h h2
    ·exact h1
  ·rename_i h
   rw [List.mem_cons, zAE r _ x]
   simp only [List.mem_cons, not_or]
   constructor
   ·rintro (rfl | ⟨h1, h2, h3⟩)
    ·exact ⟨.inl rfl, h⟩
    ·exact ⟨.inr h1, h3⟩
   ·rintro ⟨h1, h2⟩
    by_cases e : x = y
    ·exact .inl e
    ·exact .inr ⟨h1.resolve_left e, e, h2⟩
def H8 (l : List Str) : List Str := Y7 [] l
theorem mem_dedupN {l : List Str} {x : Str} : x ∈ H8 l ↔ x ∈ l := by unfold H8; rw [zAE]; simp
def o0 (l : List Rule) (to : Str) : Nat → Str → List Str → List (List Str)
 | 0, now, pre => if now = to then [pre ++ [now]] else []
 | n + 1, now, pre => (H8 (p9 l now)).flatMap fun s => o0 l to n s (pre ++ [now])
inductive IsChain (l : List Rule) (to : Str) : Nat → Str → List Str → Prop
 | nil : IsChain l to 0 to [to]
 | cons {n : Nat} {s s' : Str} {c : List Str} : s' ∈ p9 l s → IsChain l to n s' c → IsChain l to (n + 1) s (s :: c)
theorem mem_chainsN {l : List Rule} {to : Str} : ∀ {n : Nat} {s : Str} {pre c : List Str}, c ∈ o0 l to n s pre ↔ ∃ d, c = pre ++ d ∧ IsChain l to n s d
 | 0, s, pre, c => by
  rw [o0]
  constructor
  ·intro h
   split at h
   ·rename_i e
    subst e
    exact ⟨[s], List.mem_singleton.1 h, .nil⟩
   ·cases h
  ·rintro ⟨d, rfl, h⟩
   cases h
   simp
 | n + 1, s, pre, c => by
  rw [o0, List.mem_flatMap]
  constructor
  ·rintro ⟨s', h1, h2⟩
   obtain ⟨d, rfl, h⟩ := mem_chainsN.1 h2
   exact ⟨s :: d, by simp, .cons (mem_dedupN.1 h1) h⟩
  ·rintro ⟨d, rfl, h⟩
   cases h with
   | cons h1 h2 => exact ⟨_, mem_dedupN.2 h1, mem_chainsN.2 ⟨_, by simp, h2⟩⟩
def zNM : List Str → List Str → Int
 | [], [] => 0
 | [], _ :: _ => -1
 | _ :: _, [] => 1
 | a :: x, b :: y => if zNI a b = 0 then zNM x y else zNI a b
theorem L1 (a b : Str) : zNI b a = -zNI a b := by
 unfold zNI
 cases h : u5 a b with
 | true => rw [zAf h]; simp
 | false => cases h2 : u5 b a <;> simp
def x6 {α : Type} (cmp : α → α → Int) : Option α → List α → Option α
 | b, [] => b
 | none, x :: r => x6 cmp (some x) r
 | some y, x :: r => if cmp x y < 0 then x6 cmp (some x) r else x6 cmp (some y) r
def c5 {α : Type} (cmp : α → α → Int) (l : List α) : Option α := x6 cmp none l
def U5 {α : Type} (cmp : α → α → Int) (S : α → Prop) (b : α) : Prop := S b ∧ ∀ x, S x → ¬ cmp x b < 0
section
variable {α : Type} {cmp : α → α → Int} (tr : ∀ x y z, ¬ cmp x y < 0 → ¬ cmp y z < 0 → ¬ cmp x z < 0) (asy : ∀ x y, cmp x y < 0 → ¬ cmp y x < 0)
include tr asy
theorem C9 : ∀ (l : List α) (y : α), ∃ b, x6 cmp (some y) l = some b ∧ U5 cmp (fun x => x = y ∨ x ∈ l) b
 | [], y => ⟨y, rfl, .inl rfl, fun x hx => by
  rcases hx with rfl | hx
  ·exact fun h => asy _ _ h h
  ·cases hx⟩
 | x :: r, y => by
  rw [x6]
  split
  ·rename_i h
   obtain ⟨b, h1, h2, h3⟩ := C9 r x
   refine ⟨b, h1, ?_, fun z hz => ?_⟩
   ·rcases h2 with h2 | h2
    ·exact .inr (by simp [h2])
    ·exact .inr (by simp [h2])
   ·rcases hz with rfl | hz
    ·exact tr _ _ _ (asy _ _ h) (h3 x (.inl rfl))
    ·rcases List.mem_cons.1 hz with rfl | hz
     ·exact h3 _ (.inl rfl)
     ·exact h3 _ (.inr hz)
  ·rename_i h
   obtain ⟨b, h1, h2, h3⟩ := C9 r y
   refine ⟨b, h1, ?_, fun z hz => ?_⟩
   ·rcases h2 with h2 | h2
    ·exact .inl h2
    ·exact .inr (by simp [h2])
   ·rcases hz with rfl | hz
    ·exact h3 _ (.inl rfl)
    ·rcases List.mem_cons.1 hz with rfl | hz
     ·exact tr _ _ _ h (h3 y (.inl rfl))
     ·exact h3 _ (.inr hz)
theorem P5 {l : List α} (hl : l ≠ []) : ∃ b, c5 cmp l = some b ∧ U5 cmp (· ∈ l) b := by
 cases l with
 | nil => exact absurd rfl hl
 | cons x r =>
  obtain ⟨b, h1, h2, h3⟩ := C9 tr asy r x
  refine ⟨b, h1, ?_, fun z hz => h3 z ?_⟩
  ·rcases h2 with rfl | h2
   ·simp
   ·simp [h2]
  ·exact List.mem_cons.1 hz
end
theorem zBS {α : Type} {cmp : α → α → Int} : c5 cmp ([] : List α) = none := rfl
theorem zOG {x y z : Str} (h1 : ¬ zNI x y < 0) (h2 : ¬ zNI y z < 0) : ¬ zNI x z < 0 := by
 rw [cmpS_neg] at *
 intro h
 by_cases e : u5 y x = true
 ·exact h2 (zAi e h)
 ·have : x = y := N8 (by simpa using h1) (by simpa using e)
  subst this; exact h2 h
def Y6 (l : List Rule) (n : Nat) (k to : Str) : Option (List Str) := c5 zNM (o0 l to n k [])
def zD9 (s : Str) : Option (List Str) → Str → Option (List Str) → Option (List Str)
 | best, _, none => best
 | none, _, some rest => some (s :: rest)
 | some b, x, some rest => if u5 x (b.getD 1 []) = true then some (s :: rest) else some b
def zEU (l : List Rule) (to : Str) : Nat → Str → Option (List Str)
 | 0, s => if s = to then some [s] else none
 | n + 1, s => (p9 l s).foldl (fun best x => zD9 s best x (zEU l to n x)) none
theorem IsChain.head {l : List Rule} {to : Str} {n : Nat} {s : Str} {c : List Str} (h : IsChain l to n s c) : ∃ r, c = s :: r := by
 cases h with
 | nil => exact ⟨_, rfl⟩
 | cons _ _ => exact ⟨_, rfl⟩
def zOf (l : List Rule) (to : Str) (n : Nat) (s : Str) (xs : List Str) (c : List Str) : Prop := ∃ x r, x ∈ xs ∧ c = s :: r ∧ IsChain l to n x r
end Go.Abs

namespace Go.Abs
open Go
def zNP : Str → Str → Bool
 | [], _ => true
 | _ :: _, [] => false
 | a :: x, b :: y => if a = b then zNP x y else zNP (a :: x) y
def u0 (k whole : Str) : Bool := decide (k.length < whole.length) && (k.getD 0 0 == whole.getD 0 0 && zNP k whole)
def p8 (k : Str) (l : List Str) (own : Str) : Bool := l.any fun s => !(decide (zNG s = own)) && u0 k (zNG s)
def M0 : Str → List Str
 | [] => [[]]
 | a :: r => (M0 r).map (a :: ·) ++ M0 r
theorem mem_subsL : ∀ {k s : Str}, s ∈ M0 k ↔ s.Sublist k
 | [], s => by simp [M0]
 | a :: r, s => by
  rw [M0, List.mem_append, List.mem_map]
  constructor
  ·rintro (⟨t, ht, rfl⟩ | h)
   ·exact (mem_subsL.1 ht).cons_cons a
   ·exact (mem_subsL.1 h).cons a
  ·intro h
   cases h with
   | cons _ h => exact .inr (mem_subsL.2 h)
   | cons_cons _ h => exact .inl ⟨_, mem_subsL.2 h, rfl⟩
def Z6 (k s : Str) : Prop := ∃ t : Str, t.Sublist (k.drop 1) ∧ s = k.take 1 ++ t ∧ s.length < k.length
def Q7 (k : Str) : List Str := ((M0 (k.drop 1)).map (k.take 1 ++ ·)).filter fun s => decide (s.length < k.length)
theorem zGZ {k s : Str} : s ∈ Q7 k ↔ Z6 k s := by
 unfold Q7 Z6
 rw [List.mem_filter, List.mem_map, decide_eq_true_eq]
 constructor
 ·rintro ⟨⟨t, ht, rfl⟩, h⟩; exact ⟨t, mem_subsL.1 ht, rfl, h⟩
 ·rintro ⟨t, ht, rfl, h⟩; exact ⟨⟨t, mem_subsL.2 ht, rfl⟩, h⟩
def zNK (up : Bool) (a b : Str) : Int := orI (if up = true then (a.length : Int) - b.length else (b.length : Int) - a.length) (zNI a b)
theorem L0 {up : Bool} {a b : Str} : zNK up a b < 0 ↔ (if up = true then a.length < b.length else b.length < a.length) ∨ (a.length = b.length ∧ u5 a b = true) := by
 unfold zNK orI
 cases up
 ·simp only [Bool.false_eq_true, if_false]
  by_cases h : (b.length : Int) - a.length = 0
  ·rw [if_pos h, cmpS_neg]
   constructor
   ·intro k; exact .inr ⟨by omega, k⟩
   ·rintro (k | k)
    ·omega
    ·exact k.2
  ·rw [if_neg h]
   constructor
   ·intro k; exact .inl (by omega)
   ·rintro (k | k)
    ·omega
    ·omega
 ·simp only [if_true]
  by_cases h : (a.length : Int) - b.length = 0
  ·rw [if_pos h, cmpS_neg]
   constructor
   ·intro k; exact .inr ⟨by omega, k⟩
   ·rintro (k | k)
    ·omega
    ·exact k.2
  ·rw [if_neg h]
   constructor
   ·intro k; exact .inl (by omega)
   ·rintro (k | k)
    ·omega
    ·omega
theorem zDD {x y z : Str} (h1 : ¬ u5 x y = true) (h2 : ¬ u5 y z = true) : ¬ u5 x z = true := by
 rw [← cmpS_neg] at *; exact zOG h1 h2
theorem zOF {up : Bool} {x y z : Str} (h1 : ¬ zNK up x y < 0) (h2 : ¬ zNK up y z < 0) : ¬ zNK up x z < 0 := by
 rw [L0] at *
 cases up
 ·simp only [Bool.false_eq_true, if_false, not_or, not_and] at *
  refine ⟨by omega, fun e => ?_⟩
  exact zDD (h1.2 (by omega)) (h2.2 (by omega))
 ·simp only [if_true, not_or, not_and] at *
  refine ⟨by omega, fun e => ?_⟩
  exact zDD (h1.2 (by omega)) (h2.2 (by omega))
theorem H3 {up : Bool} (x y : Str) (h : zNK up x y < 0) : ¬ zNK up y x < 0 := by
 rw [L0] at *
 cases up
 ·simp only [Bool.false_eq_true, if_false, not_or, not_and] at *
  rcases h with h | h
  ·exact ⟨by omega, fun e => by omega⟩
  ·exact ⟨by omega, fun _ => by rw [zAf h.2]; simp⟩
 ·simp only [if_true, not_or, not_and] at *
  rcases h with h | h
  ·exact ⟨by omega, fun e => by omega⟩
  ·exact ⟨by omega, fun _ => by rw [zAf h.2]; simp⟩
theorem zB7 {up : Bool} {S : Str → Prop} {a b : Str} (ha : U5 (zNK up) S a) (hb : U5 (zNK up) S b) : a = b := by
 have h1 := ha.2 b hb.1
 have h2 := hb.2 a ha.1
 rw [L0] at h1 h2
 have hl : a.length = b.length := by
  cases up
  ·simp only [Bool.false_eq_true, if_false, not_or] at h1 h2; omega
  ·simp only [if_true, not_or] at h1 h2; omega
 simp only [not_or, not_and] at h1 h2
 exact N8 (by simpa using h2.2 hl) (by simpa using h1.2 hl.symm)
def W7 (l : List Str) (own : Str) (most : Int) (s : Str) : Prop := Z6 own s ∧ (s.length : Int) ≤ most ∧ p8 s l own = false
def zNN (l : List Str) (own : Str) (most : Int) (up : Bool) : Option Str := c5 (zNK up) ((Q7 own).filter fun s => decide ((s.length : Int) ≤ most) && !p8 s l own)
theorem mem_ok {l : List Str} {own : Str} {most : Int} {s : Str} : s ∈ (Q7 own).filter (fun s => decide ((s.length : Int) ≤ most) && !p8 s l own) ↔ W7 l own most s := by
 unfold W7
 rw [List.mem_filter, zGZ, Bool.and_eq_true, decide_eq_true_eq, Bool.not_eq_true']
theorem zEn {l : List Str} {own : Str} {most : Int} {up : Bool} {L : List Str} (h : ∀ s, s ∈ L ↔ W7 l own most s) : c5 (zNK up) L = zNN l own most up := by
  have hm : ∀ s, s ∈ L ↔ s ∈ (Q7 own).filter (fun s => decide ((s.length : Int) ≤ most) && !p8 s l own) := fun s => (h s).trans mem_ok.symm
  unfold zNN
  by_cases e : L = []
  · have e2 : (Q7 own).filter (fun s => decide ((s.length : Int) ≤ most) && !p8 s l own) = [] := by
      rw [List.eq_nil_iff_forall_not_mem]
      intro x hx
      have := (hm x).2 hx
      rw [e] at this; cases this
    rw [e, e2]
  · have e2 : (Q7 own).filter (fun s => decide ((s.length : Int) ≤ most) && !p8 s l own) ≠ [] := fun k => e (by
      rw [List.eq_nil_iff_forall_not_mem]
      intro x hx
      have := (hm x).1 hx
      rw [k] at this; cases this)
    obtain ⟨a, a1, a2⟩ := P5 (cmp := zNK up) (fun _ _ _ => zOF) H3 e
    obtain ⟨b, b1, b2⟩ := P5 (cmp := zNK up) (fun _ _ _ => zOF) H3 e2
    rw [a1, b1, zB7 a2 ⟨(hm b).2 b2.1, fun x hx => b2.2 x ((hm x).1 hx)⟩]
theorem cutN_some {l : List Str} {own : Str} {most : Int} {up : Bool} {s : Str} : zNN l own most up = some s ↔ U5 (zNK up) (W7 l own most) s := by
 unfold zNN
 by_cases e : (Q7 own).filter (fun s => decide ((s.length : Int) ≤ most) && !p8 s l own) = []
 ·rw [e, zBS]
  constructor
  ·intro h; cases h
  ·intro h
   have := mem_ok.2 h.1
   rw [e] at this; cases this
 ·obtain ⟨b, b1, b2⟩ := P5 (cmp := zNK up) (fun _ _ _ => zOF) H3 e
  have hb : U5 (zNK up) (W7 l own most) b := ⟨mem_ok.1 b2.1, fun x hx => b2.2 x (mem_ok.2 hx)⟩
  rw [b1]
  constructor
  ·intro h; cases h; exact hb
  ·intro h; rw [zB7 h hb]
theorem cutN_none {l : List Str} {own : Str} {most : Int} {up : Bool} : zNN l own most up = none ↔ ∀ s, ¬ W7 l own most s := by
 constructor
 ·intro h s hs
  have : c5 (zNK up) ((Q7 own).filter fun s => decide ((s.length : Int) ≤ most) && !p8 s l own) = none := h
  by_cases e : (Q7 own).filter (fun s => decide ((s.length : Int) ≤ most) && !p8 s l own) = []
  ·have := mem_ok.2 hs
   rw [e] at this; cases this
  ·obtain ⟨b, b1, _⟩ := P5 (cmp := zNK up) (fun _ _ _ => zOF) H3 e
   rw [b1] at this; cases this
 ·intro h
  cases e : zNN l own most up with
  | none => rfl
  | some s => exact absurd (cutN_some.1 e).1 (h s)
def j5 : Nat → Str → List Str
 | 0, _ => [[]]
 | n + 1, s => match s with
  | [] => []
  | a :: r => (j5 n r).map (a :: ·) ++ j5 (n + 1) r
 termination_by n s => (n, s.length)
theorem mem_partsN : ∀ {n : Nat} {s t : Str}, t ∈ j5 n s ↔ t.length = n ∧ t.Sublist s
 | 0, s, t => by
  rw [j5, List.mem_singleton, List.length_eq_zero_iff]
  exact ⟨fun h => ⟨h, by rw [h]; exact List.nil_sublist _⟩, fun h => h.1⟩
 | n + 1, [], t => by
  rw [j5]
  constructor
  ·intro h; cases h
  ·rintro ⟨h1, h2⟩
   rw [List.sublist_nil.1 h2] at h1; cases h1
 | n + 1, a :: r, t => by
  rw [j5, List.mem_append, List.mem_map]
  constructor
  ·rintro (⟨u, hu, rfl⟩ | h)
   ·obtain ⟨h1, h2⟩ := mem_partsN.1 hu
    exact ⟨by simp [h1], h2.cons_cons a⟩
   ·obtain ⟨h1, h2⟩ := mem_partsN.1 h
    exact ⟨h1, h2.cons a⟩
  ·rintro ⟨h1, h2⟩
   cases h2 with
   | cons _ h2 => exact .inr (mem_partsN.2 ⟨h1, h2⟩)
   | cons_cons _ h2 => exact .inl ⟨_, mem_partsN.2 ⟨by simpa using h1, h2⟩, rfl⟩
 termination_by n s => (n, s.length)
def W8 (l : List Str) (own : Str) (many : Nat) : Option Str :=
 if own.length ≤ many then none else c5 zNI (((j5 (many - 1) (own.drop 1)).map (own.take 1 ++ ·)).filter fun s => !p8 s l own)
end Go.Abs

namespace Go.Abs
open Go
theorem G1 {own s : Str} (h : Z6 own s) : 1 ≤ s.length := by
 obtain ⟨t, ht, rfl, hl⟩ := h
 cases own with
 | nil => simp at hl
 | cons a r => simp
theorem zBt {own s : Str} {m : Nat} (hm : 1 ≤ m) : (Z6 own s ∧ s.length = m) ↔ m < own.length ∧ ∃ t : Str, t.length = m - 1 ∧ t.Sublist (own.drop 1) ∧ s = own.take 1 ++ t := by
 constructor
 ·rintro ⟨⟨t, ht, rfl, hl⟩, rfl⟩
  refine ⟨hl, t, ?_, ht, rfl⟩
  cases own with
  | nil => simp at hl
  | cons a r => simp
 ·rintro ⟨hl, t, h1, h2, rfl⟩
  have : (own.take 1 ++ t).length = m := by
   cases own with
   | nil => simp at hl
   | cons a r => simp; omega
  exact ⟨⟨t, h2, rfl, by omega⟩, this⟩
def M2 (l : List Str) (own : Str) (m : Nat) (s : Str) : Prop := Z6 own s ∧ s.length = m ∧ p8 s l own = false
theorem zAD {l : List Str} {own s : Str} {m : Nat} (hm : 1 ≤ m) (hl : m < own.length) : s ∈ ((j5 (m - 1) (own.drop 1)).map (own.take 1 ++ ·)).filter (fun s => !p8 s l own) ↔ M2 l own m s := by
 unfold M2
 rw [List.mem_filter, List.mem_map, Bool.not_eq_true']
 constructor
 ·rintro ⟨⟨t, ht, rfl⟩, h⟩
  obtain ⟨h1, h2⟩ := mem_partsN.1 ht
  obtain ⟨h3, h4⟩ := (zBt hm).2 ⟨hl, t, h1, h2, rfl⟩
  exact ⟨h3, h4, h⟩
 ·rintro ⟨h1, h2, h3⟩
  obtain ⟨_, t, h4, h5, rfl⟩ := (zBt hm).1 ⟨h1, h2⟩
  exact ⟨⟨t, mem_partsN.2 ⟨h4, h5⟩, rfl⟩, h3⟩
theorem zA2 (x y : Str) (h : zNI x y < 0) : ¬ zNI y x < 0 := by have := L1 x y; omega
theorem zD8 {l : List Str} {own s : Str} {m : Nat} (hm : 1 ≤ m) (h : W8 l own m = some s) : U5 zNI (M2 l own m) s := by
 unfold W8 at h
 by_cases hl : own.length ≤ m
 ·rw [if_pos hl] at h; cases h
 ·rw [if_neg hl] at h
  by_cases e : ((j5 (m - 1) (own.drop 1)).map (own.take 1 ++ ·)).filter (fun s => !p8 s l own) = []
  ·rw [e, zBS] at h; cases h
  ·obtain ⟨b, b1, b2⟩ := P5 (cmp := zNI) (fun _ _ _ => zOG) zA2 e
   rw [b1] at h; cases h
   exact ⟨(zAD hm (by omega)).1 b2.1, fun x hx => b2.2 x ((zAD hm (by omega)).2 hx)⟩
theorem zA5 {l : List Str} {own : Str} {m : Nat} (hm : 1 ≤ m) (h : W8 l own m = none) : ∀ s, ¬ M2 l own m s := by
 intro s hs
 have hl : m < own.length := by
  have := hs.1
  obtain ⟨_, _, _, h2⟩ := this
  have := hs.2.1
  omega
 unfold W8 at h
 rw [if_neg (by omega)] at h
 by_cases e : ((j5 (m - 1) (own.drop 1)).map (own.take 1 ++ ·)).filter (fun s => !p8 s l own) = []
 ·have := (zAD hm hl).2 hs
  rw [e] at this; cases this
 ·obtain ⟨b, b1, _⟩ := P5 (cmp := zNI) (fun _ _ _ => zOG) zA2 e
  rw [b1] at h; cases h
theorem zBT {α β : Type} {f : α → Option β} : ∀ {L : List α}, o6 f L = none → ∀ x, x ∈ L → f x = none
 | [], _, _, hx => by cases hx
 | y :: r, h, x, hx => by
  rw [o6] at h
  split at h
  ·cases h
  ·rename_i e
   rcases List.mem_cons.1 hx with rfl | hx
   ·exact e
   ·exact zBT h x hx
theorem zBU {α β : Type} {f : α → Option β} {b : β} : ∀ {L : List α}, o6 f L = some b → ∃ pre x post, L = pre ++ x :: post ∧ f x = some b ∧ ∀ y, y ∈ pre → f y = none
 | [], h => by cases h
 | y :: r, h => by
  rw [o6] at h
  split at h
  ·rename_i e; cases h; exact ⟨[], y, r, rfl, e, fun _ h => by cases h⟩
  ·rename_i e
   obtain ⟨pre, x, post, rfl, h1, h2⟩ := zBU h
   exact ⟨y :: pre, x, post, rfl, h1, fun z hz => by
    rcases List.mem_cons.1 hz with rfl | hz
    ·exact e
    ·exact h2 z hz⟩
theorem zHY {l : List Str} {own : Str} {most : Int} {up : Bool} {L : List Nat} (hc : ∀ m : Nat, m ∈ L ↔ 1 ≤ m ∧ (m : Int) ≤ most) (ho : L.Pairwise (fun a b => if up = true then a < b else b < a)) :
  o6 (W8 l own) L = zNN l own most up := by
 cases h : o6 (W8 l own) L with
 | none =>
  refine (cutN_none.2 (fun s hs => ?_)).symm
  have hp := G1 hs.1
  exact zA5 hp (zBT h s.length ((hc _).2 ⟨hp, hs.2.1⟩)) s ⟨hs.1, rfl, hs.2.2⟩
 | some b =>
  obtain ⟨pre, m, post, rfl, h1, h2⟩ := zBU h
  obtain ⟨hm1, hm2⟩ := (hc m).1 (by simp)
  have hb := zD8 hm1 h1
  refine (cutN_some.2 ⟨⟨hb.1.1, by rw [hb.1.2.1]; exact hm2, hb.1.2.2⟩, fun x hx => ?_⟩).symm
  have hxp := G1 hx.1
  have hxl := (hc x.length).2 ⟨hxp, hx.2.1⟩
  have hbl := hb.1.2.1
  rw [L0]
  rcases List.mem_append.1 hxl with hxl | hxl
  ·exact absurd (⟨hx.1, rfl, hx.2.2⟩ : M2 l own x.length x) (zA5 hxp (h2 _ hxl) x)
  ·rcases List.mem_cons.1 hxl with e | hxl
   ·have := hb.2 x ⟨hx.1, e, hx.2.2⟩
    rw [cmpS_neg] at this
    cases up
    ·simp only [Bool.false_eq_true, if_false, not_or, not_and]; exact ⟨by omega, fun _ => this⟩
    ·simp only [if_true, not_or, not_and]; exact ⟨by omega, fun _ => this⟩
   ·have := (List.pairwise_cons.1 (List.pairwise_append.1 ho).2.1).1 _ hxl
    cases up
    ·simp only [Bool.false_eq_true, if_false, not_or, not_and] at *; exact ⟨by omega, fun _ => by omega⟩
    ·simp only [if_true, not_or, not_and] at *; exact ⟨by omega, fun _ => by omega⟩
def t8 (l : List Str) (i : Int) : Str := zNG (l.getD i.toNat [])
def j4 (l : List Str) (i : Int) : Int := if u9 l = 0 then if i < 0 ∨ (l.length : Int) ≤ i then 3 else 0 else u9 l
def zOD (s : Str) : Str := s ++ [46]
def N5 (l : List Str) (i : Int) : Int := if j4 l i = 0 then if (zNN l (t8 l i) 12 true).isSome = true then 0 else 11 else j4 l i
def N6 (l : List Str) (i : Int) : Str := if j4 l i = 0 then ((zNN l (t8 l i) 12 true).map zOD).getD [] else []
def B0 (l : List Str) (i w : Int) : Int := if j4 l i = 0 then if w < 1 then 1 else if ((t8 l i).length : Int) ≤ w then 0 else if (zNN l (t8 l i) (w - 1) false).isSome = true then 0 else 11 else j4 l i
def zOP (l : List Str) (i w : Int) : Str := if j4 l i = 0 then if w < 1 then [] else if ((t8 l i).length : Int) ≤ w then t8 l i else ((zNN l (t8 l i) (w - 1) false).map zOD).getD [] else []
theorem zMn (l : List Str) (own : Str) : o6 (W8 l own) [1, 2, 3, 4, 5, 6, 7, 8, 9, 10, 11, 12] = zNN l own 12 true :=
 zHY (fun m => by simp only [List.mem_cons, List.not_mem_nil, or_false]; omega) (by decide)
def zEp : Nat → List Nat
 | 0 => []
 | n + 1 => (n + 1) :: zEp n
end Go.Abs

namespace Go.Abs
open Go
def otherL : List UInt8 := [65, 66, 67, 68, 69, 70, 71, 73, 74, 75, 76, 77, 78, 79, 80, 82, 83, 84, 85, 86, 88, 89, 90]
def zBa : Nat → Str → Option Str
 | _, [] => some []
 | 0, _ :: _ => none
 | n + 1, a :: r => o6 (fun c => if (w6 c).isPrefixOf (a :: r) = true then (zBa n ((a :: r).drop (w6 c).length)).map (c :: ·) else none) otherL
def zBb (k : Str) : Option Str := zBa k.length k
def zGq : Nat → Str → List Str
 | _, [] => [[]]
 | 0, _ :: _ => []
 | n + 1, a :: r => otherL.flatMap fun c => if (w6 c).isPrefixOf (a :: r) = true then (zGq n ((a :: r).drop (w6 c).length)).map (c :: ·) else []
def zL4 (s : Str) : Int := if x4 s = 0 then if (zBb (zNG s)).isSome = true then 0 else 11 else x4 s
def zL6 (s : Str) : Str := if x4 s = 0 then (zBb (zNG s)).getD [] else []
def b4 (r : List Rule) (a b : Str) : Int := if j7 r = 0 then if x4 a = 0 then x4 b else x4 a else j7 r
def M9 (r : List Rule) (a b : Str) : Option (List Str) := o6 (fun n => Y6 r n (zNG a) (zNG b)) [0, 1, 2]
def e8 (r : List Rule) (a b : Str) : Int := if b4 r a b = 0 then if (M9 r a b).isSome = true then 0 else 11 else b4 r a b
def zEV (r : List Rule) (a b : Str) : List Str := if b4 r a b = 0 then (M9 r a b).getD [] else []
def zDK (r : List Rule) (a b : Str) : Int := if e8 r a b = 0 then ((zEV r a b).length : Int) - 1 else 0
def zNA (r : List Rule) (a b : Str) : Int := if e8 r a b = 11 then 2 else if e8 r a b = 0 then (if zDK r a b = 0 then 1 else 3) else 0
def zM9 (r : List Rule) (a b : Str) : Int := if e8 r a b = 11 then 0 else e8 r a b
theorem zEW {r : List Rule} {to : Str} {n : Nat} {s : Str} {c : List Str} (h : IsChain r to n s c) : c.length = n + 1 := by
 induction h with
 | nil => rfl
 | cons _ _ ih => rw [List.length_cons, ih]
def G7 (r : List Rule) (s : Str) (l : List Str) (n : Int) (i : Nat) : List Int := (List.range' i (l.length - i)).flatMap fun (i : Nat) => if e8 r s (l.getD i []) = 0 ∧ zDK r s (l.getD i []) = n then [(i : Int)] else []
def zLn (r : List Rule) (s : Str) (l : List Str) : List Int := G7 r s l 0 0 ++ G7 r s l 1 0 ++ G7 r s l 2 0
def zLm (r : List Rule) (s : Str) (l : List Str) : Int := if j7 r = 0 then if x4 s = 0 then u9 l else x4 s else j7 r
end Go.Abs

namespace Go.Abs
open Go
structure Dice where
 list : List Int
 at_ : Nat
 seed : Int
 deriving Inhabited
abbrev uV (n : Int) : AV := .raw (.int .u64 n)
def w7 (d : Dice) : AObj := .box [.list (d.list.map iV), iV d.at_, uV d.seed]
def Q3 (a b : Int) : Int := IntKind.u64.wrap (BitVec.ofInt IntKind.u64.bits a ^^^ BitVec.ofInt IntKind.u64.bits b).toNat
def I4 (a : Int) (k : Nat) : Int := IntKind.u64.wrap (a * 2 ^ (min k IntKind.u64.bits))
def f8 (a : Int) (k : Nat) : Int := a.fdiv (2 ^ (min k IntKind.u64.bits))
def zOQ (s : Int) : Int := Q3 s (I4 s 13)
def zOR (s : Int) : Int := Q3 s (f8 s 7)
def zOS (s : Int) : Int := Q3 s (I4 s 17)
def K8 (s : Int) : Int := zOS (zOR (zOQ s))
def zNo (d : Dice) : Int := if d.at_ < d.list.length then IntKind.u64.wrap (K8 d.seed + IntKind.u64.wrap (IntKind.u64.wrap (d.list.getD d.at_ default) * 13787848793156543929)) else K8 d.seed
def zNg (d : Dice) : Dice := ⟨d.list, if d.at_ < d.list.length then d.at_ + 1 else d.at_, zNo d⟩
def zOB (n : Int) : Int := IntKind.u64.wrap (Q3 n (f8 n 30) * 10723151780598845931)
def zNj (d : Dice) : Int := Q3 (zOB (zNo d)) (f8 (zOB (zNo d)) 31)
theorem zJI (n : Int) : 0 ≤ IntKind.u64.wrap n ∧ IntKind.u64.wrap n < 18446744073709551616 := by
 rw [IntKind.wrap_u64]; omega
theorem zG3 (d : Dice) : 0 ≤ zNj d ∧ zNj d < 18446744073709551616 := zJI _
def toN (n : Int) (d : Dice) : Int := if n < 1 then 0 else (f8 (zNj d) 16).tmod (n + 1)
def toD (n : Int) (d : Dice) : Dice := if n < 1 then d else zNg d
theorem zHc (n : Int) (h0 : 0 ≤ n) : 0 ≤ f8 n 16 := by
 unfold f8
 rw [Int.fdiv_eq_ediv_of_nonneg _ (by decide)]
 exact Int.ediv_nonneg h0 (by decide)
theorem zDI (n : Int) (d : Dice) : 0 ≤ toN n d ∧ (toN n d ≤ n ∨ toN n d = 0) := by
 unfold toN
 split
 ·omega
 ·have h := zHc _ (zG3 d).1
  rw [Int.tmod_eq_emod_of_nonneg h]
  have h1 := Int.emod_nonneg (f8 (zNj d) 16) (b := n + 1) (by omega)
  have h2 := Int.emod_lt_of_pos (f8 (zNj d) 16) (b := n + 1) (by omega)
  omega
theorem b8 {n : Int} (h : 0 ≤ n) (d : Dice) : 0 ≤ toN n d ∧ toN n d ≤ n := by
 have := zDI n d; omega
def Z0 (lo hi : Int) (d : Dice) : Int := lo + toN (hi - lo) d
def Y9 (lo hi : Int) (d : Dice) : Dice := toD (hi - lo) d
theorem B2 {lo hi : Int} (h : lo ≤ hi) (d : Dice) : lo ≤ Z0 lo hi d ∧ Z0 lo hi d ≤ hi := by
 have := b8 (n := hi - lo) (by omega) d
 unfold Z0; omega
def c9 (k : Int) (d : Dice) : Bool := toN (k - 1) d == 0
def w3 (k : Int) (d : Dice) : Dice := toD (k - 1) d
end Go.Abs

namespace Go.Abs
open Go
theorem mem_replacedN {k a b s : Str} : s ∈ j6 k a b ↔ ∃ i, i ≤ k.length ∧ a.isPrefixOf (k.drop i) = true ∧ x7 s 1 12 = true ∧ s = k.take i ++ b ++ k.drop (i + a.length) := by
 unfold j6 X5
 rw [List.mem_flatMap]
 constructor
 ·rintro ⟨i, hi, h⟩
  rw [List.mem_range'_1] at hi
  split at h
  ·rename_i hc
   have := List.mem_singleton.1 h
   subst this
   exact ⟨i, by omega, hc.1, hc.2, rfl⟩
  ·cases h
 ·rintro ⟨i, hi, h1, h2, rfl⟩
  refine ⟨i, by rw [List.mem_range'_1]; omega, ?_⟩
  rw [if_pos ⟨h1, h2⟩]
  simp
theorem zGy {a x : Str} (h : a.isPrefixOf x = true) : x = a ++ x.drop a.length := by
 obtain ⟨t, rfl⟩ := List.isPrefixOf_iff_prefix.1 h
 simp
theorem zCf {k a b s : Str} (hk : x7 k 1 12 = true) (h : s ∈ j6 k a b) : k ∈ j6 s b a := by
  obtain ⟨i, hi, h1, h2, rfl⟩ := mem_replacedN.1 h
  have e := zGy h1
  have hti : (k.take i).length = i := by rw [List.length_take]; omega
  refine mem_replacedN.2 ⟨i, by simp; omega, ?_, hk, ?_⟩
  · rw [List.append_assoc, List.drop_append_of_le_length (by omega), List.drop_of_length_le (by omega : (k.take i).length ≤ i), List.nil_append]
    exact List.isPrefixOf_iff_prefix.2 ⟨_, rfl⟩
  · have e1 : (k.take i ++ b ++ k.drop (i + a.length)).take i = k.take i := by
      rw [List.append_assoc, List.take_append_of_le_length (by omega), List.take_of_length_le (by omega)]
    have e2 : (k.take i ++ b ++ k.drop (i + a.length)).drop (i + b.length) = k.drop (i + a.length) := by
      rw [List.drop_append, List.drop_of_length_le (by simp; omega), List.nil_append]
      have : i + b.length - (k.take i ++ b).length = 0 := by simp; omega
      rw [this]; rfl
    rw [e1, e2]
    have e3 : k.drop (i + a.length) = (k.drop i).drop a.length := by rw [List.drop_drop]
    rw [e3, List.append_assoc, ← e, List.take_append_drop]
theorem zJD {l : List Rule} {k s : Str} (hk : x7 k 1 12 = true) (h : s ∈ p9 l k) : k ∈ p9 l s ∧ x7 s 1 12 = true := by
 unfold p9 at *
 obtain ⟨r, hr, h⟩ := List.mem_flatMap.1 h
 rcases List.mem_append.1 h with h | h
 ·exact ⟨List.mem_flatMap.2 ⟨r, hr, List.mem_append.2 (.inr (zCf hk h))⟩, by obtain ⟨_, _, _, h2, _⟩ := mem_replacedN.1 h; exact h2⟩
 ·exact ⟨List.mem_flatMap.2 ⟨r, hr, List.mem_append.2 (.inl (zCf hk h))⟩, by obtain ⟨_, _, _, h2, _⟩ := mem_replacedN.1 h; exact h2⟩
def Far (l : List Rule) (n : Nat) (s t : Str) : Prop := ∃ c, IsChain l t n s c
theorem Far.zero {l : List Rule} {s t : Str} : Far l 0 s t ↔ s = t := by
 constructor
 ·rintro ⟨c, h⟩; cases h; rfl
 ·rintro rfl; exact ⟨_, .nil⟩
theorem Far.step {l : List Rule} {n : Nat} {s t : Str} : Far l (n + 1) s t ↔ ∃ x, x ∈ p9 l s ∧ Far l n x t := by
 constructor
 ·rintro ⟨c, h⟩
  cases h with
  | cons h1 h2 => exact ⟨_, h1, _, h2⟩
 ·rintro ⟨x, h1, c, h2⟩; exact ⟨_, .cons h1 h2⟩
theorem Far.join {l : List Rule} : ∀ {n m : Nat} {s t u : Str}, Far l n s t → Far l m t u → Far l (n + m) s u
 | 0, m, s, t, u, h1, h2 => by rw [Far.zero.1 h1, Nat.zero_add]; exact h2
 | n + 1, m, s, t, u, h1, h2 => by
  obtain ⟨x, hx, h⟩ := Far.step.1 h1
  rw [show n + 1 + m = (n + m) + 1 by omega]
  exact Far.step.2 ⟨x, hx, h.join h2⟩
theorem Far.back {l : List Rule} : ∀ {n : Nat} {s t : Str}, x7 s 1 12 = true → Far l n s t → Far l n t s
 | 0, s, t, _, h => by rw [Far.zero.1 h]; exact Far.zero.2 rfl
 | n + 1, s, t, hs, h => by
  obtain ⟨x, hx, h⟩ := Far.step.1 h
  obtain ⟨g1, g2⟩ := zJD hs hx
  have := (h.back g2).join (m := 1) (Far.step.2 ⟨s, g1, Far.zero.2 rfl⟩)
  exact this
theorem Far.more {l l' : List Rule} (h : ∀ r, r ∈ l → r ∈ l') : ∀ {n : Nat} {s t : Str}, Far l n s t → Far l' n s t
 | 0, s, t, k => Far.zero.2 (Far.zero.1 k)
 | n + 1, s, t, k => by
  obtain ⟨x, hx, k⟩ := Far.step.1 k
  refine Far.step.2 ⟨x, ?_, k.more h⟩
  unfold p9 at *
  obtain ⟨r, hr, hx⟩ := List.mem_flatMap.1 hx
  exact List.mem_flatMap.2 ⟨r, h r hr, hx⟩
def zOj (r : List Rule) (a b : Str) : Int := match M9 r a b with
 | some c => (c.length : Int) - 1
 | none => 9
theorem K1 {s : Str} (v : ValidN s) : x7 (zNG s) 1 12 = true := by
 have h1 := A3 s
 have h2 := v.ne
 have h3 := v.len
 unfold x7
 rw [Bool.and_eq_true, Bool.and_eq_true, decide_eq_true_eq, decide_eq_true_eq]
 exact ⟨by omega, by omega, zGB v.form⟩
end Go.Abs

namespace Go.Abs
open Go
section
variable {α : Type} (cf : α → α → Int)
def zNq (x : α) : List α → List α
 | [] => [x]
 | y :: r => if cf x y < 0 then y :: zNq x r else x :: y :: r
def zNX (pre : List α) (x : α) : List α := (zNq cf x pre.reverse).reverse
def o9 (xs : List α) : List α := xs.foldl (zNX cf) []
theorem zBq (x : α) : ∀ l : List α, (zNq cf x l).Perm (x :: l)
 | [] => .refl _
 | y :: r => by
  unfold zNq
  split
  ·exact ((zBq x r).cons y).trans (.swap x y r)
  ·exact .refl _
theorem zF5 (pre : List α) (x : α) : (zNX cf pre x).Perm (pre ++ [x]) := by
 unfold zNX
 refine (List.reverse_perm _).trans ((zBq cf x _).trans ?_)
 exact ((List.reverse_perm pre).cons x).trans (List.perm_append_comm (l₁ := [x]) (l₂ := pre))
theorem zBv : ∀ (xs pre : List α), (xs.foldl (zNX cf) pre).Perm (pre ++ xs)
 | [], pre => by simp
 | x :: r, pre => by
  rw [List.foldl_cons]
  refine (zBv r _).trans ?_
  refine ((zF5 cf pre x).append_right r).trans ?_
  simp
theorem A1 (xs : List α) : (o9 cf xs).Perm xs := by have := zBv cf xs []; simpa [o9] using this
theorem zBw (xs : List α) : (o9 cf xs).length = xs.length := (A1 cf xs).length_eq
theorem zGA (xs : List α) (x : α) : o9 cf (xs ++ [x]) = zNX cf (o9 cf xs) x := by simp [o9, List.foldl_append]
def zNe (S : List α) (x : α) (R : List α) (d : Nat) : List α := S.take (S.length - d) ++ x :: (S.drop (S.length - d) ++ R)
theorem zEh (S : List α) (x : α) (R : List α) (d : Nat) : (zNe S x R d).length = S.length + 1 + R.length := by simp [zNe]; omega
variable [Inhabited α]
theorem zEj (S : List α) (x : α) (R : List α) {d : Nat} (h : d ≤ S.length) : (zNe S x R d).getD (S.length - d) default = x := by
 unfold zNe
 simp only [List.getD_eq_getElem?_getD]
 rw [List.getElem?_append_right (by simp)]
 simp [show min (S.length - d) S.length = S.length - d by omega]
theorem zEk (S : List α) (x : α) (R : List α) {d : Nat} (h : d < S.length) : (zNe S x R d).getD (S.length - d - 1) default = S.getD (S.length - d - 1) default := by
 unfold zNe
 simp only [List.getD_eq_getElem?_getD]
 rw [List.getElem?_append_left (by simp; omega), List.getElem?_take, if_pos (by omega)]
theorem zEi (S : List α) (x : α) (R : List α) {d : Nat} (h : d < S.length) :
  ((zNe S x R d).set (S.length - d) (S.getD (S.length - d - 1) default)).set (S.length - d - 1) x = zNe S x R (d + 1) := by
 obtain ⟨j, hj⟩ : ∃ j, S.length - d = j + 1 := ⟨S.length - d - 1, by omega⟩
 have hj' : S.length - (d + 1) = j := by omega
 have hlt : j < S.length := by omega
 unfold zNe
 rw [hj, hj']
 have e1 : S.take (j + 1) = S.take j ++ [S.getD j default] := by rw [List.take_add_one]; simp [List.getD, hlt]
 have e2 : S.drop j = S.getD j default :: S.drop (j + 1) := j3 hlt
 rw [e1, e2]
 simp only [Nat.add_sub_cancel]
 have hl : (S.take j).length = j := by simp; omega
 rw [List.append_assoc, List.set_append_right _ _ (by omega), hl]
 simp only [Nat.add_sub_cancel_left, List.singleton_append, List.set_cons_succ, List.set_cons_zero]
 rw [List.set_append_right _ _ (by omega), hl]
 simp
theorem zF7 (pre : List α) (x y : α) (h : cf x y < 0) : zNX cf (pre ++ [y]) x = zNX cf pre x ++ [y] := by
 have _ := (default : α)
 unfold zNX; simp [zNq, h]
theorem zF6 (pre : List α) (x y : α) (h : ¬ cf x y < 0) : zNX cf (pre ++ [y]) x = pre ++ [y] ++ [x] := by
 have _ := (default : α)
 unfold zNX; simp [zNq, h]
theorem zI6 {l : List α} {i : Nat} (h : i < l.length) : l.take (i + 1) = l.take i ++ [l.getD i default] := by
 rw [List.take_add_one]; simp [List.getD, h]
def InsP (S : List α) (x : α) (R : List α) (cur : List α) (d : Nat) : Prop := cur = zNe S x R d ∧ zNX cf S x = zNX cf (S.take (S.length - d)) x ++ S.drop (S.length - d)
theorem InsP.start (S : List α) (x : α) (R : List α) : InsP cf S x R (S ++ x :: R) 0 := by simp [InsP, zNe]
theorem InsP.next {S : List α} {x : α} {R cur : List α} {d : Nat} (h : InsP cf S x R cur d) (hd : d < S.length) (hc : cf x (S.getD (S.length - d - 1) default) < 0) :
  InsP cf S x R ((cur.set (S.length - d) (S.getD (S.length - d - 1) default)).set (S.length - d - 1) x) (d + 1) := by
 obtain ⟨h1, h2⟩ := h
 refine ⟨by rw [h1, zEi S x R hd], ?_⟩
 obtain ⟨j, hj⟩ : ∃ j, S.length - d = j + 1 := ⟨S.length - d - 1, by omega⟩
 have hj' : S.length - (d + 1) = j := by omega
 have hlt : j < S.length := by omega
 have e1 : S.take (j + 1) = S.take j ++ [S.getD j default] := by rw [List.take_add_one]; simp [List.getD, hlt]
 have e2 : S.drop j = S.getD j default :: S.drop (j + 1) := j3 hlt
 rw [hj] at h2 hc
 simp only [Nat.add_sub_cancel] at hc
 rw [h2, hj', e1, zF7 cf _ _ _ hc, e2, List.append_assoc]; rfl
theorem InsP.stop {S : List α} {x : α} {R cur : List α} {d : Nat} (h : InsP cf S x R cur d) (hd : d ≤ S.length) (hc : d < S.length → ¬ cf x (S.getD (S.length - d - 1) default) < 0) : cur = zNX cf S x ++ R := by
 obtain ⟨h1, h2⟩ := h
 rw [h1, h2]
 unfold zNe
 by_cases e : d = S.length
 ·subst e; simp [zNX, zNq]
 ·obtain ⟨j, hj⟩ : ∃ j, S.length - d = j + 1 := ⟨S.length - d - 1, by omega⟩
  have hlt : j < S.length := by omega
  have e1 : S.take (j + 1) = S.take j ++ [S.getD j default] := by rw [List.take_add_one]; simp [List.getD, hlt]
  have hc' := hc (by omega)
  rw [hj] at hc' ⊢
  simp only [Nat.add_sub_cancel] at hc'
  rw [e1, zF6 cf _ _ _ hc']; simp
end
end Go.Abs

namespace Go.Abs
open Go
theorem zEe (a b : Int) : zNV b a = -zNV a b := by
 unfold zNV
 repeat' split
 all_goals omega
theorem zEf (a b : Str) : o5 b a = -o5 a b := by
 unfold o5 orI
 rw [L1 (zNG a) (zNG b), zEe (l8 a) (l8 b)]
 by_cases h : zNI (zNG a) (zNG b) = 0
 ·rw [if_pos h, if_pos (by omega)]
 ·rw [if_neg h, if_neg (by omega)]
theorem zFb {x y z : Str} (h1 : ¬ o5 x y < 0) (h2 : ¬ o5 y z < 0) : ¬ o5 x z < 0 := by
 unfold o5 orI at *
 have a1 := L1 (zNG x) (zNG y)
 have a2 := L1 (zNG y) (zNG z)
 have gS := fun (p : ¬ zNI (zNG x) (zNG y) < 0) (q : ¬ zNI (zNG y) (zNG z) < 0) => zOG p q
 by_cases e1 : zNI (zNG x) (zNG y) = 0
 ·rw [if_pos e1] at h1
  rw [cmpS_zero.1 e1]
  by_cases e2 : zNI (zNG y) (zNG z) = 0
  ·rw [if_pos e2] at h2 ⊢
   unfold zNV at *
   repeat' split at h1
   all_goals repeat' split at h2
   all_goals repeat' split
   all_goals omega
  ·rw [if_neg e2] at h2 ⊢
   exact h2
 ·rw [if_neg e1] at h1
  by_cases e2 : zNI (zNG y) (zNG z) = 0
  ·rw [if_pos e2] at h2
   rw [← cmpS_zero.1 e2, if_neg e1]; exact h1
  ·rw [if_neg e2] at h2
   have h3 := gS h1 h2
   by_cases e3 : zNI (zNG x) (zNG z) = 0
   ·have e := cmpS_zero.1 e3
    rw [e] at a1 h1
    have := L1 (zNG y) (zNG z)
    omega
   ·rw [if_neg e3]; exact h3
def J3 : List Str → Bool
 | [] => true
 | [_] => true
 | a :: b :: r => !(decide (o5 b a < 0)) && J3 (b :: r)
def zGx (l : List Str) (s : Str) : Int := if u9 l = 0 then if x4 s = 0 then if J3 l = true then 0 else 5 else x4 s else u9 l
def zMH (l : List Str) (s : Str) : Int := if zGx l s = 0 then (l.countP fun x => decide (o5 x s < 0) : Nat) else 0
def S6 (l : List Str) : List Nat := o9 (fun a b => o5 (l.getD a []) (l.getD b [])) (List.range l.length)
def zOh (set i : Nat) : Bool := set.testBit i
def zGs (n set : Nat) : List Nat := (List.range n).filter fun i => set.testBit i
def zHA (l : List Str) (set : Nat) : List Str := ((List.range l.length).filter fun i => !set.testBit i).map fun i => l.getD i []
def zBC : List Nat → List Nat → Int
 | [], [] => 0
 | [], _ :: _ => -1
 | _ :: _, [] => 1
 | a :: x, b :: y => if zNV a b = 0 then zBC x y else zNV a b
def zHb (a b : List Nat) : Int := orI (zNV a.length b.length) (zBC a b)
def zHD (l : List Str) : List (List Nat) := (List.range (2 ^ l.length)).filterMap fun set => if J3 (zHA l set) = true then some (zGs l.length set) else none
def zNE (l : List Str) : List Nat := (c5 zHb (zHD l)).getD []
end Go.Abs

namespace Go.Abs
open Go
def wordsL : List Str := [[97, 101, 115], [115, 104, 101, 116, 97], [115, 109, 105, 116, 121, 104, 97], [99, 104, 106, 97], [97, 110, 110, 101]]
def wordsU : List Str := [[65, 69, 83], [88, 69, 84, 65], [83, 77, 73, 84, 89, 65], [67, 74, 65, 88], [65, 78, 78, 69]]
def wordsF : List Str := [[101], [121], [115, 104], [97], [110, 110], [116, 104], [109]]
def wordsT : List Str := [[], [105], [115], [116], [97, 101], [106], [110]]
def Y3 (ws : List Str) (d : Dice) : Str := ws.getD (toN ((ws.length : Int) - 1) d).toNat []
def l4 (ws : List Str) (d : Dice) : Dice := toD ((ws.length : Int) - 1) d
theorem F1 {ws : List Str} (h : 0 < ws.length) (d : Dice) : Y3 ws d ∈ ws := by
 have := b8 (n := (ws.length : Int) - 1) (by omega) d
 unfold Y3
 have hlt : (toN ((ws.length : Int) - 1) d).toNat < ws.length := by omega
 simp [List.getD, hlt]
def d6 (set : Str) : Nat → Dice → Str → Str × Dice
 | 0, d, s => (s, d)
 | n + 1, d, s => d6 set n (toD ((set.length : Int) - 1) d) (s ++ [set.getD (toN ((set.length : Int) - 1) d).toNat 0])
def zOK (t : Bool) (d d2 : Dice) (a : Str) : Str × Dice := if t = true then (Y3 wordsU d2, l4 wordsU d2) else (a, d2)
def zNl (d : Dice) : Str × Dice := zOK (c9 3 (l4 wordsL d)) d (w3 3 (l4 wordsL d)) (Y3 wordsL d)
def G6 (most : Int) (p : Str × Dice) : Str × Dice := d6 p.1 (Z0 1 (min most 6) p.2).toNat (Y9 1 (min most 6) p.2) []
def i6 (d : Dice) (most : Int) : Str × Dice := G6 most (zNl d)
theorem zCA (set : Str) : ∀ (n : Nat) (d : Dice) (s : Str), (d6 set n d s).1.length = s.length + n
 | 0, d, s => rfl
 | n + 1, d, s => by rw [d6, zCA set n]; simp; omega
theorem A7 (set : Str) (p : UInt8 → Bool) (h0 : 0 < set.length) (hp : set.all p = true) : ∀ (n : Nat) (d : Dice) (s : Str), s.all p = true → (d6 set n d s).1.all p = true
 | 0, d, s, h => h
 | n + 1, d, s, h => by
  rw [d6]
  refine A7 set p h0 hp n _ _ ?_
  have := b8 (n := (set.length : Int) - 1) (by omega) d
  have hlt : (toN ((set.length : Int) - 1) d).toNat < set.length := by omega
  rw [List.all_append, h, Bool.true_and, List.all_cons, List.all_nil, Bool.and_true]
  refine List.all_eq_true.1 hp _ ?_
  simp [List.getD, hlt]
theorem p6 (n : Int) (d : Dice) : (toD n d).list = d.list := by unfold toD; split <;> rfl
theorem zCB (set : Str) : ∀ (n : Nat) (d : Dice) (s : Str), (d6 set n d s).2.list = d.list
 | 0, d, s => rfl
 | n + 1, d, s => by rw [d6, zCB set n, p6]
theorem zJH {x : Str} (h : x ∈ wordsU) : 0 < x.length ∧ x.all v7 = true := by
 have key : (wordsU.all fun x => decide (0 < x.length) && x.all v7) = true := by decide
 have := List.all_eq_true.1 key x h
 simpa using this
theorem zJG {x : Str} (h : x ∈ wordsL) : 0 < x.length ∧ x.all y8 = true := by
 have key : (wordsL.all fun x => decide (0 < x.length) && x.all y8) = true := by decide
 have := List.all_eq_true.1 key x h
 simpa using this
theorem zCq (d : Dice) : 0 < (zNl d).1.length ∧ ((zNl d).1.all y8 = true ∨ (zNl d).1.all v7 = true) ∧ (zNl d).2.list = d.list := by
 unfold zNl zOK
 split
 ·have := zJH (F1 (ws := wordsU) (by decide) (w3 3 (l4 wordsL d)))
  exact ⟨this.1, .inr this.2, by simp only [l4, w3, p6]⟩
 ·have := zJG (F1 (ws := wordsL) (by decide) d)
  exact ⟨this.1, .inl this.2, by simp only [l4, w3, p6]⟩
theorem zAH {d : Dice} {most : Int} (h : 1 ≤ most) : ValidN (i6 d most).1 ∧ ((i6 d most).1.length : Int) ≤ most ∧ (i6 d most).2.list = d.list := by
 obtain ⟨h1, h2, h3⟩ := zCq d
 unfold i6 G6
 generalize zNl d = p at *
 have hr := B2 (lo := 1) (hi := min most 6) (by omega) p.2
 have hl := zCA p.1 (Z0 1 (min most 6) p.2).toNat (Y9 1 (min most 6) p.2) []
 simp only [List.length_nil, Nat.zero_add] at hl
 refine ⟨⟨by rw [hl]; omega, by rw [hl]; omega, ?_⟩, by rw [hl]; omega, ?_⟩
 ·unfold l6
  rw [Bool.or_eq_true]
  rcases h2 with h2 | h2
  ·exact .inl (A7 p.1 y8 h1 h2 _ _ [] rfl)
  ·exact .inr (A7 p.1 v7 h1 h2 _ _ [] rfl)
 ·rw [zCB]
  unfold Y9
  rw [p6, h3]
def Q6 (s : Str) (at_ : Nat) : Str := s.take at_ ++ s.drop (at_ + 1)
def zDL (s : Str) (t : Bool) (d : Dice) : Str × Dice := if t = true then (Q6 s (toN ((s.length : Int) - 1) d).toNat, toD ((s.length : Int) - 1) d) else (s, d)
def U2 (s : Str) (d : Dice) : Str × Dice := if 97 ≤ (s.getD 0 0).toNat ∧ 1 < s.length then zDL s (c9 2 d) (w3 2 d) else (s, d)
def O9 (out : List Str) (d : Dice) : Str := out.getD (toN ((out.length : Int) - 1) d).toNat []
def D4 (out : List Str) (p : Str × Dice) (t : Bool) (d : Dice) : Str × Dice := if t = true then U2 (O9 out d) (toD ((out.length : Int) - 1) d) else (p.1, d)
def a6 (out : List Str) (p : Str × Dice) : Str × Dice := if 0 < out.length then D4 out p (c9 3 p.2) (w3 3 p.2) else p
def Z3 (most : Int) : Nat → Dice → List Str → List Str × Dice
 | 0, d, out => (out, d)
 | n + 1, d, out => Z3 most n (a6 out (i6 d most)).2 (out ++ [(a6 out (i6 d most)).1])
def V9 (d : Dice) (many most : Int) : List Str × Dice := Z3 most (toN many d).toNat (toD many d) []
theorem zEm {s : Str} (v : ValidN s) (hl : 1 < s.length) {i : Nat} (hi : i < s.length) : ValidN (Q6 s i) ∧ (Q6 s i).length = s.length - 1 := by
 have h1 : (Q6 s i).length = s.length - 1 := by unfold Q6; simp; omega
 refine ⟨⟨by omega, by have := v.len; omega, ?_⟩, h1⟩
 have hf := v.form
 unfold l6 at hf ⊢
 rw [Bool.or_eq_true, List.all_eq_true, List.all_eq_true] at hf ⊢
 have hm : ∀ c, c ∈ Q6 s i → c ∈ s := fun c hc => by
  rcases List.mem_append.1 hc with hc | hc
  ·exact List.mem_of_mem_take hc
  ·exact List.mem_of_mem_drop hc
 rcases hf with hf | hf
 ·exact .inl (fun c hc => hf c (hm c hc))
 ·exact .inr (fun c hc => hf c (hm c hc))
theorem zJF {s : Str} (v : ValidN s) (d : Dice) : ValidN (U2 s d).1 ∧ (U2 s d).1.length ≤ s.length ∧ (U2 s d).2.list = d.list := by
 unfold U2
 split
 ·rename_i h
  unfold zDL
  split
  ·have := b8 (n := (s.length : Int) - 1) (by omega) (w3 2 d)
   obtain ⟨h1, h2⟩ := zEm v h.2 (i := (toN ((s.length : Int) - 1) (w3 2 d)).toNat) (by omega)
   exact ⟨h1, by show (Q6 _ _).length ≤ _; omega, by simp only [p6, w3]⟩
  ·exact ⟨v, Nat.le_refl _, by simp only [p6, w3]⟩
 ·exact ⟨v, Nat.le_refl _, rfl⟩
def W6 (most : Int) (s : Str) : Prop := ValidN s ∧ (s.length : Int) ≤ most
theorem zAv {out : List Str} {most : Int} (ho : ∀ s, s ∈ out → W6 most s) {p : Str × Dice} (hp : W6 most p.1) : W6 most (a6 out p).1 ∧ (a6 out p).2.list = p.2.list := by
 unfold a6
 split
 ·rename_i h
  unfold D4
  split
  ·have := b8 (n := (out.length : Int) - 1) (by omega) (w3 3 p.2)
   have hm : O9 out (w3 3 p.2) ∈ out := by
    unfold O9
    have hlt : (toN ((out.length : Int) - 1) (w3 3 p.2)).toNat < out.length := by omega
    simp [List.getD, hlt]
   obtain ⟨h1, h2⟩ := ho _ hm
   obtain ⟨g1, g2, g3⟩ := zJF h1 (toD ((out.length : Int) - 1) (w3 3 p.2))
   exact ⟨⟨g1, by omega⟩, by rw [g3]; simp only [p6, w3]⟩
  ·exact ⟨hp, by simp only [p6, w3]⟩
 ·exact ⟨hp, rfl⟩
theorem zCR {most : Int} (h : 1 ≤ most) : ∀ (n : Nat) (d : Dice) (out : List Str), (∀ s, s ∈ out → W6 most s) → (∀ s, s ∈ (Z3 most n d out).1 → W6 most s) ∧ (Z3 most n d out).1.length = out.length + n ∧ (Z3 most n d out).2.list = d.list
 | 0, d, out, ho => ⟨ho, rfl, rfl⟩
 | n + 1, d, out, ho => by
  obtain ⟨v, hl, hd⟩ := zAH (d := d) h
  obtain ⟨g1, g2⟩ := zAv ho (p := i6 d most) ⟨v, hl⟩
  rw [Z3]
  obtain ⟨k1, k2, k3⟩ := zCR h n (a6 out (i6 d most)).2 (out ++ [(a6 out (i6 d most)).1]) (fun s hs => by
   rcases List.mem_append.1 hs with hs | hs
   ·exact ho s hs
   ·rw [List.mem_singleton.1 hs]; exact g1)
  exact ⟨k1, by rw [k2]; simp; omega, by rw [k3, g2, hd]⟩
theorem zGg {d : Dice} {many most : Int} (hm : 0 ≤ many) (h : 1 ≤ most) : (∀ s, s ∈ (V9 d many most).1 → W6 most s) ∧ ((V9 d many most).1.length : Int) ≤ many ∧ (V9 d many most).2.list = d.list := by
 have hr := b8 hm d
 obtain ⟨h1, h2, h3⟩ := zCR h (toN many d).toNat (toD many d) [] (fun s hs => by cases hs)
 unfold V9
 refine ⟨h1, ?_, by rw [h3, p6]⟩
 rw [h2]; simp; omega
def zCi : Nat → Dice → List Rule → List Rule × Dice
 | 0, d, out => (out, d)
 | n + 1, d, out => zCi n (l4 wordsT (l4 wordsF d)) (out ++ [⟨Y3 wordsF d, Y3 wordsT (l4 wordsF d)⟩])
def zMg (d : Dice) (many : Int) : List Rule × Dice := zCi (toN many d).toNat (toD many d) []
def r8 (key : Str) : Nat → Nat → Dice → Str → Str × Dice
 | 0, _, d, s => (s, d)
 | n + 1, i, d, s => if i = 0 then r8 key n (i + 1) d (s ++ [key.getD i 0]) else if c9 2 d = true then r8 key n (i + 1) (w3 2 d) (s ++ [key.getD i 0]) else r8 key n (i + 1) (w3 2 d) s
def I5 (d : Dice) (key : Str) : Str × Dice := ((r8 key key.length 0 d []).1 ++ [46], (r8 key key.length 0 d []).2)
end Go.Abs

namespace Go.Abs
open Go
def zM4 (l : List Nat) : Str := l.map UInt8.ofNat
def zN0 : Str := [67, 65, 68]
def K9 : Str := [99, 104, 97, 100]
def G5 : Str := [97, 110, 110, 97]
def zOI : Str := [66, 69, 78]
def Y1 : Str := [115, 109, 121, 116, 104, 101]
def J0 : Str := [115, 109, 105, 116, 104, 101]
def Z1 : Str := [115, 109, 105, 116, 104]
def zAG : Str := [115, 109, 121, 116, 104]
def zOT : Str := [115, 97, 109]
def rulesX : List Rule := [⟨[112, 104], [102]⟩, ⟨[121], [105]⟩, ⟨[101], []⟩]
def smithsX : List Str := [Z1, zAG, zOT]
theorem zJO : zNG zN0 = K9 := by kernel_rfl
theorem zJL : x4 zN0 = 0 := by kernel_rfl
theorem zJS : S6 [K9, zN0, G5, zOI] = [2, 3, 0, 1] := by kernel_rfl
theorem zJP : u9 [K9, zN0, G5, zOI] = 0 := by kernel_rfl
theorem zDR : b4 rulesX Y1 Z1 = 0 := by kernel_rfl
theorem zDQ : M9 rulesX Y1 Z1 = some [Y1, J0, Z1] := by kernel_rfl
theorem zJQ : N6 smithsX 0 = [115, 105, 46] := by kernel_rfl
theorem zJR : N5 smithsX 0 = 0 := by kernel_rfl
theorem zJM : zOP smithsX 0 4 = [115, 105, 104, 46] := by kernel_rfl
theorem zJN : B0 smithsX 0 4 = 0 := by kernel_rfl
end Go.Abs

namespace Go.Abs
open Go
section
variable (l : List Str)
def cfI (a b : Nat) : Int := o5 (l.getD a []) (l.getD b [])
def Prec (a b : Nat) : Prop := cfI l a b < 0 ∨ (¬ cfI l b a < 0 ∧ a < b)
theorem D8 (a b : Nat) : cfI l b a = -cfI l a b := zEf _ _
theorem D9 {a b c : Nat} (h1 : ¬ cfI l a b < 0) (h2 : ¬ cfI l b c < 0) : ¬ cfI l a c < 0 := zFb h1 h2
theorem Prec.trans {a b c : Nat} (h1 : Prec l a b) (h2 : Prec l b c) : Prec l a c := by
 have ab := D8 l a b
 have bc := D8 l b c
 have ac := D8 l a c
 unfold Prec at *
 have g1 : ¬ cfI l b a < 0 := by rcases h1 with h1 | h1 <;> omega
 have g2 : ¬ cfI l c b < 0 := by rcases h2 with h2 | h2 <;> omega
 have g3 : ¬ cfI l c a < 0 := D9 l g2 g1
 by_cases e : cfI l a c < 0
 ·exact .inl e
 ·refine .inr ⟨g3, ?_⟩
  -- all three are alike
  have e1 : ¬ cfI l a b < 0 := fun h => by
   have : ¬ cfI l a b < 0 := D9 l (b := c) e g2
   exact this h
  have e2 : ¬ cfI l b c < 0 := fun h => by
   have : ¬ cfI l b c < 0 := D9 l (b := a) g1 e
   exact this h
  rcases h1 with h1 | h1
  ·exact absurd h1 e1
  ·rcases h2 with h2 | h2
   ·exact absurd h2 e2
   ·omega
theorem zHg : (S6 l).Perm (List.range l.length) := A1 _ _
theorem zHf : (S6 l).length = l.length := by rw [(zHg l).length_eq, List.length_range]
def zMQ (i : Nat) : Nat := (List.range l.length).countP fun k => zA3 (l.getD k []) (l.getD i []) || (decide (k < i) && !zA3 (l.getD i []) (l.getD k []))
end
end Go.Abs

namespace Go.Proofs
open Go.Shelf
def Tryz.lays159_ren : Go.Shelf.Ren := ⟨fun | 159 => 143 | 165 => 163 | 166 => 164 | 167 => 165 | 169 => 166 | 230 => 167 | 204 => 168 | 240 => 182 | 241 => 183 | 197 => 184 | 118 => 185 | 168 => 186 | 270 => 187 | 262 => 188 | 276 => 194 | 277 => 195 | 260 => 196 | 242 => 197 | 313 => 198 | 278 => 200 | 274 => 201 | 275 => 202 | n => n, fun | 9 => 9 | 4 => 4 | 3 => 3 | 5 => 5 | 72 => 180 | 0 => 0 | 76 => 182 | 75 => 147 | 107 => 187 | 70 => 178 | 20 => 20 | 37 => 141 | 127 => 207 | 21 => 21 | 105 => 208 | 164 => 165 | 162 => 219 | 203 => 217 | 119 => 220 | 46 => 89 | 139 => 223 | 138 => 222 | 51 => 224 | 160 => 225 | 208 => 231 | 206 => 229 | 80 => 185 | n => n, fun | 13 => 2 | 3 => 3 | 4 => 4 | n => n⟩
theorem Tryz.lays159 : Go.Proofs.Lays.n159 Tryz.prog Tryz.lays159_ren := {
 mixed := by kernel_rfl
 f118 := Tryz.func185.trans (congrArg some (by kernel_rfl))
 f159 := Tryz.func143.trans (congrArg some (by kernel_rfl))
 f165 := Tryz.func163.trans (congrArg some (by kernel_rfl))
 f166 := Tryz.func164.trans (congrArg some (by kernel_rfl))
 f167 := Tryz.func165.trans (congrArg some (by kernel_rfl))
 f168 := Tryz.func186.trans (congrArg some (by kernel_rfl))
 f169 := Tryz.func166.trans (congrArg some (by kernel_rfl))
 f197 := Tryz.func184.trans (congrArg some (by kernel_rfl))
 f204 := Tryz.func168.trans (congrArg some (by kernel_rfl))
 f230 := Tryz.func167.trans (congrArg some (by kernel_rfl))
 f240 := Tryz.func182.trans (congrArg some (by kernel_rfl))
 f241 := Tryz.func183.trans (congrArg some (by kernel_rfl))
 f242 := Tryz.func197.trans (congrArg some (by kernel_rfl))
 f260 := Tryz.func196.trans (congrArg some (by kernel_rfl))
 f262 := Tryz.func188.trans (congrArg some (by kernel_rfl))
 f270 := Tryz.func187.trans (congrArg some (by kernel_rfl))
 f274 := Tryz.func201.trans (congrArg some (by kernel_rfl))
 f275 := Tryz.func202.trans (congrArg some (by kernel_rfl))
 f276 := Tryz.func194.trans (congrArg some (by kernel_rfl))
 f277 := Tryz.func195.trans (congrArg some (by kernel_rfl))
 f278 := Tryz.func200.trans (congrArg some (by kernel_rfl))
 f313 := Tryz.func198.trans (congrArg some (by kernel_rfl))
 t0 := Tryz.underlying0
 a0 := Tryz.isAgg0
 z0 := Tryz.sizeOf0
 v0 := Tryz.zeroValue0
 t3 := Tryz.underlying3
 a3 := Tryz.isAgg3
 z3 := Tryz.sizeOf3
 v3 := Tryz.zeroValue3
 t4 := Tryz.underlying4
 a4 := Tryz.isAgg4
 z4 := Tryz.sizeOf4
 v4 := Tryz.zeroValue4
 t5 := Tryz.underlying5
 a5 := Tryz.isAgg5
 z5 := Tryz.sizeOf5
 v5 := Tryz.zeroValue5
 t9 := Tryz.underlying9
 a9 := Tryz.isAgg9
 z9 := Tryz.sizeOf9
 v9 := Tryz.zeroValue9
 t20 := Tryz.underlying20
 a20 := Tryz.isAgg20
 z20 := Tryz.sizeOf20
 v20 := Tryz.zeroValue20
 t21 := Tryz.underlying21
 a21 := Tryz.isAgg21
 z21 := Tryz.sizeOf21
 v21 := Tryz.zeroValue21
 t37 := Tryz.underlying141
 a37 := Tryz.isAgg141
 z37 := Tryz.sizeOf141
 v37 := Tryz.zeroValue141
 t46 := Tryz.underlying89
 a46 := Tryz.isAgg89
 z46 := Tryz.sizeOf89
 v46 := Tryz.zeroValue89
 t51 := Tryz.underlying224
 a51 := Tryz.isAgg224
 z51 := Tryz.sizeOf224
 v51 := Tryz.zeroValue224
 t70 := Tryz.underlying178
 a70 := Tryz.isAgg178
 z70 := Tryz.sizeOf178
 v70 := Tryz.zeroValue178
 t72 := Tryz.underlying180
 a72 := Tryz.isAgg180
 z72 := Tryz.sizeOf180
 v72 := Tryz.zeroValue180
 t75 := Tryz.underlying147
 a75 := Tryz.isAgg147
 z75 := Tryz.sizeOf147
 v75 := Tryz.zeroValue147
 t76 := Tryz.underlying182
 a76 := Tryz.isAgg182
 z76 := Tryz.sizeOf182
 v76 := Tryz.zeroValue182
 t105 := Tryz.underlying208
 a105 := Tryz.isAgg208
 z105 := Tryz.sizeOf208
 v105 := Tryz.zeroValue208
 t107 := Tryz.underlying187
 a107 := Tryz.isAgg187
 z107 := Tryz.sizeOf187
 v107 := Tryz.zeroValue187
 t119 := Tryz.underlying220
 a119 := Tryz.isAgg220
 z119 := Tryz.sizeOf220
 t127 := Tryz.underlying207
 a127 := Tryz.isAgg207
 z127 := Tryz.sizeOf207
 v127 := Tryz.zeroValue207
 t138 := Tryz.underlying222
 a138 := Tryz.isAgg222
 z138 := Tryz.sizeOf222
 v138 := Tryz.zeroValue222
 t139 := Tryz.underlying223
 a139 := Tryz.isAgg223
 z139 := Tryz.sizeOf223
 v139 := Tryz.zeroValue223
 t160 := Tryz.underlying225
 a160 := Tryz.isAgg225
 z160 := Tryz.sizeOf225
 v160 := Tryz.zeroValue225
 t162 := Tryz.underlying219
 a162 := Tryz.isAgg219
 z162 := Tryz.sizeOf219
 v162 := Tryz.zeroValue219
 t164 := Tryz.underlying165
 a164 := Tryz.isAgg165
 z164 := Tryz.sizeOf165
 v164 := Tryz.zeroValue165
 t203 := Tryz.underlying217
 a203 := Tryz.isAgg217
 z203 := Tryz.sizeOf217
 v203 := Tryz.zeroValue217
 t206 := Tryz.underlying229
 a206 := Tryz.isAgg229
 z206 := Tryz.sizeOf229
 v206 := Tryz.zeroValue229
 t208 := Tryz.underlying231
 a208 := Tryz.isAgg231
 z208 := Tryz.sizeOf231
 v208 := Tryz.zeroValue231
 g3 := by kernel_rfl
 g4 := by kernel_rfl
 g13 := by kernel_rfl }
theorem Tryz.Builder_Extra_159 : Builder.Extra Tryz.prog Tryz.lays159_ren := {
 sizeBuilder := by kernel_rfl
 liesBuilder := by kernel_rfl
 t5 := Tryz.underlying5
 a5 := Tryz.isAgg5
 z5 := Tryz.sizeOf5
 v5 := Tryz.zeroValue5
 infoByte := by kernel_rfl
 cellsByte := by kernel_rfl
 sizeByte := by kernel_rfl
 neB5 := by decide }
open Go.RowKit in
theorem Tryz.strings_ToLower_ascii (s : ByteArray) (w : World) (hs : s.size ≤ 140737488355328) (hascii : ∀ (j : Nat) (b : UInt8), s.data.toList[j]? = some b → b.toNat < 128) :
  Calls Tryz.prog 143 #[.string s] w fun e w' => e = .returned (.string ⟨(Lib.toLowerA s.data.toList).toArray⟩) ∧ Below w.heap.size w w' := Any.strings_ToLower_ascii Tryz.lays159 Tryz.Builder_Extra_159 s w hs hascii
def Tryz.lays151_ren : Go.Shelf.Ren := ⟨fun | 151 => 128 | 152 => 152 | 137 => 173 | 119 => 174 | 224 => 175 | 225 => 176 | 217 => 191 | 266 => 199 | n => n, fun | 9 => 9 | 21 => 21 | 4 => 4 | 3 => 3 | 5 => 5 | 0 => 0 | 46 => 89 | n => n, fun | n => n⟩
theorem Tryz.lays151 : Go.Proofs.Lays.n151 Tryz.prog Tryz.lays151_ren := {
 mixed := by kernel_rfl
 f119 := Tryz.func174.trans (congrArg some (by kernel_rfl))
 f137 := Tryz.func173.trans (congrArg some (by kernel_rfl))
 f151 := Tryz.func128.trans (congrArg some (by kernel_rfl))
 f152 := Tryz.func152.trans (congrArg some (by kernel_rfl))
 f217 := Tryz.func191.trans (congrArg some (by kernel_rfl))
 f224 := Tryz.func175.trans (congrArg some (by kernel_rfl))
 f225 := Tryz.func176.trans (congrArg some (by kernel_rfl))
 f266 := Tryz.func199.trans (congrArg some (by kernel_rfl))
 t0 := Tryz.underlying0
 a0 := Tryz.isAgg0
 z0 := Tryz.sizeOf0
 v0 := Tryz.zeroValue0
 t3 := Tryz.underlying3
 a3 := Tryz.isAgg3
 z3 := Tryz.sizeOf3
 v3 := Tryz.zeroValue3
 t4 := Tryz.underlying4
 a4 := Tryz.isAgg4
 z4 := Tryz.sizeOf4
 v4 := Tryz.zeroValue4
 t5 := Tryz.underlying5
 a5 := Tryz.isAgg5
 z5 := Tryz.sizeOf5
 v5 := Tryz.zeroValue5
 t9 := Tryz.underlying9
 a9 := Tryz.isAgg9
 z9 := Tryz.sizeOf9
 v9 := Tryz.zeroValue9
 t21 := Tryz.underlying21
 a21 := Tryz.isAgg21
 z21 := Tryz.sizeOf21
 v21 := Tryz.zeroValue21
 t46 := Tryz.underlying89
 a46 := Tryz.isAgg89
 z46 := Tryz.sizeOf89
 v46 := Tryz.zeroValue89 }
open Go.RowKit Go.Lib in
theorem Tryz.strings_ContainsRune_ascii (s : ByteArray) (r : Int) (w : World) (h0 : 0 ≤ r) (h1 : r < 128) :
  Calls Tryz.prog 128 #[.string s, .int .i32 r] w fun e w' => e = .returned (.bool (decide (0 ≤ Lib.indexByte s.data.toList r.toNat.toUInt8))) ∧ w' = w := Any.strings_ContainsRune_ascii Tryz.lays151 s r w h0 h1
end Go.Proofs

namespace Go.Abs
open Go Go.Proofs Go.Proofs.YteehcinnfiaklaaGreatDoor
theorem zGI {P : Program} {w : World} {a b c : String × DataW Unit} (h : laidMet P [a, c, b] w) : laidMet P [a, b, c] w := by
 obtain ⟨ps, hv, hn, hr⟩ := h
 obtain ⟨n1, d1⟩ := a
 obtain ⟨n2, d2⟩ := b
 obtain ⟨n3, d3⟩ := c
 obtain ⟨g1, t1, c1, f1, p1, q1, a1, b1, v1, r1, ⟨g3, t3, c3, f3, p3, q3, a3, b3, v3, r3, ⟨g2, t2, c2, f2, p2, q2, a2, b2, v2, r2, e2, rfl⟩, rfl⟩, rfl⟩ := hv
 cases (show q2 = [] from e2)
 have hp : ((MemPlace.row ⟨g1, 0, none⟩ c1.size ++ p1) ++ ((MemPlace.row ⟨g3, 0, none⟩ c3.size ++ p3) ++ ((MemPlace.row ⟨g2, 0, none⟩ c2.size ++ p2) ++ []))).Perm ((MemPlace.row ⟨g1, 0, none⟩ c1.size ++ p1) ++ ((MemPlace.row ⟨g2, 0, none⟩ c2.size ++ p2) ++ ((MemPlace.row ⟨g3, 0, none⟩ c3.size ++ p3) ++ []))) := by
  simp only [List.append_nil]
  exact List.Perm.append_left _ List.perm_append_comm
 exact ⟨_, ⟨g1, t1, c1, f1, p1, _, a1, b1, v1, r1, ⟨g2, t2, c2, f2, p2, _, a2, b2, v2, r2, ⟨g3, t3, c3, f3, p3, [], a3, b3, v3, r3, rfl, rfl⟩, rfl⟩, rfl⟩, hp.nodup_iff.1 hn, fun b off hm => hr b off (hp.mem_iff.2 hm)⟩
noncomputable def zGJ (os : Os) : World :=
 let N := (World.settled Tryz.prog os).heap.size
 let w0 := World.holding Tryz.prog os ⟨#[.cells Lib.caseCells5 (Tryz.lays159_ren.t 208)], #[], []⟩
 let put (h : Array Obj) (g : Nat) (cs : Array Value) : Array Obj := h.modify g fun
  | .cells _ t frozen => .cells cs t frozen
  | o => o
 let h1 := put w0.heap 3 (Lib.firstTab.map fun z => Value.int .u8 z).toArray
 let h2 := put h1 4 ((List.range 16).flatMap fun i => [Value.int .u8 (Lib.accLo i), Value.int .u8 (Lib.accHi i)]).toArray
 let h3 := put h2 2 #[.slice (some ⟨N, 0, none⟩) 336 336]
 { w0 with heap := h3 }
theorem zDc : (Rows.laid_unicode_utf8_acceptRanges : DataW Unit) = Lib.acceptData := by kernel_rfl
theorem zEQ : Rows.laid_unicode_CaseRanges = Lib.caseData := by kernel_rfl
theorem zE4 : Rows.laid_unicode_utf8_first = Lib.firstData := by kernel_rfl
theorem zMA : laidOutB Tryz.pinned.checked.prog = true := by kernel_rfl
theorem zMC : mapsRowed Tryz.pinned.checked.prog = true := by kernel_rfl
theorem zMD : (Tryz.pinned.checked.prog.stops == []) = true := by kernel_rfl
theorem zL9 : (Tryz.pinned.checked.prog.stopKnobs == []) = true := by kernel_rfl
theorem zL8 : Tryz.pinned.checked.prog.stopsHeard = true := by kernel_rfl
theorem zL7 : Tryz.pinned.checked.prog.mayEnter = true := by kernel_rfl
theorem zMB : true = Tryz.pinned.checked.prog.looks [] := by kernel_rfl
end Go.Abs

namespace Go.Abs
open Go Go.Proofs Go.Proofs.YteehcinnfiaklaaGreatDoor
abbrev zBk : Value := .iface 194 (.agg #[.pointer (some ⟨5, 147, none⟩)])
noncomputable def zGK (os : Os) : World :=
  let w := zGJ os
  { w with heap := w.heap.modify 0 fun
      | .cells _ t frozen => .cells #[zBk] t frozen
      | o => o }
abbrev A5 : List (String × DataW Unit) := [("unicode/utf8.acceptRanges", Rows.laid_unicode_utf8_acceptRanges), ("errors.errorType", Rows.laid_errors_errorType), ("unicode.CaseRanges", Rows.laid_unicode_CaseRanges), ("unicode/utf8.first", Rows.laid_unicode_utf8_first)]
theorem zLL (os : Os) (args : Array Value) : laidMetH Tryz.prog A5 ((zGK os).forCall (fun _ _ => 0) ⟨#[], args, []⟩).memory := by
 refine laidMetH_of_parts ?_ (by kernel_rfl)
 show laidMet Tryz.prog [("unicode/utf8.acceptRanges", Rows.laid_unicode_utf8_acceptRanges), ("unicode.CaseRanges", Rows.laid_unicode_CaseRanges), ("unicode/utf8.first", Rows.laid_unicode_utf8_first)] _
 rw [zDc, zEQ, zE4]
 refine zGI ?_
 exact laidMet_with_case (ρ := Tryz.lays159_ren) { Tryz.lays159 with } Tryz.lays159.t206 ⟨by kernel_rfl, by kernel_rfl, by kernel_rfl, by kernel_rfl, by kernel_rfl, by kernel_rfl⟩
  (l := [("unicode/utf8.acceptRanges", Lib.acceptData), ("unicode/utf8.first", Lib.firstData)])
  10 (by kernel_rfl) (by kernel_rfl) (by kernel_rfl) ((World.settled Tryz.prog default).heap.size) (Tryz.lays159_ren.t 208) (of_decide_eq_true (by kernel_rfl)) (by kernel_rfl) (by kernel_rfl) (by kernel_rfl)
theorem zEx : Tryz.prog.globalNamed "errors.errorType" = some 0 := by kernel_rfl
theorem rt_type : (Tryz.prog.cutTypes.find? (·.1 == "internal/reflectlite.rtype")).map (·.2) = some 194 := by kernel_rfl
theorem zI9 : Tryz.prog.types.size = 258 := by kernel_rfl
theorem zGo : ((List.range 258).filter fun t => Tryz.prog.rowNamed t [101, 114, 114, 111, 114]) = [147] := by kernel_rfl
theorem zFe {W : World} (h : laidMetH Tryz.prog A5 W) : W.cell? ⟨0, 0, none⟩ = some zBk := by
 have h' : laidMet Tryz.prog [("unicode/utf8.acceptRanges", Rows.laid_unicode_utf8_acceptRanges), ("unicode.CaseRanges", Rows.laid_unicode_CaseRanges), ("unicode/utf8.first", Rows.laid_unicode_utf8_first)] W ∧ handlesMet Tryz.prog [("errors.errorType", Rows.laid_errors_errorType)] W := h
 obtain ⟨name, u, ty, e1, e2, e3, e4, e5⟩ := h'.2 _ (List.mem_singleton.2 rfl)
 have en : name = [101, 114, 114, 111, 114] := (Option.some.inj e1).symm
 subst en
 obtain rfl := Option.some.inj (rt_type.symm.trans e2)
 have hm : ty ∈ (List.range 258).filter fun t => Tryz.prog.rowNamed t [101, 114, 114, 111, 114] := List.mem_filter.2 ⟨List.mem_range.2 (by rw [← zI9]; exact e3), e4⟩
 rw [zGo] at hm
 obtain rfl := List.mem_singleton.1 hm
 have hh : typeHandle Tryz.prog 147 = .pointer (some ⟨5, 147, none⟩) := by kernel_rfl
 rw [hh] at e5
 simpa using World.var?_cell zEx e5 0
end Go.Abs

namespace Go.Abs
open Go Go.Proofs Go.Proofs.YteehcinnfiaklaaGreatDoor
theorem zLJ {W : World} (h : laidMetH Tryz.prog A5 W) : D1 W := fun p hp => by
 rw [List.mem_singleton.1 hp]; exact zFe h
end Go.Abs

namespace Go.Abs
open Go Go.Proofs Go.RowKit Go.Extern.Stop Go.Stop Go.Extern
theorem zDz (t : Value) (w : World) : Calls Tryz.prog 135 #[.nilIface, t] w fun e w' => e = .returned (.bool false) ∧ w' = w := by
 go_enter Tryz.func135, Tryz.ntmps135
 go_wp2
 go_ret
 exact ⟨rfl, rfl⟩
abbrev hdl (t : Nat) : Value := .pointer (some ⟨5, t, none⟩)
theorem zD7 (t : Addr) (w : World) : (ReflectliteValue.unpack (.iface 152 (.pointer (some t)))).run Tryz.prog w
  = .ok (.agg #[hdl 152, .pointer (some ⟨w.heap.size, 0, none⟩), .int .u64 150]) (w.alloc (.cells #[.pointer (some t)] 152)) := by kernel_rfl
theorem zD5 (a : Addr) (w : World) : (ReflectliteValue.methodAny (ReflectliteValue.valueError "reflectlite.Value.Type" 0) (fun t _ _ _ => ReflectliteType.toType t) #[.agg #[hdl 152, .pointer (some a), .int .u64 150]]).run Tryz.prog w
  = .ok (.iface 194 (.agg #[hdl 152])) w := by kernel_rfl
theorem zDt (w : World) : ((ReflectliteType.abiMethod fun t => Functor.map (fun a : Nat => Value.int IntKind.u8 (a : Int)) (Rtype.kind t)) #[hdl 152]).run Tryz.prog w = .ok (.int .u8 22) w := by kernel_rfl
theorem zDs (w : World) : ((ReflectliteType.abiMethod fun t => Functor.map (fun a : Nat => Value.int IntKind.u8 (a : Int)) (Rtype.kind t)) #[hdl 150]).run Tryz.prog w = .ok (.int .u8 24) w := by kernel_rfl
theorem zA1 (z : Sem Value) (f : TypeId → Addr → Nat → Nat → Sem Value) (v : Value) :
  ReflectliteValue.method z f #[v] = (do match ← ReflectliteValue.parts v with | none => z | some (t, a, fl) => f t a fl (fl % 32)) := rfl
theorem zA0 (a : Addr) (w : World) : (ReflectliteValue.parts (.agg #[hdl 152, .pointer (some a), .int .u64 150])).run Tryz.prog w = .ok (some (152, a, 150)) w := by kernel_rfl
theorem zDr (a p : Addr) (W : World) (ha : W.cell? a = some (.pointer (some p))) :
  (ReflectliteValue.method (ReflectliteValue.valueError "reflectlite.Value.IsNil" 0) ReflectliteValue.isNil #[.agg #[hdl 152, .pointer (some a), .int .u64 150]]).run Tryz.prog W = .ok (.bool false) W := by
 rw [zA1]
 simp only [Sem.run_bind, zA0, Result.andThen]
 simp [ReflectliteValue.isNil, loadVar, isAgg, underlying, Tryz.underlying152, ha, Result.andThen]
theorem zDm (w : World) : (ReflectliteType.method ReflectliteType.elem #[.agg #[hdl 152]]).run Tryz.prog w = .ok (.iface 194 (.agg #[hdl 150])) w := by kernel_rfl
theorem zDq (w : World) : (ReflectliteType.relation "Implements" ReflectliteType.implements_ #[.agg #[hdl 150], .iface 194 (.agg #[hdl 147])]).run Tryz.prog w = .ok (.bool true) w := by kernel_rfl
theorem zD4 (v : Value) (w : World) : (ReflectliteType.typeOf #[.iface 150 v]).run Tryz.prog w = .ok (.iface 194 (.agg #[hdl 150])) w := by kernel_rfl
theorem zDj (w : World) : (ReflectliteType.relation "AssignableTo" ReflectliteType.assignableTo #[.agg #[hdl 150], .iface 194 (.agg #[hdl 150])]).run Tryz.prog w = .ok (.bool true) w := by kernel_rfl
theorem zDx (h : Value) (w : World) : (Go.method 358 194 (.agg #[h]) "Kind").run Tryz.prog w = .ok (217, h) w := by kernel_rfl
theorem zDv (h : Value) (w : World) : (Go.method 358 194 (.agg #[h]) "Elem").run Tryz.prog w = .ok (229, .agg #[h]) w := by kernel_rfl
theorem zDw (h : Value) (w : World) : (Go.method 358 194 (.agg #[h]) "Implements").run Tryz.prog w = .ok (230, .agg #[h]) w := by kernel_rfl
theorem zDu (h : Value) (w : World) : (Go.method 358 194 (.agg #[h]) "AssignableTo").run Tryz.prog w = .ok (227, .agg #[h]) w := by kernel_rfl
theorem zD6 (b : ByteArray) (w : World) : (ReflectliteValue.unpack (.iface 150 (.string b))).run Tryz.prog w
  = .ok (.agg #[hdl 150, .pointer (some ⟨w.heap.size, 0, none⟩), .int .u64 152]) (w.alloc (.cells #[.string b] 150)) := by kernel_rfl
theorem zDl (w : World) : (Rtype.elem? 152).run Tryz.prog w = .ok (some 150) w := by kernel_rfl
theorem zDy (p : Addr) (w : World) : (ReflectliteValue.mk 150 p ReflectliteValue.flagAddr).run Tryz.prog w = .ok (.agg #[hdl 150, .pointer (some p), .int .u64 408]) w := by kernel_rfl
theorem zDn (a p : Addr) (W : World) (ha : W.cell? a = some (.pointer (some p))) :
  (ReflectliteValue.method (ReflectliteValue.valueError "reflectlite.Value.Elem" 0) ReflectliteValue.elem #[.agg #[hdl 152, .pointer (some a), .int .u64 150]]).run Tryz.prog W
   = .ok (.agg #[hdl 150, .pointer (some p), .int .u64 408]) W := by
 rw [zA1]
 simp only [Sem.run_bind, zA0, Result.andThen]
 simp [ReflectliteValue.elem, loadVar, isAgg, underlying, Tryz.underlying152, ha, Result.andThen, zDl, zDy]
theorem zD2 (v x : Value) : ∃ (A : Sem Value) (B C : Sem PUnit) (D : String → String → Sem PUnit), ReflectliteValue.set #[v, x] = (do
  let (some (dst, a, fl), some (src, b, _)) := (← ReflectliteValue.parts v, ← ReflectliteValue.parts x)
   | A
  if fl / ReflectliteValue.flagAddr % 2 == 0 then B
  let val ← loadVar src b
  if ← Rtype.directlyAssignable dst src then storeVar dst a val
  else if ← Rtype.implements dst src then
   if (← Rtype.kind src) == 20 then
    match val with
    | .nilIface => C
    | _ => storeVar dst a val
   else storeVar dst a (.iface src val)
  else D (← Rtype.spelt src) (← Rtype.spelt dst)
  pure (.tuple #[])) := by
 refine ⟨?_, ?_, ?_, ?_, ?_⟩
 rotate_left 4
 ·rfl
theorem zD1 (a : Addr) (w : World) : (ReflectliteValue.parts (.agg #[hdl 150, .pointer (some a), .int .u64 408])).run Tryz.prog w = .ok (some (150, a, 408)) w := by kernel_rfl
theorem zD0 (a : Addr) (w : World) : (ReflectliteValue.parts (.agg #[hdl 150, .pointer (some a), .int .u64 152])).run Tryz.prog w = .ok (some (150, a, 152)) w := by kernel_rfl
theorem zDk (w : World) : (Rtype.directlyAssignable 150 150).run Tryz.prog w = .ok true w := by kernel_rfl
theorem zD3 (ta b : Addr) (s : ByteArray) (old : Value) (W : World) (hb : W.cell? b = some (.string s)) (ht : W.cell? ta = some old) (hf : W.frozen? ta = false) :
  (ReflectliteValue.set #[.agg #[hdl 150, .pointer (some ta), .int .u64 408], .agg #[hdl 150, .pointer (some b), .int .u64 152]]).run Tryz.prog W
   = .ok (.tuple #[]) (W.setCell ta (.string s)) := by
 obtain ⟨A, B, C, D, hset⟩ := zD2 (.agg #[hdl 150, .pointer (some ta), .int .u64 408]) (.agg #[hdl 150, .pointer (some b), .int .u64 152])
 rw [hset]
 simp only [Sem.run_bind, zD1, zD0, Result.andThen]
 simp [ReflectliteValue.flagAddr, loadVar, isAgg, underlying, Tryz.underlying150, hb, Result.andThen, zDk, storeVar, Value.cells, storeCells, Addr.add]
 rw [run_store Tryz.prog W ta _ _ (by rfl)]
 simp [ht, hf]
set_option maxHeartbeats 4000000 in
theorem zDo (b : ByteArray) (t : Addr) (old : Value) (w : World) (hg : w.cell? ⟨0, 0, none⟩ = some (.iface 194 (.agg #[hdl 147]))) (ht0 : w.cell? t = some old) (hf0 : w.frozen? t = false) :
  Calls Tryz.prog 135 #[.iface 150 (.string b), .iface 152 (.pointer (some t))] w fun ev w' => ev = .returned (.bool true) ∧ w' = ((((w.alloc (.cells #[.pointer (some t)] 152)).alloc (.cells #[hdl 152, .pointer (some ⟨w.heap.size, 0, none⟩), .int .u64 150] 168)).alloc (.cells #[hdl 152, .pointer (some ⟨w.heap.size, 0, none⟩), .int .u64 150] 168)).alloc (.cells #[.string b] 150)).setCell t (.string b) := by
 have h6 := @run_callFunc_extern Tryz.prog 157 _ (fun args => ReflectliteValue.unpack (args.getD 0 (.tuple #[]))) Tryz.func157 (by kernel_rfl) (by kernel_rfl) (by kernel_rfl) (by kernel_rfl)
 have h7 := @run_callFunc_extern Tryz.prog 158 _ (ReflectliteValue.methodAny (ReflectliteValue.valueError "reflectlite.Value.Type" 0) (fun t _ _ _ => ReflectliteType.toType t)) Tryz.func158 (by kernel_rfl) (by kernel_rfl) (by kernel_rfl) (by kernel_rfl)
 have h8 := @run_callFunc_extern Tryz.prog 159 _ (ReflectliteValue.method (ReflectliteValue.valueError "reflectlite.Value.IsNil" 0) ReflectliteValue.isNil) Tryz.func159 (by kernel_rfl) (by kernel_rfl) (by kernel_rfl) (by kernel_rfl)
 have h27 := @run_callFunc_extern Tryz.prog 217 _ (ReflectliteType.abiMethod fun t => do pure (.int .u8 (← Rtype.kind t))) Tryz.func217 (by kernel_rfl) (by kernel_rfl) (by kernel_rfl) (by kernel_rfl)
 have h37 := @run_callFunc_extern Tryz.prog 229 _ (ReflectliteType.method ReflectliteType.elem) Tryz.func229 (by kernel_rfl) (by kernel_rfl) (by kernel_rfl) (by kernel_rfl)
 have h38 := @run_callFunc_extern Tryz.prog 230 _ (ReflectliteType.relation "Implements" ReflectliteType.implements_) Tryz.func230 (by kernel_rfl) (by kernel_rfl) (by kernel_rfl) (by kernel_rfl)
 have h10 := @run_callFunc_extern Tryz.prog 179 _ ReflectliteType.typeOf Tryz.func179 (by kernel_rfl) (by kernel_rfl) (by kernel_rfl) (by kernel_rfl)
 have h35 := @run_callFunc_extern Tryz.prog 227 _ (ReflectliteType.relation "AssignableTo" ReflectliteType.assignableTo) Tryz.func227 (by kernel_rfl) (by kernel_rfl) (by kernel_rfl) (by kernel_rfl)
 have h11 := @run_callFunc_extern Tryz.prog 180 _ (ReflectliteValue.method (ReflectliteValue.valueError "reflectlite.Value.Elem" 0) ReflectliteValue.elem) Tryz.func180 (by kernel_rfl) (by kernel_rfl) (by kernel_rfl) (by kernel_rfl)
 have h12 := @run_callFunc_extern Tryz.prog 181 _ ReflectliteValue.set Tryz.func181 (by kernel_rfl) (by kernel_rfl) (by kernel_rfl) (by kernel_rfl)
 have tO := zD4
 have mA := zDu
 have aO := zDj
 have vO := zD6
 have f6 := zD7
 have f7 := zD5
 have mK := zDx
 have mE := zDv
 have mI := zDw
 have kP := zDt
 have kO := zDs
 have eP := zDm
 have iO := zDq
 have n8 := zDr ⟨w.heap.size, 0, none⟩ t ((w.alloc (.cells #[.pointer (some t)] 152)).alloc (.cells #[hdl 152, .pointer (some ⟨w.heap.size, 0, none⟩), .int .u64 150] 168)) (by simp)
 have hlt : 0 < w.heap.size := by
  rcases Nat.eq_zero_or_pos w.heap.size with h0 | h
  ·simp [World.cell?, h0] at hg
  ·exact h
 have hg2 : ((w.alloc (.cells #[.pointer (some t)] 152)).alloc (.cells #[hdl 152, .pointer (some ⟨w.heap.size, 0, none⟩), .int .u64 150] 168)).cell? ⟨0, 0, none⟩ = some (.iface 194 (.agg #[hdl 147])) := by
  rw [World.cell?_alloc_lt _ _ ⟨0, 0, none⟩ (by simp), World.cell?_alloc_lt _ _ ⟨0, 0, none⟩ hlt]; exact hg
 have htl : t.block < w.heap.size := by
  rcases Nat.lt_or_ge t.block w.heap.size with h | h
  ·exact h
  ·simp [World.cell?, Array.getElem?_eq_none h] at ht0
 have el := zDn ⟨w.heap.size, 0, none⟩ t (((w.alloc (.cells #[.pointer (some t)] 152)).alloc (.cells #[hdl 152, .pointer (some ⟨w.heap.size, 0, none⟩), .int .u64 150] 168)).alloc (.cells #[hdl 152, .pointer (some ⟨w.heap.size, 0, none⟩), .int .u64 150] 168)) (by rw [World.cell?_alloc_lt _ _ ⟨w.heap.size, 0, none⟩ (by simp; omega)]; simp)
 have st := zD3 t ⟨w.heap.size + 1 + 1 + 1, 0, none⟩ b old ((((w.alloc (.cells #[.pointer (some t)] 152)).alloc (.cells #[hdl 152, .pointer (some ⟨w.heap.size, 0, none⟩), .int .u64 150] 168)).alloc (.cells #[hdl 152, .pointer (some ⟨w.heap.size, 0, none⟩), .int .u64 150] 168)).alloc (.cells #[.string b] 150))
  (by rw [World.cell?_alloc_at _ _ _ _ (by simp)]; rfl)
  (by rw [World.cell?_alloc_lt _ _ t (by simp; omega), World.cell?_alloc_lt _ _ t (by simp; omega), World.cell?_alloc_lt _ _ t (by simp; omega), World.cell?_alloc_lt _ _ t htl]; exact ht0)
  (by rw [World.frozen?_alloc_old _ _ t (by simp; omega), World.frozen?_alloc_old _ _ t (by simp; omega), World.frozen?_alloc_old _ _ t (by simp; omega), World.frozen?_alloc_old _ _ t (Nat.ne_of_lt htl)]; exact hf0)
 go_enter Tryz.func135, Tryz.ntmps135
 go_wp2
 refine wp_loop_rounds 1 ?_
 rw [rounds_succ]
 go_wp2
 go_ret
 exact ⟨rfl, rfl⟩
end Go.Abs

namespace Go.Abs
open Go Go.Proofs Tryz
attribute [local irreducible] y4 Hold y9
attribute [go_sem] w7 Nat.le_refl Nat.sub_zero Int.reduceGT Nat.reduceGT Int.reduceGE
@[go_sem ↓] theorem zLH (a b : Int) (K : Cont) : zNy .xor .u64 a b K = K (uV (Q3 a b)) [] [] := rfl
@[go_sem ↓] theorem zMi (a b : Int) (K : Cont) : S5 .shl .u64 a b K = (0 ≤ b ∧ K (uV (I4 a b.toNat)) [] []) := rfl
@[go_sem ↓] theorem zMj (a b : Int) (K : Cont) : S5 .shr .u64 a b K = (0 ≤ b ∧ K (uV (f8 a b.toNat)) [] []) := rfl
@[go_sem] theorem zKd (s : Int) : Q3 s (I4 s 13) = zOQ s := rfl
@[go_sem] theorem zKe (s : Int) : Q3 s (f8 s 7) = zOR s := rfl
@[go_sem] theorem zKf (s : Int) : Q3 s (I4 s 17) = zOS s := rfl
@[go_sem] theorem zKg (s : Int) : zOS (zOR (zOQ s)) = K8 s := rfl
@[go_sem] theorem zKh (n : Int) : IntKind.u64.wrap (Q3 n (f8 n 30) * 10723151780598845931) = zOB n := rfl
theorem zIc (d : Dice) (h : d.list.length ≤ 4294967296) : zNF prog 77 [.ptr 0 0] [w7 d] (uV (zNj d)) [w7 (zNg d)] := by
 have e2 : (zNg d).list = d.list := rfl
 have e4 : (zNg d).seed = zNo d := rfl
 have e6 : zNj d = Q3 (zOB (zNo d)) (f8 (zOB (zNo d)) 31) := rfl
 by_cases q : d.at_ < d.list.length
 ·have q2 : ((d.at_ : Int) < (d.list.length : Int)) := by omega
  have e1 : zNo d = IntKind.u64.wrap (K8 d.seed + IntKind.u64.wrap (IntKind.u64.wrap (d.list.getD d.at_ default) * 13787848793156543929)) := by unfold zNo; rw [if_pos q]
  have e3 : (zNg d).at_ = d.at_ + 1 := by unfold zNg; simp only; rw [if_pos q]
  have e5 : IntKind.i64.wrap ((d.at_ : Int) + 1) = ((d.at_ + 1 : Nat) : Int) := t6 (by omega)
  generalize zNg d = d' at *
  refine q9 func77 rfl (fun E hE => ?_); simp only [go_sem, ntmps77]
  repeat' (first | (refine Qr rfl ?_; try intro _ hK; try simp only [go_sem, *]) | refine Qh rfl ?_ | refine Qd rfl (by kernel_rfl) ?_ | (refine Qc rfl rfl ?_ ?_ <;> (intro hb; have hc := hb; try simp only [go_sem] at hc)) | refine q8 rfl ?_ | (refine Qb ?_ ?_; focus kernel_rfl) | ((with_reducible apply And.intro); focus omega) | (refine q7 hK ?_; clear hK; simp only [go_sem, *]) | simp only [q6, z8, go_sem, *])
  all_goals first | contradiction | omega | skip
  refine ⟨[_], [some 0], [], ⟨rfl, trivial⟩, ?_⟩
  simp only [go_sem, *]
 ·have q2 : ¬ ((d.at_ : Int) < (d.list.length : Int)) := by omega
  have e1 : zNo d = K8 d.seed := by unfold zNo; rw [if_neg q]
  have e3 : (zNg d).at_ = d.at_ := by unfold zNg; simp only; rw [if_neg q]
  generalize zNg d = d' at *
  refine q9 func77 rfl (fun E hE => ?_); simp only [go_sem, ntmps77]
  repeat' (first | (refine Qr rfl ?_; try intro _ hK; try simp only [go_sem, *]) | refine Qh rfl ?_ | refine Qd rfl (by kernel_rfl) ?_ | (refine Qc rfl rfl ?_ ?_ <;> (intro hb; have hc := hb; try simp only [go_sem] at hc)) | refine q8 rfl ?_ | (refine Qb ?_ ?_; focus kernel_rfl) | ((with_reducible apply And.intro); focus omega) | (refine q7 hK ?_; clear hK; simp only [go_sem, *]) | simp only [q6, z8, go_sem, *])
  all_goals first | contradiction | omega | skip
  refine ⟨[_], [some 0], [], ⟨rfl, trivial⟩, ?_⟩
  simp only [go_sem, *]
theorem X7 (d : Dice) (n : Int) (h : d.list.length ≤ 4294967296) (hn : n ≤ 4294967296) : zNF prog 26 [.ptr 0 0, iV n] [w7 d] (iV (toN n d)) [w7 (toD n d)] := by
 by_cases q : n < 1
 ·have e1 : toN n d = 0 := by unfold toN; rw [if_pos q]
  have e2 : toD n d = d := by unfold toD; rw [if_pos q]
  refine q9 func26 rfl (fun E hE => ?_); simp only [go_sem, ntmps26]
  repeat' (first | (refine Qr rfl ?_; try intro _ hK; try simp only [go_sem, *]) | refine Qh rfl ?_ | (refine Qc rfl rfl ?_ ?_ <;> (intro hb; have hc := hb; try simp only [go_sem] at hc)) | refine q8 rfl ?_ | ((with_reducible apply And.intro); focus omega) | (refine q7 hK ?_; clear hK; simp only [go_sem, *]) | simp only [q6, z8, go_sem, *])
  all_goals first | contradiction | omega | skip
  refine ⟨[_], [some 0], [], ⟨rfl, trivial⟩, ?_⟩
  simp only [go_sem, *]
 ·have e1 : toN n d = (f8 (zNj d) 16).tmod (n + 1) := by unfold toN; rw [if_neg q]
  have e2 : toD n d = zNg d := by unfold toD; rw [if_neg q]
  have hr := zDI n d
  rw [e1] at hr
  have e3 : IntKind.i64.wrap (n + 1) = n + 1 := wrap_i64 (by omega) (by omega)
  have e4 : IntKind.u64.wrap (n + 1) = n + 1 := by rw [IntKind.wrap_u64]; omega
  have e5 : IntKind.i64.wrap ((f8 (zNj d) 16).tmod (n + 1)) = (f8 (zNj d) 16).tmod (n + 1) := wrap_i64 (by omega) (by omega)
  have e6 : ¬ n + 1 = 0 := by omega
  have sr := zIc d h
  generalize zNj d = r at *
  generalize zNg d = d' at *
  clear hr
  refine q9 func26 rfl (fun E hE => ?_); simp only [go_sem, ntmps26]
  repeat' (first | (refine Qr rfl ?_; try intro _ hK; try simp only [go_sem, *]) | refine Qh rfl ?_ | (refine Qc rfl rfl ?_ ?_ <;> (intro hb; have hc := hb; try simp only [go_sem] at hc)) | refine q8 rfl ?_ | (refine v8 [0] (sr) ?_; simp only [go_sem, *]) | ((with_reducible apply And.intro); focus omega) | (refine q7 hK ?_; clear hK; simp only [go_sem, *]) | simp only [q6, z8, go_sem, *])
  all_goals first | contradiction | omega | skip
  refine ⟨[_], [some 0], [], ⟨rfl, trivial⟩, ?_⟩
  simp only [go_sem, *]
theorem zHz (d : Dice) (lo hi : Int) (h : d.list.length ≤ 4294967296) (hl : 0 ≤ lo ∧ lo ≤ hi) (hh : hi ≤ 4294967296) : zNF prog 27 [.ptr 0 0, iV lo, iV hi] [w7 d] (iV (Z0 lo hi d)) [w7 (Y9 lo hi d)] := by
 have st := X7 d (hi - lo) h (by omega)
 have hf := B2 hl.2 d
 have e1 : IntKind.i64.wrap (hi - lo) = hi - lo := wrap_i64 (by omega) (by omega)
 have e2 : IntKind.i64.wrap (lo + toN (hi - lo) d) = Z0 lo hi d := by
  have : lo + toN (hi - lo) d = Z0 lo hi d := rfl
  rw [this]; exact wrap_i64 (by omega) (by omega)
 have e3 : Y9 lo hi d = toD (hi - lo) d := rfl
 rw [e3]
 generalize Z0 lo hi d = r at *
 clear e3 hf hl
 refine q9 func27 rfl (fun E hE => ?_); simp only [go_sem, ntmps27]
 repeat' (first | (refine Qr rfl ?_; try intro _ hK; try simp only [go_sem, *]) | refine Qh rfl ?_ | (refine Qc rfl rfl ?_ ?_ <;> (intro hb; have hc := hb; try simp only [go_sem] at hc)) | refine q8 rfl ?_ | (refine v8 [0] (st) ?_; simp only [go_sem, *]) | ((with_reducible apply And.intro); focus omega) | (refine q7 hK ?_; clear hK; simp only [go_sem, *]) | simp only [q6, z8, go_sem, *])
 refine ⟨[_], [some 0], [], ⟨rfl, trivial⟩, ?_⟩
 simp only [go_sem, *]
theorem E4 (d : Dice) (k : Int) (h : d.list.length ≤ 4294967296) (hk : 0 ≤ k ∧ k ≤ 4294967296) : zNF prog 34 [.ptr 0 0, iV k] [w7 d] (bV (c9 k d)) [w7 (w3 k d)] := by
 have st := X7 d (k - 1) h (by omega)
 have e1 : IntKind.i64.wrap (k - 1) = k - 1 := wrap_i64 (by omega) (by omega)
 have e2 : c9 k d = (toN (k - 1) d == 0) := rfl
 have e3 : w3 k d = toD (k - 1) d := rfl
 rw [e3, e2]
 clear e2 e3 hk
 refine q9 func34 rfl (fun E hE => ?_); simp only [go_sem, ntmps34]
 repeat' (first | (refine Qr rfl ?_; try intro _ hK; try simp only [go_sem, *]) | refine Qh rfl ?_ | (refine Qc rfl rfl ?_ ?_ <;> (intro hb; have hc := hb; try simp only [go_sem] at hc)) | refine q8 rfl ?_ | (refine v8 [0] (st) ?_; simp only [go_sem, *]) | ((with_reducible apply And.intro); focus omega) | (refine q7 hK ?_; clear hK; simp only [go_sem, *]) | simp only [q6, z8, go_sem, *])
 refine ⟨[_], [some 0], [], ⟨rfl, trivial⟩, ?_⟩
 simp only [go_sem, *]
@[reducible] def T1 (l : List Int) : AV := .list (l.map iV)
def zCS (l : List Int) : Dice := ⟨l, 0, 11400714819323198485⟩
theorem zH5 (l : List Int) : zNF prog 23 [T1 l] [] (.ptr 0 0) [w7 (zCS l)] := by
 refine q9 func23 rfl (fun E hE => ?_); simp only [go_sem, ntmps23]
 repeat' (first | (refine Qr rfl ?_; try intro _ hK; try simp only [go_sem, *]) | refine Qh rfl ?_ | (refine Qc rfl rfl ?_ ?_ <;> (intro hb; have hc := hb; try simp only [go_sem] at hc)) | refine q8 rfl ?_ | ((with_reducible apply And.intro); focus omega) | (refine q7 hK ?_; clear hK; simp only [go_sem, *]) | simp only [q6, z8, go_sem, *])
 refine ⟨[_], [some 0], [], ⟨rfl, trivial⟩, ?_⟩
 simp only [go_sem, zCS, *]
 try rfl
end Go.Abs

namespace Go.Abs
open Go
theorem E7 : ∀ {k w : Str}, zNP k w = true ↔ k.Sublist w
 | [], w => by simp [zNP]
 | a :: x, [] => by simp [zNP]
 | a :: x, b :: y => by
  rw [zNP]
  by_cases e : a = b
  ·subst e
   rw [if_pos rfl, E7]
   exact List.cons_sublist_cons.symm
  ·rw [if_neg e, E7]
   constructor
   ·intro h; exact h.cons b
   ·intro h
    cases h with
    | cons _ h => exact h
    | cons_cons _ _ => exact absurd rfl e
theorem zM0 {k w : Str} {i : Nat} (h : u0 k w = true) (h0 : 0 < i) (hi : i < k.length) : u0 (k.take i ++ k.drop (i + 1)) w = true := by
 unfold u0 at *
 rw [Bool.and_eq_true, Bool.and_eq_true, decide_eq_true_eq, beq_iff_eq, E7] at *
 obtain ⟨h1, h2, h3⟩ := h
 have hs : (k.take i ++ k.drop (i + 1)).Sublist k := by
  have : (k.take i ++ k.drop (i + 1)).Sublist (k.take i ++ k.drop i) := List.Sublist.append (List.Sublist.refl _) (by
   rw [← List.drop_drop]
   exact List.drop_sublist _ _)
  rwa [List.take_append_drop] at this
 refine ⟨Nat.lt_of_le_of_lt hs.length_le h1, ?_, hs.trans h3⟩
 rw [← h2]
 cases k with
 | nil => simp at hi
 | cons a r =>
  obtain ⟨j, rfl⟩ : ∃ j, i = j + 1 := ⟨i - 1, by omega⟩
  simp
theorem zKV {own s : Str} (h : Z6 own s) : u0 s own = true := by
 obtain ⟨t, ht, rfl, hl⟩ := h
 unfold u0
 rw [Bool.and_eq_true, Bool.and_eq_true, decide_eq_true_eq, beq_iff_eq, E7]
 cases own with
 | nil => simp at hl
 | cons a r => exact ⟨hl, by simp, by simpa using ht⟩
theorem zKT {l : List Str} {own s : Str} {most : Int} {up : Bool} (h : zNN l own most up = some s) : (s.length : Int) ≤ most ∧ 1 ≤ s.length ∧ s.length < own.length ∧ p8 s l own = false := by
 have h1 := (cutN_some.1 h).1
 obtain ⟨_, _, _, hl⟩ := h1.1
 exact ⟨h1.2.1, G1 h1.1, hl, h1.2.2⟩
theorem zKW {l : List Str} {own s : Str} {m m' : Int} (hm : m ≤ m') (h : zNN l own m false = some s) : ∃ t, zNN l own m' false = some t ∧ s.length ≤ t.length := by
 have h1 := cutN_some.1 h
 have hok : W7 l own m' s := ⟨h1.1.1, by have := h1.1.2.1; omega, h1.1.2.2⟩
 cases e : zNN l own m' false with
 | none => exact absurd hok (cutN_none.1 e s)
 | some t =>
  refine ⟨t, rfl, ?_⟩
  have := (cutN_some.1 e).2 s hok
  rw [L0] at this
  simp only [Bool.false_eq_true, if_false, not_or] at this
  omega
theorem zKU {l : List Str} {own s : Str} {m : Int} (h : zNN l own m false = none) (hs : zNN l own 12 true = some s) : m < s.length := by
 have h1 := (cutN_some.1 hs).1
 apply Decidable.of_not_not
 intro hn
 exact cutN_none.1 h s ⟨h1.1, by omega, h1.2.2⟩
end Go.Abs

namespace Go.Abs
open Go
theorem zI4 (t : Str) : zNP [] t = true := by cases t <;> rfl
theorem zI2 {s t : Str} {a i : Nat} (ha : a < s.length) (hi : i < t.length) (h : t.getD i 0 = s.getD a 0) : zNP (s.drop a) (t.drop i) = zNP (s.drop (a + 1)) (t.drop (i + 1)) := by
 rw [List.drop_eq_getElem_cons ha, List.drop_eq_getElem_cons hi]
 have e : s[a] = t[i] := by simpa [List.getD, ha, hi] using h.symm
 rw [zNP, if_pos e]
theorem zI3 {s t : Str} {a i : Nat} (ha : a < s.length) (hi : i < t.length) (h : ¬ t.getD i 0 = s.getD a 0) : zNP (s.drop a) (t.drop i) = zNP (s.drop a) (t.drop (i + 1)) := by
 rw [List.drop_eq_getElem_cons ha, List.drop_eq_getElem_cons hi]
 have e : ¬ s[a] = t[i] := fun e => h (by simpa [List.getD, ha, hi] using e.symm)
 rw [zNP, if_neg e]
theorem zI1 {s t : Str} {a i : Nat} (hi : t.length ≤ i) : zNP (s.drop a) (t.drop i) = decide (s.length ≤ a) := by
 rw [List.drop_eq_nil_of_le hi]
 by_cases h : s.length ≤ a
 ·rw [List.drop_eq_nil_of_le h, decide_eq_true h]; rfl
 ·rw [List.drop_eq_getElem_cons (by omega), decide_eq_false h]; rfl
theorem zMG (s : Str) : j5 0 s = [[]] := by rw [j5]
theorem zME {n : Nat} {s : Str} (h : s.length < n) : j5 n s = [] := by
 rw [List.eq_nil_iff_forall_not_mem]
 intro t ht
 obtain ⟨h1, h2⟩ := mem_partsN.1 ht
 have := h2.length_le
 omega
theorem zMF {n : Nat} {s : Str} {i : Nat} (h : i < s.length) : j5 (n + 1) (s.drop i) = (j5 n (s.drop (i + 1))).map (s.getD i 0 :: ·) ++ j5 (n + 1) (s.drop (i + 1)) := by
 rw [List.drop_eq_getElem_cons h, j5]
 have e : s.getD i 0 = s[i] := by simp [List.getD, h]
 rw [e]
def zKD (l : List Str) (own : Str) (B : Option Str) (L : List Str) : Option Str := x6 zNI B ((L.map (own.take 1 ++ ·)).filter fun s => !p8 s l own)
def zOc (s own x : Str) : Bool := !(decide (zNG x = own)) && u0 s (zNG x)
def zKC (l : List Str) (own : Str) (n : Nat) : Str := if own.length ≤ n then [] else (W8 l own n).getD [] ++ [46]
end Go.Abs

namespace Go.Abs
open Go
def zLF (x : Str) : Prop := x.head? ≠ some 104
end Go.Abs

namespace Go.Abs
open Go
def Asc (n : Nat) (c : List Nat) : Prop := c.Pairwise (· < ·) ∧ ∀ i, i ∈ c → i < n
def zDN (l : List Str) (c : List Nat) : List Str := ((List.range l.length).filter fun i => !decide (i ∈ c)).map fun i => l.getD i []
def zJj (l : List Str) (c : List Nat) : Prop := Asc l.length c ∧ J3 (zDN l c) = true
def zCZ (n : Nat) : Nat → Nat → List (List Nat)
 | 0, _ => [[]]
 | m + 1, lo => (List.range' lo (n - lo)).flatMap fun i => (zCZ n m (i + 1)).map (i :: ·)
def zND (l : List Str) (m : Nat) : Option (List Nat) := o6 (fun c => if J3 (zDN l c) = true then some c else none) (zCZ l.length m 0)
end Go.Abs

namespace Go.Abs
open Go
def Q8 (r : Int) : Int := if 97 ≤ r ∧ r ≤ 122 then 1 else if 65 ≤ r ∧ r ≤ 90 ∧ ¬ (r = 72 ∨ r = 81 ∨ r = 87) then 2 else 0
theorem zGG : ((List.range 256).all fun n => decide (Q8 n = w9 (UInt8.ofNat n))) = true := by kernel_rfl
theorem A4 (c : UInt8) : Q8 (c.toNat : Int) = w9 c := by
 have := List.all_eq_true.1 zGG c.toNat (List.mem_range.2 c.toNat_lt)
 rw [decide_eq_true_eq, UInt8.ofNat_toNat] at this
 exact this
theorem zB4 {r : Int} (h : 128 ≤ r) : Q8 r = 0 := by
 unfold Q8
 rw [if_neg (by omega), if_neg (by omega)]
theorem zB3 {c : UInt8} (h : 128 ≤ c.toNat) : w9 c = 0 := by rw [← A4, zB4 (by omega)]
theorem zGE {c : UInt8} (h : w9 c ≠ 0) : c.toNat < 128 := by
 apply Decidable.of_not_not
 intro hn
 exact h (zB3 (by omega))
theorem zGH : ((List.range 256).all fun n => (y8 (UInt8.ofNat n) == decide (w9 (UInt8.ofNat n) = 1)) && (v7 (UInt8.ofNat n) == decide (w9 (UInt8.ofNat n) = 2))) = true := by kernel_rfl
theorem zB5 (c : UInt8) : y8 c = decide (w9 c = 1) ∧ v7 c = decide (w9 c = 2) := by
 have := List.all_eq_true.1 zGH c.toNat (List.mem_range.2 c.toNat_lt)
 rw [UInt8.ofNat_toNat, Bool.and_eq_true, beq_iff_eq, beq_iff_eq] at this
 exact this
theorem latin_kind {c : UInt8} : y8 c = true ↔ w9 c = 1 := by rw [(zB5 c).1, decide_eq_true_eq]
theorem other_kind {c : UInt8} : v7 c = true ↔ w9 c = 2 := by rw [(zB5 c).2, decide_eq_true_eq]
def FormTo (s : Str) (i : Nat) (k : Int) : Prop := (i = 0 ∧ k = 0) ∨ (0 < i ∧ k ≠ 0 ∧ ∀ j, j < i → w9 (s.getD j 0) = k)
theorem zGF (c : UInt8) : w9 c = 0 ∨ w9 c = 1 ∨ w9 c = 2 := by
 unfold w9
 repeat' split
 all_goals simp
theorem FormTo.end {s : Str} {i : Nat} {k : Int} (h : FormTo s i k) (hi : i = s.length) (h0 : 0 < s.length) : l6 s = true := by
 rcases h with h | ⟨_, hk, h⟩
 ·omega
 ·unfold l6
  rw [Bool.or_eq_true, List.all_eq_true, List.all_eq_true]
  have hm : ∀ c, c ∈ s → w9 c = k := fun c hc => by
   obtain ⟨j, hj, rfl⟩ := List.getElem_of_mem hc
   have := h j (by omega)
   simpa [List.getD, hj] using this
  have hr : k = 1 ∨ k = 2 := by
   cases s with
   | nil => simp at h0
   | cons c r =>
    have h1 := hm c (by simp)
    rcases zGF c with h2 | h2 | h2 <;> omega
  rcases hr with rfl | rfl
  ·exact .inl (fun c hc => latin_kind.2 (hm c hc))
  ·exact .inr (fun c hc => other_kind.2 (hm c hc))
theorem FormTo.next {s : Str} {i : Nat} {k : Int} (h : FormTo s i k) (hk : w9 (s.getD i 0) ≠ 0) (he : k = 0 ∨ w9 (s.getD i 0) = k) : FormTo s (i + 1) (w9 (s.getD i 0)) := by
 refine .inr ⟨by omega, hk, fun j hj => ?_⟩
 by_cases e : j = i
 ·rw [e]
 ·rcases h with ⟨rfl, rfl⟩ | ⟨h0, h1, h⟩
  ·omega
  ·rw [h j (by omega)]
   rcases he with he | he
   ·exact absurd he h1
   ·exact he.symm
theorem FormTo.bad {s : Str} {i : Nat} {k : Int} (h : FormTo s i k) (hi : i < s.length) (hb : w9 (s.getD i 0) = 0 ∨ (k ≠ 0 ∧ w9 (s.getD i 0) ≠ k)) : l6 s = false := by
 have hm : s.getD i 0 ∈ s := by simp [List.getD, hi]
 cases hf : l6 s with
 | false => rfl
 | true =>
  exfalso
  unfold l6 at hf
  rw [Bool.or_eq_true, List.all_eq_true, List.all_eq_true] at hf
  have hall : ∃ q, q ≠ 0 ∧ ∀ c, c ∈ s → w9 c = q := by
   rcases hf with hf | hf
   ·exact ⟨1, by decide, fun c hc => latin_kind.1 (hf c hc)⟩
   ·exact ⟨2, by decide, fun c hc => other_kind.1 (hf c hc)⟩
  obtain ⟨q, hq, hall⟩ := hall
  have h1 := hall _ hm
  rcases hb with hb | ⟨hb1, hb2⟩
  ·exact hq (h1.symm.trans hb)
  ·rcases h with ⟨_, h⟩ | ⟨h0, _, h⟩
   ·exact hb1 h
   ·have h2 := h 0 h0
    have h3 : s.getD 0 0 ∈ s := by
     have : 0 < s.length := by omega
     simp [List.getD, this]
    have := hall _ h3
    exact hb2 (by omega)
end Go.Abs

namespace Go.Abs
open Go Go.Proofs Tryz
attribute [local irreducible] y4 Hold y9
theorem zIS (n : Int) : zNF prog 153 [iV n] [] (bV false) [] := by
 refine q9 func153 rfl (fun E hE => ?_); simp only [go_sem, ntmps153]
 repeat' (first | (refine Qr rfl ?_; try intro _ hK; try simp only [go_sem, *]) | refine Qh rfl ?_ | (refine Qc rfl rfl ?_ ?_ <;> (intro hb; have hc := hb; try simp only [go_sem] at hc)) | refine q8 rfl ?_ | ((with_reducible apply And.intro); focus omega) | (refine q7 hK ?_; clear hK; simp only [go_sem, *]) | simp only [q6, z8, go_sem, *])
 all_goals (refine ⟨[_], [], [], ⟨rfl, trivial⟩, ?_⟩; simp only [go_sem, *])
 all_goals simp_all
theorem zHo (a b : Int) : zNF prog 130 [iV a, iV b] [] (iV (zNV a b)) [] := by
 refine q9 func130 rfl (fun E hE => ?_); simp only [go_sem, ntmps130]
 repeat' (first | (refine Qr rfl ?_; try intro _ hK; try simp only [go_sem, *]) | refine Qh rfl ?_ | (refine Qc rfl rfl ?_ ?_ <;> (intro hb; have hc := hb; try simp only [go_sem] at hc)) | refine q8 rfl ?_ | (refine y5 (zIS _) ?_; simp only [go_sem, *]) | ((with_reducible apply And.intro); focus omega) | (refine q7 hK ?_; clear hK; simp only [go_sem, *]) | simp only [q6, z8, go_sem, *])
 all_goals (refine ⟨[_], [], [], ⟨rfl, trivial⟩, ?_⟩; simp only [go_sem, *])
 all_goals (refine L9 ?_; unfold zNV; repeat' split)
 all_goals omega
def orL : List Int → Int
 | [] => 0
 | x :: r => if x = 0 then orL r else x
theorem zCv (l : List Int) (hl : l.length ≤ 4294967296) : zNF prog 119 [.list (l.map iV)] [] (iV (orL l)) [] := by
 refine q9 func119 rfl (fun E hE => ?_); simp only [go_sem, ntmps119]
 repeat' (first | (refine Qr rfl ?_; try intro _ hK; try simp only [go_sem, *]) | refine Qh rfl ?_ | (refine Qc rfl rfl ?_ ?_ <;> (intro hb; have hc := hb; try simp only [go_sem] at hc)) | refine q8 rfl ?_ | ((with_reducible apply And.intro); focus omega) | (refine q7 hK ?_; clear hK; simp only [go_sem, *]) | simp only [q6, z8, go_sem, *])
 refine n0 rfl (l.length) (fun i => orL (l.drop i) = orL l) 18 (fun i => [(8, iV i), (7, iV l.length), (6, .list (l.map iV)), (3, iV 0)]) (fun i => []) [] [] (by simp) ?_; intro i hi hP
 repeat' (first | (refine Qr rfl ?_; try intro _ hK; try simp only [go_sem, *]) | refine Qh rfl ?_ | (refine Qc rfl rfl ?_ ?_ <;> (intro hb; have hc := hb; try simp only [go_sem] at hc)) | refine q8 rfl ?_ | ((with_reducible apply And.intro); focus omega) | (refine q7 hK ?_; clear hK; simp only [go_sem, *]) | simp only [q6, z8, go_sem, *])
 ·(refine ⟨[_], [], [], ⟨rfl, trivial⟩, ?_⟩; simp only [go_sem, *])
  rw [← hP, j3 ‹_›, orL, if_neg ‹_›]
 ·exact d7 (i' := i + 1) [] [] (by rw [← hP, j3 (i := i) ‹_›, orL, if_pos ‹_›])
 ·(refine ⟨[_], [], [], ⟨rfl, trivial⟩, ?_⟩; simp only [go_sem, *])
  rw [← hP, c0 (by omega), orL]
theorem zCV (a b : Int) : orL [a, b] = orI a b := by
 simp only [orL, orI]; repeat' split
 all_goals omega
theorem zIT (s : Str) : zNF prog 142 [sV s] [] (bV false) [] := by
 refine q9 func142 rfl (fun E hE => ?_); simp only [go_sem, ntmps142]
 repeat' (first | (refine Qr rfl ?_; try intro _ hK; try simp only [go_sem, *]) | refine Qh rfl ?_ | (refine Qc rfl rfl ?_ ?_ <;> (intro hb; have hc := hb; try simp only [go_sem] at hc)) | refine q8 rfl ?_ | ((with_reducible apply And.intro); focus omega) | (refine q7 hK ?_; clear hK; simp only [go_sem, *]) | simp only [q6, z8, go_sem, *])
 all_goals (refine ⟨[_], [], [], ⟨rfl, trivial⟩, ?_⟩; simp only [go_sem, *])
 all_goals simp_all
theorem zIU (s : Str) : zNF prog 172 [sV s] [] (bV false) [] := by
 refine q9 func172 rfl (fun E hE => ?_); simp only [go_sem, ntmps172]
 repeat' (first | (refine Qr rfl ?_; try intro _ hK; try simp only [go_sem, *]) | refine Qh rfl ?_ | (refine Qc rfl rfl ?_ ?_ <;> (intro hb; have hc := hb; try simp only [go_sem] at hc)) | refine q8 rfl ?_ | ((with_reducible apply And.intro); focus omega) | (refine q7 hK ?_; clear hK; simp only [go_sem, *]) | simp only [q6, z8, go_sem, *])
 all_goals (refine ⟨[_], [], [], ⟨rfl, trivial⟩, ?_⟩; simp only [go_sem, *])
 all_goals simp_all
theorem zCr (a b : Str) : zNF prog 120 [sV a, sV b] [] (iV (zNI a b)) [] := by
 refine q9 func120 rfl (fun E hE => ?_); simp only [go_sem, ntmps120]
 repeat' (first | (refine Qr rfl ?_; try intro _ hK; try simp only [go_sem, *]) | refine Qh rfl ?_ | (refine Qc rfl rfl ?_ ?_ <;> (intro hb; have hc := hb; try simp only [go_sem] at hc)) | refine q8 rfl ?_ | (refine y5 (zIT _) ?_; simp only [go_sem, *]) | ((with_reducible apply And.intro); focus omega) | (refine q7 hK ?_; clear hK; simp only [go_sem, *]) | simp only [q6, z8, go_sem, *])
 all_goals (refine ⟨[_], [], [], ⟨rfl, trivial⟩, ?_⟩; simp only [go_sem, *])
 all_goals (refine L9 ?_; unfold zNI u5; simp_all)
 all_goals (apply Decidable.of_not_not; intro h; exact absurd (N8 (by assumption) (by simpa using h)) (by assumption))
theorem zHq (a b : Str) : zNF prog 150 [sV a, sV b] [] (iV (zNI a b)) [] := by
 refine q9 func150 rfl (fun E hE => ?_); simp only [go_sem, ntmps150]
 repeat' (first | (refine Qr rfl ?_; try intro _ hK; try simp only [go_sem, *]) | refine Qh rfl ?_ | (refine Qc rfl rfl ?_ ?_ <;> (intro hb; have hc := hb; try simp only [go_sem] at hc)) | refine q8 rfl ?_ | (refine y5 (zIU _) ?_; simp only [go_sem, *]) | ((with_reducible apply And.intro); focus omega) | (refine q7 hK ?_; clear hK; simp only [go_sem, *]) | simp only [q6, z8, go_sem, *])
 all_goals (refine ⟨[_], [], [], ⟨rfl, trivial⟩, ?_⟩; simp only [go_sem, *])
 all_goals (refine L9 ?_; unfold zNI u5; simp_all)
 all_goals (apply Decidable.of_not_not; intro h; exact absurd (N8 (by assumption) (by simpa using h)) (by assumption))
end Go.Abs

namespace Go.Abs
open Go Go.Proofs Tryz
attribute [local irreducible] y4 Hold y9
theorem zGk : ¬ W5 := fun h => h
def hqw (r : Int) : Bool := decide (0 ≤ Lib.indexByte [72, 81, 87] r.toNat.toUInt8)
theorem zF0 : ((List.range 128).all fun n => hqw n == (n == 72 || n == 81 || n == 87)) = true := by kernel_rfl
theorem zF1 {r : Int} (h0 : 0 ≤ r) (h1 : r < 128) : hqw r = decide (r = 72 ∨ r = 81 ∨ r = 87) := by
 obtain ⟨n, rfl⟩ := Int.eq_ofNat_of_zero_le h0
 have := List.all_eq_true.1 zF0 n (List.mem_range.2 (by omega))
 rw [beq_iff_eq] at this
 rw [this, Bool.eq_iff_iff]
 simp
 omega
theorem zIP (r : Int) (h0 : 0 ≤ r) (h1 : r < 128) : zNF prog 128 [sV [72, 81, 87], .raw (.int .i32 r)] [] (bV (hqw r)) [] :=
 zIu [.string ⟨[72, 81, 87].toArray⟩, .int .i32 r] (.bool (hqw r)) rfl (fun w => Tryz.strings_ContainsRune_ascii _ r w h0 h1)
theorem zAX (r : Int) : zNF prog 92 [.raw (.int .i32 r)] [] (iV (Q8 r)) [] := by
 by_cases q : 65 ≤ r ∧ r ≤ 90
 ·have sh := zIP r (by omega) (by omega)
  have e := zF1 (r := r) (by omega) (by omega)
  generalize hqw r = b at *
  have e0 : b = decide (r = 72 ∨ r = 81 ∨ r = 87) := e
  clear e
  refine q9 func92 rfl (fun E hE => ?_); simp only [go_sem, ntmps92]
  repeat' (first | (refine Qr rfl ?_; try intro _ hK; try simp only [go_sem, *]) | (refine Qi rfl rfl rfl rfl ?_ ?_ <;> (intro hb; (try intro _ hK); have hc := hb; try simp only [go_sem] at hc; simp only [go_sem, *])) | refine Qh rfl ?_ | (refine Qc rfl rfl ?_ ?_ <;> (intro hb; have hc := hb; try simp only [go_sem] at hc)) | refine q8 rfl ?_ | (refine y5 (sh) ?_; simp only [go_sem, *]) | ((with_reducible apply And.intro); focus omega) | (refine q7 hK ?_; clear hK; simp only [go_sem, *]) | simp only [q6, z8, go_sem, *])
  all_goals (refine ⟨[_], [], [], ⟨rfl, trivial⟩, ?_⟩; simp only [go_sem, *])
  all_goals (refine L9 ?_; unfold Q8; simp_all)
  all_goals omega
 ·refine q9 func92 rfl (fun E hE => ?_); simp only [go_sem, ntmps92]
  repeat' (first | (refine Qr rfl ?_; try intro _ hK; try simp only [go_sem, *]) | (refine Qi rfl rfl rfl rfl ?_ ?_ <;> (intro hb; (try intro _ hK); have hc := hb; try simp only [go_sem] at hc; simp only [go_sem, *])) | refine Qh rfl ?_ | (refine Qc rfl rfl ?_ ?_ <;> (intro hb; have hc := hb; try simp only [go_sem] at hc)) | refine q8 rfl ?_ | ((with_reducible apply And.intro); focus omega) | (refine q7 hK ?_; clear hK; simp only [go_sem, *]) | simp only [q6, z8, go_sem, *])
  all_goals try omega
  all_goals (refine ⟨[_], [], [], ⟨rfl, trivial⟩, ?_⟩; simp only [go_sem, *])
  all_goals (refine L9 ?_; unfold Q8; simp_all)
  all_goals omega
end Go.Abs

namespace Go.Abs
open Go Go.Proofs Tryz
attribute [local irreducible] y4 Hold y9
theorem zGU : ((List.range 128).all fun n => n == 67 || n == 74 || n == 88 || n == 89 || decide (Lib.toLowerA [UInt8.ofNat n] = w6 (UInt8.ofNat n))) = true := by kernel_rfl
theorem zGV {c : UInt8} (h : c.toNat < 128) (h1 : ¬ c.toNat = 67) (h2 : ¬ c.toNat = 74) (h3 : ¬ c.toNat = 88) (h4 : ¬ c.toNat = 89) : Lib.toLowerA [c] = w6 c := by
 have := List.all_eq_true.1 zGU c.toNat (List.mem_range.2 h)
 simpa [h1, h2, h3, h4] using this
theorem zIW (c : UInt8) (h : c.toNat < 128) : zNF prog 143 [sV [c]] [] (sV (Lib.toLowerA [c])) [] :=
 zIq zGk [.string ⟨[c].toArray⟩] (.string ⟨(Lib.toLowerA [c]).toArray⟩) rfl (fun w => Tryz.strings_ToLower_ascii ⟨[c].toArray⟩ w (by simp) (fun j b hb => by
  cases j with
  | zero => simp at hb; subst hb; exact h
  | succ j => simp at hb))
theorem zHj : w6 67 = [99, 104] := by decide
theorem zHk : w6 74 = [106, 117] := by decide
theorem zHl : w6 88 = [115, 104] := by decide
theorem zHm : w6 89 = [106, 97] := by decide
theorem zIl (c : UInt8) (h : c.toNat < 128) : zNF prog 122 [.raw (.int .i32 (c.toNat : Int))] [] (sV (w6 c)) [] := by
 have sl := zIW c h
 have ee := zBH (n := (c.toNat : Int)) (by omega) (by omega)
 rw [Int.toNat_natCast, UInt8.ofNat_toNat] at ee
 have hl := zGV h
 have k1 : c.toNat = 67 → w6 c = [99, 104] := fun e => by rw [UInt8.toNat_inj.1 (show c.toNat = (67 : UInt8).toNat from e), zHj]
 have k2 : c.toNat = 74 → w6 c = [106, 117] := fun e => by rw [UInt8.toNat_inj.1 (show c.toNat = (74 : UInt8).toNat from e), zHk]
 have k3 : c.toNat = 88 → w6 c = [115, 104] := fun e => by rw [UInt8.toNat_inj.1 (show c.toNat = (88 : UInt8).toNat from e), zHl]
 have k4 : c.toNat = 89 → w6 c = [106, 97] := fun e => by rw [UInt8.toNat_inj.1 (show c.toNat = (89 : UInt8).toNat from e), zHm]
 generalize c.toNat = n at *
 generalize w6 c = sb at *
 have fin : n < 128 → ¬ n = 67 → ¬ n = 74 → ¬ n = 88 → ¬ n = 89 → Lib.toLowerA [c] = sb := fun _ => hl
 clear hl
 generalize Lib.toLowerA [c] = lb at *
 generalize he : Utf8.encode (n : Int) = eb at *
 obtain ⟨ev, hev⟩ : ∃ v, v = Value.string eb := ⟨_, rfl⟩
 have sl2 : zNF prog 143 [.raw (.string eb)] [] (sV lb) [] := by rw [ee]; exact sl
 clear ee sl hev ev
 refine q9 func122 rfl (fun E hE => ?_); simp only [go_sem, ntmps122]
 repeat' (first | (refine Qr rfl ?_; try intro _ hK; try simp only [go_sem, *]) | refine Qh rfl ?_ | (refine Qc rfl rfl ?_ ?_ <;> (intro hb; have hc := hb; try simp only [go_sem] at hc)) | refine q8 rfl ?_ | (refine y5 (sl2) ?_; simp only [go_sem, *]) | ((with_reducible apply And.intro); focus omega) | (refine q7 hK ?_; clear hK; simp only [go_sem, *]) | simp only [q6, z8, go_sem, *])
 all_goals (refine ⟨[_], [], [], ⟨rfl, trivial⟩, ?_⟩; simp only [go_sem, *])
 ·rw [k1 (by omega)]
 ·rw [k2 (by omega)]
 ·rw [k4 (by omega)]
 ·rw [k3 (by omega)]
 ·rw [fin (by omega) (by omega) (by omega) (by omega) (by omega)]
end Go.Abs

namespace Go.Abs
open Go Go.Proofs Tryz
attribute [local irreducible] y4 Hold y9
theorem zCo (s : Str) {i : Nat} (h : i < s.length) : Q8 ((Utf8.decode ⟨s.toArray⟩ i).1 : Int) = w9 (s.getD i 0) ∧ (w9 (s.getD i 0) ≠ 0 → (Utf8.decode ⟨s.toArray⟩ i).2 = 1) := by
 by_cases q : (s.getD i 0).toNat < 128
 ·rw [C3 h q]
  exact ⟨A4 _, fun _ => rfl⟩
 ·have := zEo h (by omega)
  rw [zB3 (by omega), zB4 (by omega)]
  exact ⟨rfl, fun h => absurd rfl h⟩
def NoQ (_ : Nat) : Prop := True
theorem zAT (s : Str) : zNF prog 44 [sV s] [] (iV (x4 s)) [] := by
 have e0 : s.length = 0 → x4 s = 7 := fun h => by unfold x4; rw [if_pos h]
 have e1 : 6 < s.length → x4 s = 10 := fun h => by unfold x4; rw [if_neg (by omega), if_pos h]
 have e2 : 0 < s.length → s.length ≤ 6 → x4 s = if l6 s = true then 0 else 2 := fun h h' => by unfold x4; rw [if_neg (by omega), if_neg (by omega)]
 refine q9 func44 rfl (fun E hE => ?_); simp only [go_sem, ntmps44]
 repeat' (first | (refine Qr rfl ?_; try intro _ hK; try simp only [go_sem, *]) | (refine Qi rfl rfl rfl rfl ?_ ?_ <;> (intro hb; (try intro _ hK); have hc := hb; try simp only [go_sem] at hc; simp only [go_sem, *])) | refine Qh rfl ?_ | (refine Qc rfl rfl ?_ ?_ <;> (intro hb; have hc := hb; try simp only [go_sem] at hc)) | refine q8 rfl ?_ | ((with_reducible apply And.intro); focus omega) | (refine q7 hK ?_; clear hK; simp only [go_sem, *]) | simp only [q6, z8, go_sem, *])
 ·(refine ⟨[_], [], [], ⟨rfl, trivial⟩, ?_⟩; simp only [go_sem, *])
  rw [e0 (by omega)]
 ·(refine ⟨[_], [], [], ⟨rfl, trivial⟩, ?_⟩; simp only [go_sem, *])
  rw [e1 (by omega)]
 ·have e3 := e2 (by omega) (by omega)
  have h0 : 0 < s.length := by omega
  have h6 : s.length ≤ 6 := by omega
  clear e0 e1 e2
  refine c7 rfl (s.length) (fun i (k : Int) => FormTo s i k) 30 (fun i k => [(14, .ptr 0 0), (3, iV k)]) (fun i k => [.siter ⟨s.toArray⟩ i]) [some 0] [] (0) (by exact .inl ⟨rfl, rfl⟩) ?_; intro i k hi hP
  by_cases hi2 : i < s.length
  ·obtain ⟨r1, r2⟩ := zCo s hi2
   have hbad := hP.bad hi2
   have hnext := hP.next
   have sk := zAX ((Utf8.decode ⟨s.toArray⟩ i).1 : Int)
   rw [r1] at sk
   generalize hde : Utf8.decode ⟨s.toArray⟩ i = d at *
   obtain ⟨d1, d2⟩ := d
   simp only at r2 sk
   clear r1 hP
   generalize w9 (s.getD i 0) = kb at *
   repeat' (first | (refine Qr rfl ?_; try intro _ hK; try simp only [go_sem, *]) | (refine Qi rfl rfl rfl rfl ?_ ?_ <;> (intro hb; (try intro _ hK); have hc := hb; try simp only [go_sem] at hc; simp only [go_sem, *])) | refine Qh rfl ?_ | (refine Qc rfl rfl ?_ ?_ <;> (intro hb; have hc := hb; try simp only [go_sem] at hc)) | refine q8 rfl ?_ | (refine y5 (sk) ?_; simp only [go_sem, *]) | ((with_reducible apply And.intro); focus omega) | (refine q7 hK ?_; clear hK; simp only [go_sem, *]) | simp only [q6, z8, go_sem, *])
   all_goals first | (exact p5 (i' := i + 1) [some 0] [] (kb) (by exact hnext (by assumption) (by first | (left; assumption) | (right; omega)))) | (focus ((refine ⟨[_], [], [], ⟨rfl, trivial⟩, ?_⟩; simp only [go_sem, *]); done))
  ·have hf := hP.end (by omega) h0
   rw [if_pos hf] at e3
   clear hP
   repeat' (first | (refine Qr rfl ?_; try intro _ hK; try simp only [go_sem, *]) | (refine Qi rfl rfl rfl rfl ?_ ?_ <;> (intro hb; (try intro _ hK); have hc := hb; try simp only [go_sem] at hc; simp only [go_sem, *])) | refine Qh rfl ?_ | (refine Qc rfl rfl ?_ ?_ <;> (intro hb; have hc := hb; try simp only [go_sem] at hc)) | refine q8 rfl ?_ | ((with_reducible apply And.intro); focus omega) | (refine q7 hK ?_; clear hK; simp only [go_sem, *]) | simp only [q6, z8, go_sem, *])
   (refine ⟨[_], [], [], ⟨rfl, trivial⟩, ?_⟩; simp only [go_sem, *])
theorem zBz {s : Str} {i : Nat} (h : i < s.length) : zNG (s.take (i + 1)) = zNG (s.take i) ++ w6 (s.getD i 0) := by
 rw [List.take_succ_eq_append_getElem h, zNG, List.flatMap_append]
 simp [zNG, List.getD, h]
@[go_sem] theorem zLI : zNG [] = [] := rfl
theorem zBy (s : Str) (i : Nat) : (zNG (s.take i)).length ≤ 2 * s.length := by
 have h1 := (A3 (s.take i)).2
 simp at h1
 omega
theorem zGc {s : Str} (v : l6 s = true) {i : Nat} (h : i < s.length) : (s.getD i 0).toNat < 128 := by
 apply zGE
 have hm : s.getD i 0 ∈ s := by simp [List.getD, h]
 unfold l6 at v
 rw [Bool.or_eq_true, List.all_eq_true, List.all_eq_true] at v
 rcases v with v | v
 ·rw [latin_kind.1 (v _ hm)]; decide
 ·rw [other_kind.1 (v _ hm)]; decide
theorem X8 (s : Str) (v : l6 s = true) (hl : s.length ≤ 1000) : zNF prog 85 [sV s] [] (sV (zNG s)) [] := by
 refine q9 func85 rfl (fun E hE => ?_); simp only [go_sem, ntmps85]
 repeat' (first | (refine Qr rfl ?_; try intro _ hK; try simp only [go_sem, *]) | refine Qh rfl ?_ | (refine Qc rfl rfl ?_ ?_ <;> (intro hb; have hc := hb; try simp only [go_sem] at hc)) | refine q8 rfl ?_ | ((with_reducible apply And.intro); focus omega) | (refine q7 hK ?_; clear hK; simp only [go_sem, *]) | simp only [q6, z8, go_sem, *])
 refine n0 rfl (s.length) (fun i => NoQ i) 16 (fun i => [(7, .ptr 0 0), (3, sV (zNG (s.take i)))]) (fun i => [.siter ⟨s.toArray⟩ i]) [some 0] [] (by trivial) ?_; intro i hi hP
 have hk2 := zBy s i
 by_cases hi2 : i < s.length
 ·have ha := zGc v hi2
  have hd := C3 hi2 ha
  have ss := zIl _ ha
  have hs2 := (E3 (s.getD i 0)).2
  have hkt := zBz hi2
  generalize w6 (s.getD i 0) = sb at *
  generalize zNG (s.take i) = kt at *
  repeat' (first | (refine Qr rfl ?_; try intro _ hK; try simp only [go_sem, *]) | refine Qh rfl ?_ | (refine Qc rfl rfl ?_ ?_ <;> (intro hb; have hc := hb; try simp only [go_sem] at hc)) | refine q8 rfl ?_ | (refine y5 (ss) ?_; simp only [go_sem, *]) | ((with_reducible apply And.intro); focus omega) | (refine q7 hK ?_; clear hK; simp only [go_sem, *]) | simp only [q6, z8, go_sem, *])
  exact d7 (i' := i + 1) [some 0] [] (by trivial)
 ·have e : s.take i = s := List.take_of_length_le (by omega)
  rw [e]
  clear hk2
  repeat' (first | (refine Qr rfl ?_; try intro _ hK; try simp only [go_sem, *]) | refine Qh rfl ?_ | (refine Qc rfl rfl ?_ ?_ <;> (intro hb; have hc := hb; try simp only [go_sem] at hc)) | refine q8 rfl ?_ | ((with_reducible apply And.intro); focus omega) | (refine q7 hK ?_; clear hK; simp only [go_sem, *]) | simp only [q6, z8, go_sem, *])
  (refine ⟨[_], [], [], ⟨rfl, trivial⟩, ?_⟩; simp only [go_sem, *])
theorem zCt (s : Str) : zNF prog 37 [sV s] [] (.tup [sV (if x4 s = 0 then zNG s else []), iV (x4 s)]) [] := by
 have sc := zAT s
 by_cases q : x4 s = 0
 ·have v := checkN_zero.1 q
  have so := X8 s v.form (by have := v.len; omega)
  rw [if_pos q]
  rw [q] at sc ⊢
  refine q9 func37 rfl (fun E hE => ?_); simp only [go_sem, ntmps37]
  repeat' (first | (refine Qr rfl ?_; try intro _ hK; try simp only [go_sem, *]) | refine Qh rfl ?_ | (refine Qc rfl rfl ?_ ?_ <;> (intro hb; have hc := hb; try simp only [go_sem] at hc)) | refine q8 rfl ?_ | ((first | refine y5 (sc) ?_ | refine y5 (so) ?_); simp only [go_sem, *]) | ((with_reducible apply And.intro); focus omega) | (refine q7 hK ?_; clear hK; simp only [go_sem, *]) | simp only [q6, z8, go_sem, *])
  all_goals try contradiction
  (refine ⟨[_, _], [], [], ⟨rfl, rfl, trivial⟩, ?_⟩; simp only [go_sem, *])
 ·rw [if_neg q]
  generalize x4 s = e at *
  refine q9 func37 rfl (fun E hE => ?_); simp only [go_sem, ntmps37]
  repeat' (first | (refine Qr rfl ?_; try intro _ hK; try simp only [go_sem, *]) | refine Qh rfl ?_ | (refine Qc rfl rfl ?_ ?_ <;> (intro hb; have hc := hb; try simp only [go_sem] at hc)) | refine q8 rfl ?_ | (refine y5 (sc) ?_; simp only [go_sem, *]) | ((with_reducible apply And.intro); focus omega) | (refine q7 hK ?_; clear hK; simp only [go_sem, *]) | simp only [q6, z8, go_sem, *])
  all_goals try contradiction
  (refine ⟨[_, _], [], [], ⟨rfl, rfl, trivial⟩, ?_⟩; simp only [go_sem, *])
end Go.Abs

namespace Go.Abs
open Go Go.Proofs Tryz
attribute [local irreducible] y4 Hold y9
abbrev fnV (f : FuncId) : AV := .raw (.func (.func f) #[] #[])
abbrev y7 (l : List Str) : AV := .list (l.map sV)
theorem zGe {l : List Str} {i : Nat} (h : i < l.length) : v6 (l.drop i) = if x4 (l.getD i default) = 0 then v6 (l.drop (i + 1)) else x4 (l.getD i default) := by
 rw [j3 h, v6]
theorem zCx (l : List Str) (hl : l.length ≤ 4294967296) : zNF prog 87 [y7 l] [] (iV (v6 l)) [] := by
 refine q9 func87 rfl (fun E hE => ?_); simp only [go_sem, ntmps87]
 repeat' (first | (refine Qr rfl ?_; try intro _ hK; try simp only [go_sem, *]) | refine Qh rfl ?_ | (refine Qc rfl rfl ?_ ?_ <;> (intro hb; have hc := hb; try simp only [go_sem] at hc)) | refine q8 rfl ?_ | ((with_reducible apply And.intro); focus omega) | (refine q7 hK ?_; clear hK; simp only [go_sem, *]) | simp only [q6, z8, go_sem, *])
 refine n0 rfl (l.length) (fun i => v6 (l.drop i) = v6 l) 18 (fun i => [(8, iV i), (7, iV l.length), (6, y7 l)]) (fun i => []) [] [] (by simp) ?_; intro i hi hP
 by_cases hi2 : i < l.length
 ·have hs := zGe hi2
  have sc := zAT (l.getD i default)
  by_cases q : x4 (l.getD i default) = 0
  ·rw [if_pos q] at hs
   rw [q] at sc
   repeat' (first | (refine Qr rfl ?_; try intro _ hK; try simp only [go_sem, *]) | refine Qh rfl ?_ | (refine Qc rfl rfl ?_ ?_ <;> (intro hb; have hc := hb; try simp only [go_sem] at hc)) | refine q8 rfl ?_ | (refine y5 (sc) ?_; simp only [go_sem, *]) | ((with_reducible apply And.intro); focus omega) | (refine q7 hK ?_; clear hK; simp only [go_sem, *]) | simp only [q6, z8, go_sem, *])
   all_goals try contradiction
   exact d7 (i' := i + 1) [] [] (by rw [← hP, hs])
  ·rw [if_neg q] at hs
   rw [hs] at hP
   generalize x4 (l.getD i default) = e at *
   subst hP
   repeat' (first | (refine Qr rfl ?_; try intro _ hK; try simp only [go_sem, *]) | refine Qh rfl ?_ | (refine Qc rfl rfl ?_ ?_ <;> (intro hb; have hc := hb; try simp only [go_sem] at hc)) | refine q8 rfl ?_ | (refine y5 (sc) ?_; simp only [go_sem, *]) | ((with_reducible apply And.intro); focus omega) | (refine q7 hK ?_; clear hK; simp only [go_sem, *]) | simp only [q6, z8, go_sem, *])
   all_goals try contradiction
   (refine ⟨[_], [], [], ⟨rfl, trivial⟩, ?_⟩; simp only [go_sem, *])
 ·have e : v6 l = 0 := by rw [← hP, c0 (by omega)]; rfl
  rw [e]
  repeat' (first | (refine Qr rfl ?_; try intro _ hK; try simp only [go_sem, *]) | refine Qh rfl ?_ | (refine Qc rfl rfl ?_ ?_ <;> (intro hb; have hc := hb; try simp only [go_sem] at hc)) | refine q8 rfl ?_ | ((with_reducible apply And.intro); focus omega) | (refine q7 hK ?_; clear hK; simp only [go_sem, *]) | simp only [q6, z8, go_sem, *])
  (refine ⟨[_], [], [], ⟨rfl, trivial⟩, ?_⟩; simp only [go_sem, *])
theorem E6 (l : List Str) (hl : l.length ≤ 4294967296) : zNF prog 95 [y7 l] [] (iV (u9 l)) [] := by
 have sc := zCx l hl
 have e0 : 6 < l.length → u9 l = 6 := fun h => by unfold u9; rw [if_pos h]
 have e1 : l.length ≤ 6 → u9 l = v6 l := fun h => by unfold u9; rw [if_neg (by omega)]
 generalize v6 l = e at *
 generalize u9 l = r at *
 refine q9 func95 rfl (fun E hE => ?_); simp only [go_sem, ntmps95]
 repeat' (first | (refine Qr rfl ?_; try intro _ hK; try simp only [go_sem, *]) | refine Qh rfl ?_ | (refine Qc rfl rfl ?_ ?_ <;> (intro hb; have hc := hb; try simp only [go_sem] at hc)) | refine q8 rfl ?_ | (refine y5 (sc) ?_; simp only [go_sem, *]) | ((with_reducible apply And.intro); focus omega) | (refine q7 hK ?_; clear hK; simp only [go_sem, *]) | simp only [q6, z8, go_sem, *])
 ·(refine ⟨[_], [], [], ⟨rfl, trivial⟩, ?_⟩; simp only [go_sem, *])
  rw [e0 (by omega)]
 ·(refine ⟨[_], [], [], ⟨rfl, trivial⟩, ?_⟩; simp only [go_sem, *])
  rw [e1 (by omega)]
theorem zC5 (s : Str) (h : 0 < s.length) : zNF prog 129 [sV s] [] (iV (l8 s)) [] := by
 have sk := zAX ((s.getD 0 0).toNat : Int)
 rw [A4] at sk
 have hw : IntKind.i32.wrap ((s.getD 0 0).toNat : Int) = ((s.getD 0 0).toNat : Int) := by
  have := (s.getD 0 0).toNat_lt
  rw [IntKind.wrap_i32]; omega
 have e : l8 s = w9 (s.getD 0 0) := rfl
 rw [e]
 generalize w9 (s.getD 0 0) = k at *
 refine q9 func129 rfl (fun E hE => ?_); simp only [go_sem, ntmps129]
 repeat' (first | (refine Qr rfl ?_; try intro _ hK; try simp only [go_sem, *]) | refine Qh rfl ?_ | (refine Qc rfl rfl ?_ ?_ <;> (intro hb; have hc := hb; try simp only [go_sem] at hc)) | refine q8 rfl ?_ | (refine y5 (sk) ?_; simp only [go_sem, *]) | ((with_reducible apply And.intro); focus omega) | (refine q7 hK ?_; clear hK; simp only [go_sem, *]) | simp only [q6, z8, go_sem, *])
 (refine ⟨[_], [], [], ⟨rfl, trivial⟩, ?_⟩; simp only [go_sem, *])
theorem zIH (a b : Str) (va : ValidN a) (vb : ValidN b) : zNF prog 96 [sV a, sV b] [] (iV (o5 a b)) [] := by
 have sa := X8 a va.form (by have := va.len; omega)
 have sb := X8 b vb.form (by have := vb.len; omega)
 have ta := zC5 a va.ne
 have tb := zC5 b vb.ne
 have e : o5 a b = orI (zNI (zNG a) (zNG b)) (zNV (l8 a) (l8 b)) := rfl
 have s1 := zCr (zNG a) (zNG b)
 have s2 := zHo (l8 a) (l8 b)
 have so := zCv [zNI (zNG a) (zNG b), zNV (l8 a) (l8 b)] (by simp)
 rw [zCV] at so
 rw [e]
 generalize orI (zNI (zNG a) (zNG b)) (zNV (l8 a) (l8 b)) = r at *
 generalize zNI (zNG a) (zNG b) = r1 at *
 generalize zNV (l8 a) (l8 b) = r2 at *
 generalize zNG a = ka at *
 generalize zNG b = kb at *
 generalize l8 a = ja at *
 generalize l8 b = jb at *
 clear e va vb
 refine q9 func96 rfl (fun E hE => ?_); simp only [go_sem, ntmps96]
 repeat' (first | (refine Qr rfl ?_; try intro _ hK; try simp only [go_sem, *]) | refine Qh rfl ?_ | (refine Qc rfl rfl ?_ ?_ <;> (intro hb; have hc := hb; try simp only [go_sem] at hc)) | refine q8 rfl ?_ | ((first | refine y5 (s1) ?_ | refine y5 (s2) ?_); simp only [go_sem, *]) | (refine x5 (sa) ?_ ?_; (focus (simp only [go_sem, *]; done)); simp only [go_sem, *]) | (refine x5 (sb) ?_ ?_; (focus (simp only [go_sem, *]; done)); simp only [go_sem, *]) | (refine x5 (ta) ?_ ?_; (focus (simp only [go_sem, *]; done)); simp only [go_sem, *]) | (refine x5 (tb) ?_ ?_; (focus (simp only [go_sem, *]; done)); simp only [go_sem, *]) | ((with_reducible apply And.intro); focus omega) | (refine q7 hK ?_; clear hK; simp only [go_sem, *]) | simp only [q6, z8, go_sem, *])
 (refine R7 [0] (so) (by simp only [go_sem, *]) (.raw _) ?_; simp only [go_sem, *])
 repeat' (first | (refine Qr rfl ?_; try intro _ hK; try simp only [go_sem, *]) | refine Qh rfl ?_ | (refine Qc rfl rfl ?_ ?_ <;> (intro hb; have hc := hb; try simp only [go_sem] at hc)) | refine q8 rfl ?_ | ((with_reducible apply And.intro); focus omega) | (refine q7 hK ?_; clear hK; simp only [go_sem, *]) | simp only [q6, z8, go_sem, *])
 (refine ⟨[_], [], [], ⟨rfl, trivial⟩, ?_⟩; simp only [go_sem, *])
theorem zCX (a b : Str) : v6 [a, b] = if x4 a = 0 then x4 b else x4 a := by
 unfold v6
 split
 ·unfold v6
  split
  ·rename_i h; rw [h]; rfl
  ·rfl
 ·rfl
def zKS (a b : Str) : Int := v6 [a, b]
def zJf (l : List Str) (i : Nat) : Prop := ∀ j, i ≤ j → j + 1 < l.length → ¬ o5 (l.getD (j + 1) []) (l.getD j []) < 0
end Go.Abs

namespace Go.Abs
open Go Go.Proofs Tryz
attribute [local irreducible] y4 Hold y9
theorem zCQ : ∀ {l : List Str}, v6 l = 0 → ∀ s, s ∈ l → ValidN s
 | [], _, s, h => by cases h
 | a :: r, e, s, h => by
  rw [v6] at e
  split at e
  ·rename_i ha
   rcases List.mem_cons.1 h with rfl | h
   ·exact checkN_zero.1 ha
   ·exact zCQ e s h
  ·rename_i ha; exact absurd e ha
theorem G4 {l : List Str} (h : u9 l = 0) : l.length ≤ 6 := by
 unfold u9 at h
 split at h
 ·cases h
 ·omega
theorem K4 {l : List Str} (h : u9 l = 0) : ∀ s, s ∈ l → ValidN s := by
 unfold u9 at h
 split at h
 ·cases h
 ·exact zCQ h
end Go.Abs

namespace Go.Abs
open Go Go.Proofs Tryz
attribute [local irreducible] y4 Hold y9
abbrev nV (n : Nat) : AV := iV (n : Int)
theorem zGr (cf : Nat → Nat → Int) (xs : List Nat) : xs = o9 cf (xs.take 1) ++ xs.drop 1 := by
 cases xs with
 | nil => rfl
 | cons x r => simp [o9, zNX, zNq]
def zOM (cf : Nat → Nat → Int) (xs cur : List Nat) (i : Nat) : Prop := cur = o9 cf (xs.take (i + 1)) ++ xs.drop (i + 1)
theorem zIk (l : List Str) (hv : ∀ s, s ∈ l → ValidN s) (a b : Nat) (ha : a < l.length) (hb' : b < l.length) : zNF prog 107 [nV a, nV b, .ptr 0 0] [.box [y7 l]] (iV (o5 (l.getD a []) (l.getD b []))) [.box [y7 l]] := by
 have sc := zIH _ _ (hv _ (o7 ha)) (hv _ (o7 hb'))
 have e : o5 (l.getD a []) (l.getD b []) = o5 (l.getD a default) (l.getD b default) := rfl
 rw [e]
 clear e
 generalize o5 (l.getD a default) (l.getD b default) = r at *
 refine q9 func107 rfl (fun E hE => ?_); simp only [go_sem, ntmps107]
 repeat' (first | (refine Qr rfl ?_; try intro _ hK; try simp only [go_sem, *]) | refine Qh rfl ?_ | refine Qd rfl (by kernel_rfl) ?_ | (refine Qc rfl rfl ?_ ?_ <;> (intro hb; have hc := hb; try simp only [go_sem] at hc)) | refine q8 rfl ?_ | (refine Qb ?_ ?_; focus kernel_rfl) | (refine y5 (sc) ?_; simp only [go_sem, *]) | ((with_reducible apply And.intro); focus omega) | (refine q7 hK ?_; clear hK; simp only [go_sem, *]) | simp only [q6, z8, go_sem, *])
 refine ⟨[_], [some 0], [], ⟨rfl, trivial⟩, ?_⟩
 simp only [go_sem, *]
theorem zIR (l : List Str) (hv : ∀ s, s ∈ l → ValidN s) (xs : List Nat) (h1 : xs.length ≤ 20) (hx : ∀ x, x ∈ xs → x < l.length) :
  zNF prog 154 [.own 0 1 0 xs.length, iV 0, iV xs.length, .fn 107 [.ptr 1 0]] [.row 1 (xs.map nV), .box [y7 l]] (.tup []) [.row 1 ((o9 (cfI l) xs).map nV), .box [y7 l]] := by
 have hca : t7 prog 107 = true := by kernel_rfl
 have hf : ∀ a b : Nat, a < l.length → b < l.length → zNF prog 107 [nV a, nV b, .ptr 0 0] [.box [y7 l]] (iV (cfI l a b)) [.box [y7 l]] := fun a b h1 h2 => zIk l hv a b h1 h2
 clear hv
 refine q9 func154 rfl (fun E hE => ?_); simp only [go_sem, ntmps154]
 have hw0 : IntKind.i64.wrap 1 = (1 : Int) := wrap_i64 (by omega) (by omega)
 repeat' (first | (refine Qr rfl ?_; try intro _ hK; try simp only [go_sem, *]) | (refine Qi rfl rfl rfl rfl ?_ ?_ <;> (intro hb; (try intro _ hK); have hc := hb; try simp only [go_sem] at hc; simp only [go_sem, *])) | refine Qh rfl ?_ | refine Qd rfl (by kernel_rfl) ?_ | (refine Qc rfl rfl ?_ ?_ <;> (intro hb; have hc := hb; try simp only [go_sem] at hc)) | refine q8 rfl ?_ | (refine Qb ?_ ?_; focus kernel_rfl) | ((with_reducible apply And.intro); focus omega) | (refine q7 hK ?_; clear hK; simp only [go_sem, *]) | simp only [q6, z8, go_sem, *])
 refine c7 rfl (xs.length) (fun i (cur : List Nat) => zOM (cfI l) xs cur i) 53 (fun i cur => [(8, iV ((i : Int) + 1)), (0, .own 0 1 0 xs.length), (1, iV 0), (2, iV xs.length), (3, .fn 107 [.ptr 1 0])]) (fun i cur => [.row 1 (cur.map nV), .box [y7 l]]) [some 0, some 1] [] (xs) (by exact zGr (cfI l) xs) ?_; intro i cur hi hP
 have hw : i < xs.length → IntKind.i64.wrap ((i : Int) + 1 + 1) = (((i + 1 : Nat) : Int) + 1) := fun h => by rw [wrap_i64 (by omega) (by omega)]; omega
 have hcm : ((i : Int) + 1 < (xs.length : Int)) = (i + 1 < xs.length) := by simp only [eq_iff_iff]; omega
 repeat' (first | (refine Qr rfl ?_; try intro _ hK; try simp only [go_sem, *]) | (refine Qi rfl rfl rfl rfl ?_ ?_ <;> (intro hb; (try intro _ hK); have hc := hb; try simp only [go_sem] at hc; simp only [go_sem, *])) | refine Qh rfl ?_ | refine Qd rfl (by kernel_rfl) ?_ | (refine Qc rfl rfl ?_ ?_ <;> (intro hb; have hc := hb; try simp only [go_sem] at hc)) | refine q8 rfl ?_ | (refine Qb ?_ ?_; focus kernel_rfl) | ((with_reducible apply And.intro); focus omega) | (refine q7 hK ?_; clear hK; simp only [go_sem, *]) | simp only [q6, z8, go_sem, *])
 ·have hlt : i + 1 < xs.length := by assumption
  have hlt' : i < xs.length := by omega
  obtain ⟨S, hS⟩ : ∃ S, S = o9 (cfI l) (xs.take (i + 1)) := ⟨_, rfl⟩
  have hSl : S.length = i + 1 := by rw [hS, zBw]; simp; try omega
  obtain ⟨x, hxx⟩ : ∃ x, x = xs.getD (i + 1) default := ⟨_, rfl⟩
  obtain ⟨R, hR⟩ : ∃ R, R = xs.drop (i + 1 + 1) := ⟨_, rfl⟩
  have hxl : x < l.length := by rw [hxx]; exact hx _ (o7 hlt)
  have hSm : ∀ k, k < S.length → S.getD k default < l.length := fun k hk => by
   have h2 : S.getD k default ∈ S := o7 hk
   rw [hS] at h2
   have h3 := (A1 (cfI l) (xs.take (i + 1))).mem_iff.1 h2
   rw [← hS] at h3
   exact hx _ (List.mem_of_mem_take h3)
  have hcur : cur = S ++ x :: R := by
   unfold zOM at hP
   rw [hP, hS, hxx, hR, j3 hlt]
  have hfin : zNX (cfI l) S x ++ R = o9 (cfI l) (xs.take (i + 1 + 1)) ++ xs.drop (i + 1 + 1) := by
   rw [hS, hxx, hR, zI6 hlt, zGA]
  have hst : InsP (cfI l) S x R cur 0 := by rw [hcur]; exact InsP.start (cfI l) S x R
  have hRl : R.length = xs.length - (i + 2) := by rw [hR]; simp; try omega
  clear hS hxx hR hcur hP
  refine c7 rfl (i + 1) (fun d (cur : List Nat) => InsP (cfI l) S x R cur d) 53 (fun d cur => [(9, iV (((i + 1) - d : Nat) : Int)), (8, iV ((i : Int) + 1)), (0, .own 0 1 0 xs.length), (1, iV 0), (2, iV xs.length), (3, .fn 107 [.ptr 1 0])]) (fun d cur => [.row 1 (cur.map nV), .box [y7 l]]) [some 0, some 1] [] (cur) (by exact hst) ?_; intro d cur hd hQ
  have hcl : cur.length = xs.length := by rw [hQ.1, zEh]; omega
  have gx : cur.getD (i + 1 - d) default = x := by rw [hQ.1, ← hSl]; exact zEj S x R (by omega)
  have gy : d < i + 1 → cur.getD (i + 1 - d - 1) default = S.getD (i + 1 - d - 1) default := fun h => by rw [hQ.1, ← hSl]; exact zEk S x R (by omega)
  have hwk : 0 < i + 1 - d → IntKind.i64.wrap (((i + 1 - d : Nat) : Int) - 1) = ((i + 1 - d - 1 : Nat) : Int) := fun h => by rw [wrap_i64 (by omega) (by omega)]; omega
  have hnx : i + 1 - (d + 1) = i + 1 - d - 1 := by omega
  have hkl : i + 1 - d < xs.length := by omega
  have hkl1 : i + 1 - d - 1 < xs.length := by omega
  have hd1 : 0 < i + 1 - d → d < i + 1 := fun h => by omega
  by_cases hd2 : d < i + 1
  ·have sf := hf x (S.getD (i + 1 - d - 1) default) hxl (hSm _ (by omega))
   have gy2 := gy hd2
   clear hf gy
   repeat' (first | (refine Qr rfl ?_; try intro _ hK; try simp only [go_sem, *]) | (refine Qi rfl rfl rfl rfl ?_ ?_ <;> (intro hb; (try intro _ hK); have hc := hb; try simp only [go_sem] at hc; simp only [go_sem, *])) | refine Qh rfl ?_ | refine Qd rfl (by kernel_rfl) ?_ | (refine Qc rfl rfl ?_ ?_ <;> (intro hb; have hc := hb; try simp only [go_sem] at hc)) | refine q8 rfl ?_ | (refine Qb ?_ ?_; focus kernel_rfl) | (refine v8 [1] (sf) ?_; simp only [go_sem, *]) | ((with_reducible apply And.intro); focus omega) | (refine q7 hK ?_; clear hK; simp only [go_sem, *]) | simp only [q6, z8, go_sem, *])
   all_goals try (exfalso; omega)
   ·exact p5 (i' := d + 1) [some 0, some 1] [] ((cur.set (i + 1 - d) (S.getD (i + 1 - d - 1) default)).set (i + 1 - d - 1) x) (by have := InsP.next (cfI l) hQ (by omega) (by rw [hSl]; assumption); rwa [hSl] at this)
   ·have hs := InsP.stop (cfI l) hQ (by omega) (fun _ => by rw [hSl]; omega)
    exact p5 (i' := i + 1) [some 0, some 1] [] (cur) (by rw [hs]; exact hfin)
  ·have hs := InsP.stop (cfI l) hQ (by omega) (fun h => by omega)
   clear hf gy
   repeat' (first | (refine Qr rfl ?_; try intro _ hK; try simp only [go_sem, *]) | (refine Qi rfl rfl rfl rfl ?_ ?_ <;> (intro hb; (try intro _ hK); have hc := hb; try simp only [go_sem] at hc; simp only [go_sem, *])) | refine Qh rfl ?_ | refine Qd rfl (by kernel_rfl) ?_ | (refine Qc rfl rfl ?_ ?_ <;> (intro hb; have hc := hb; try simp only [go_sem] at hc)) | refine q8 rfl ?_ | (refine Qb ?_ ?_; focus kernel_rfl) | ((with_reducible apply And.intro); focus omega) | (refine q7 hK ?_; clear hK; simp only [go_sem, *]) | simp only [q6, z8, go_sem, *])
   all_goals try (exfalso; omega)
   exact p5 (i' := i + 1) [some 0, some 1] [] (cur) (by rw [hs]; exact hfin)
 ·refine ⟨[], [some 0, some 1], [], trivial, ?_⟩
  have e1 : xs.take (i + 1) = xs := List.take_of_length_le (by omega)
  have e2 : xs.drop (i + 1) = [] := c0 (by omega)
  unfold zOM at hP
  rw [e1, e2, List.append_nil] at hP
  rw [hP]
  simp only [go_sem, f5, *]
end Go.Abs

namespace Go.Abs
open Go Go.Proofs Tryz
attribute [local irreducible] y4 Hold y9
attribute [go_sem] List.length_range
theorem zIm (l : List Str) (hv : ∀ s, s ∈ l → ValidN s) (xs : List Nat) (h1 : xs.length ≤ 6) (hx : ∀ x, x ∈ xs → x < l.length) :
  zNF prog 133 [.own 0 1 0 xs.length, iV xs.length, .fn 107 [.ptr 1 0]] [.row 1 (xs.map nV), .box [y7 l]] (.tup []) [.row 1 ((o9 (cfI l) xs).map nV), .box [y7 l]] := by
 have si := zIR l hv xs (by omega) hx
 have hli : ((o9 (cfI l) xs).map nV).length = xs.length := by simp [zBw]
 generalize o9 (cfI l) xs = ys at *
 clear hv hx
 have g1 : ¬ ((20 : Int) ≤ (xs.length : Int)) := by omega
 have g2 : ¬ ((20 : Int) < (xs.length : Int)) := by omega
 have g3 : IntKind.i64.wrap ((20 : Int) + 20) = 40 := by decide
 refine q9 func133 rfl (fun E hE => ?_); simp only [go_sem, ntmps133]
 repeat' (first | (refine Qr rfl ?_; try intro _ hK; try simp only [go_sem, *]) | refine Qh rfl ?_ | (refine Qc rfl rfl ?_ ?_ <;> (intro hb; have hc := hb; try simp only [go_sem] at hc)) | refine q8 rfl ?_ | ((with_reducible apply And.intro); focus omega) | (refine q7 hK ?_; clear hK; simp only [go_sem, *]) | simp only [q6, z8, go_sem, *])
 refine n0 rfl (1) (fun i => NoQ i) 63 (fun i => [(8, iV 20), (7, iV 0), (6, iV 20), (0, .own 0 1 0 xs.length), (1, iV xs.length), (2, .fn 107 [.ptr 1 0])]) (fun i => [.row 1 (xs.map nV), .box [y7 l]]) [some 0, some 1] [] (by trivial) ?_; intro i hi hP
 repeat' (first | (refine Qr rfl ?_; try intro _ hK; try simp only [go_sem, *]) | refine Qh rfl ?_ | (refine Qc rfl rfl ?_ ?_ <;> (intro hb; have hc := hb; try simp only [go_sem] at hc)) | refine q8 rfl ?_ | (refine v8 [0, 1] (si) ?_; simp only [go_sem, *]) | ((with_reducible apply And.intro); focus omega) | (refine q7 hK ?_; clear hK; simp only [go_sem, *]) | simp only [q6, z8, go_sem, *])
 all_goals try (exfalso; omega)
 refine n0 rfl (1) (fun i => NoQ i) 63 (fun i => [(6, iV 20), (0, .own 0 1 0 xs.length), (1, iV xs.length), (2, .fn 107 [.ptr 1 0])]) (fun i => [.row 1 (ys.map nV), .box [y7 l]]) [some 0, some 1] [] (by trivial) ?_; intro i hi hP
 repeat' (first | (refine Qr rfl ?_; try intro _ hK; try simp only [go_sem, *]) | refine Qh rfl ?_ | (refine Qc rfl rfl ?_ ?_ <;> (intro hb; have hc := hb; try simp only [go_sem] at hc)) | refine q8 rfl ?_ | ((with_reducible apply And.intro); focus omega) | (refine q7 hK ?_; clear hK; simp only [go_sem, *]) | simp only [q6, z8, go_sem, *])
 all_goals try (exfalso; omega)
 refine ⟨[], [some 0, some 1], [], trivial, ?_⟩
 simp only [go_sem, f5, *]
theorem zH8 (l : List Str) (hv : ∀ s, s ∈ l → ValidN s) (xs : List Nat) (h1 : xs.length ≤ 6) (hx : ∀ x, x ∈ xs → x < l.length) :
  zNF prog 106 [.own 0 1 0 xs.length, .fn 107 [.ptr 1 0]] [.row 1 (xs.map nV), .box [y7 l]] (.tup []) [.row 1 ((o9 (cfI l) xs).map nV), .box [y7 l]] := by
 have si := zIm l hv xs h1 hx
 generalize o9 (cfI l) xs = ys at *
 clear hv hx
 refine q9 func106 rfl (fun E hE => ?_); simp only [go_sem, ntmps106]
 repeat' (first | (refine Qr rfl ?_; try intro _ hK; try simp only [go_sem, *]) | refine Qh rfl ?_ | (refine Qc rfl rfl ?_ ?_ <;> (intro hb; have hc := hb; try simp only [go_sem] at hc)) | refine q8 rfl ?_ | (refine v8 [0, 1] (si) ?_; simp only [go_sem, *]) | ((with_reducible apply And.intro); focus omega) | (refine q7 hK ?_; clear hK; simp only [go_sem, *]) | simp only [q6, z8, go_sem, *])
 refine ⟨[], [some 0, some 1], [], trivial, ?_⟩
 simp only [go_sem, f5, *]
theorem zH9 (l : List Str) (q : u9 l = 0) : zNF prog 62 [y7 l] [] (.tup [.own 0 1 0 l.length, iV 0]) [.row 1 ((S6 l).map nV)] := by
 have hv := K4 q
 have h6 := G4 q
 have s1 := E6 l (by omega)
 rw [q] at s1
 have ss := zH8 l hv (List.range l.length) (by simpa using h6) (fun x hx => List.mem_range.1 hx)
 rw [List.length_range] at ss
 have e : o9 (cfI l) (List.range l.length) = S6 l := rfl
 rw [e] at ss
 have hsl := zHf l
 generalize S6 l = ys at *
 clear hv q e
 refine q9 func62 rfl (fun E hE => ?_); simp only [go_sem, ntmps62]
 repeat' (first | (refine Qr rfl ?_; try intro _ hK; try simp only [go_sem, *]) | refine Qh rfl ?_ | (refine Qc rfl rfl ?_ ?_ <;> (intro hb; have hc := hb; try simp only [go_sem] at hc)) | refine q8 rfl ?_ | (refine y5 (s1) ?_; simp only [go_sem, *]) | ((with_reducible apply And.intro); focus omega) | (refine q7 hK ?_; clear hK; simp only [go_sem, *]) | simp only [q6, z8, go_sem, *])
 all_goals try contradiction
 refine n0 rfl (l.length) (fun i => NoQ i) 26 (fun i => [(14, iV i), (13, iV l.length), (5, .own 1 1 0 i), (1, .ptr 0 0)]) (fun i => [.box [y7 l], .row 1 ((List.range i).map nV)]) [some 0, none] [] (by trivial) ?_; intro i hi hP
 by_cases hi2 : i < l.length
 ·clear ss
  repeat' (first | (refine Qr rfl ?_; try intro _ hK; try simp only [go_sem, *]) | refine Qh rfl ?_ | (refine Qc rfl rfl ?_ ?_ <;> (intro hb; have hc := hb; try simp only [go_sem] at hc)) | refine q8 rfl ?_ | ((with_reducible apply And.intro); focus omega) | (refine q7 hK ?_; clear hK; simp only [go_sem, *]) | simp only [q6, z8, go_sem, *])
  exact d7 (i' := i + 1) [some 0, some 3] [] (by trivial)
 ·have e : i = l.length := by omega
  subst e
  repeat' (first | (refine Qr rfl ?_; try intro _ hK; try simp only [go_sem, *]) | refine Qh rfl ?_ | (refine Qc rfl rfl ?_ ?_ <;> (intro hb; have hc := hb; try simp only [go_sem] at hc)) | refine q8 rfl ?_ | (refine v8 [1, 0] (ss) ?_; simp only [go_sem, *]) | ((with_reducible apply And.intro); focus omega) | (refine q7 hK ?_; clear hK; simp only [go_sem, *]) | simp only [q6, z8, go_sem, *])
  refine ⟨[_, _], [some 1], [], ⟨rfl, rfl, trivial⟩, ?_⟩
  simp only [go_sem, *]
end Go.Abs

namespace Go.Abs
open Go Go.Proofs Tryz
attribute [local irreducible] y4 Hold y9
theorem zIV (r : Int) : zNF prog 145 [.raw (.int .i32 r)] [] (bV (Q8 r != 1)) [] := by
 have sk := zAX r
 generalize Q8 r = k at *
 refine q9 func145 rfl (fun E hE => ?_); simp only [go_sem, ntmps145]
 repeat' (first | (refine Qr rfl ?_; try intro _ hK; try simp only [go_sem, *]) | refine Qh rfl ?_ | (refine Qc rfl rfl ?_ ?_ <;> (intro hb; have hc := hb; try simp only [go_sem] at hc)) | refine q8 rfl ?_ | (refine y5 (sk) ?_; simp only [go_sem, *]) | ((with_reducible apply And.intro); focus omega) | (refine q7 hK ?_; clear hK; simp only [go_sem, *]) | simp only [q6, z8, go_sem, *])
 (refine ⟨[_], [], [], ⟨rfl, trivial⟩, ?_⟩; simp only [go_sem, *])
theorem zIQ (s : Str) (hl : s.length ≤ 4294967296) : ∃ n : Int, (0 ≤ n ↔ s.all y8 = false) ∧ zNF prog 189 [sV s, fnV 145, bV true] [] (iV n) [] := by
  have hca : t7 prog 145 = true := by kernel_rfl
  obtain ⟨k, hk⟩ : ∃ k : Nat, k = (s.takeWhile y8).length := ⟨_, rfl⟩
  have hkl : k ≤ s.length := by rw [hk]; exact (List.takeWhile_sublist _).length_le
  have hin : ∀ i, i < k → y8 (s.getD i 0) = true := fun i hi => by
    have h1 : i < (s.takeWhile y8).length := by omega
    have h2 := List.all_eq_true.1 (List.all_takeWhile (p := y8) (l := s)) _ (List.getElem_mem h1)
    have h3 : (s.takeWhile y8)[i] = s[i]'(by omega) := List.IsPrefix.getElem (List.takeWhile_prefix _) h1
    rw [h3] at h2
    simpa [List.getD, show i < s.length by omega] using h2
  have hout : k < s.length → y8 (s.getD k 0) = false := fun h => by
    have h1 : s.dropWhile y8 ≠ [] := fun e => by
      have := congrArg List.length (List.takeWhile_append_dropWhile (p := y8) (l := s))
      rw [List.length_append, e] at this
      simp at this; omega
    have h2 := List.head_dropWhile_not (p := y8) h1
    have h3 : (s.dropWhile y8).head h1 = s.getD k 0 := by
      have h4 : s = s.takeWhile y8 ++ s.dropWhile y8 := (List.takeWhile_append_dropWhile).symm
      have h5 : s.getD k 0 = (s.takeWhile y8 ++ s.dropWhile y8).getD k 0 := by rw [← h4]
      rw [h5, hk]
      generalize s.takeWhile y8 = tw
      generalize s.dropWhile y8 = dw at h1
      cases dw with
      | nil => exact absurd rfl h1
      | cons a r => simp
    rw [h3] at h2
    exact h2
  refine ⟨if k < s.length then (k : Int) else -1, ?_, ?_⟩
  · by_cases h : k < s.length
    · rw [if_pos h]
      refine ⟨fun _ => ?_, fun _ => by omega⟩
      rw [List.all_eq_false]
      refine ⟨s.getD k 0, ?_, by rw [hout h]; simp⟩
      simp [List.getD, h]
    · rw [if_neg h]
      refine ⟨fun h => by omega, fun hf => ?_⟩
      rw [List.all_eq_false] at hf
      obtain ⟨x, hx, hn⟩ := hf
      obtain ⟨i, hi, rfl⟩ := List.getElem_of_mem hx
      have := hin i (by omega)
      rw [show s.getD i 0 = s[i] by simp [List.getD, hi]] at this
      exact absurd this hn
  · have hwv : ∀ i, i < s.length → (i < k → w9 (s.getD i 0) = 1) ∧ (i = k → w9 (s.getD i 0) ≠ 1) := fun i hi => ⟨fun h => latin_kind.1 (hin i h), fun h => by
      subst h
      intro e
      have := latin_kind.2 e
      rw [hout hi] at this; cases this⟩
    clear hk hin hout
    refine q9 func189 rfl (fun E hE => ?_); simp only [go_sem, ntmps189]
    repeat' (first | (refine Qr rfl ?_; try intro _ hK; try simp only [go_sem, *]) | refine Qh rfl ?_ | (refine Qc rfl rfl ?_ ?_ <;> (intro hb; have hc := hb; try simp only [go_sem] at hc)) | refine q8 rfl ?_ | ((with_reducible apply And.intro); focus omega) | (refine q7 hK ?_; clear hK; simp only [go_sem, *]) | simp only [q6, z8, go_sem, *])
    refine n0 rfl (s.length) (fun i => i ≤ k) 21 (fun i => [(10, .ptr 0 0), (1, fnV 145), (2, bV true)]) (fun i => [.siter ⟨s.toArray⟩ i]) [some 0] [] (by omega) ?_; intro i hi hP
    by_cases hi2 : i < s.length
    · obtain ⟨r1, r2⟩ := zCo s hi2
      obtain ⟨w1, w2⟩ := hwv i hi2
      have sk := zIV ((Utf8.decode ⟨s.toArray⟩ i).1 : Int)
      rw [r1] at sk
      generalize hde : Utf8.decode ⟨s.toArray⟩ i = d at *
      obtain ⟨d1, d2⟩ := d
      simp only at r2 sk
      clear r1 hwv
      by_cases hik : i < k
      · have e1 := w1 hik
        rw [e1] at sk r2
        have e2 := r2 (by decide)
        subst e2
        have e3 : ((1 : Int) != 1) = false := by decide
        rw [e3] at sk
        clear r2 w1 w2 e1 e3
        repeat' (first | (refine Qr rfl ?_; try intro _ hK; try simp only [go_sem, *]) | refine Qh rfl ?_ | (refine Qc rfl rfl ?_ ?_ <;> (intro hb; have hc := hb; try simp only [go_sem] at hc)) | refine q8 rfl ?_ | (refine y5 (sk) ?_; simp only [go_sem, *]) | ((with_reducible apply And.intro); focus omega) | (refine q7 hK ?_; clear hK; simp only [go_sem, *]) | simp only [q6, z8, go_sem, *])
        all_goals try contradiction
        exact d7 (i' := i + 1) [some 0] [] (by omega)
      · have e1 := w2 (by omega)
        have e3 : (w9 (s.getD i 0) != 1) = true := by simpa using e1
        rw [e3] at sk
        have e4 : k < s.length := by omega
        have e5 : i = k := by omega
        rw [if_pos e4]
        subst e5
        clear r2 w1 w2 e1 e3
        repeat' (first | (refine Qr rfl ?_; try intro _ hK; try simp only [go_sem, *]) | refine Qh rfl ?_ | (refine Qc rfl rfl ?_ ?_ <;> (intro hb; have hc := hb; try simp only [go_sem] at hc)) | refine q8 rfl ?_ | (refine y5 (sk) ?_; simp only [go_sem, *]) | ((with_reducible apply And.intro); focus omega) | (refine q7 hK ?_; clear hK; simp only [go_sem, *]) | simp only [q6, z8, go_sem, *])
        all_goals try contradiction
        (refine ⟨[_], [], [], ⟨rfl, trivial⟩, ?_⟩; simp only [go_sem, *])
    · have e4 : ¬ k < s.length := by omega
      rw [if_neg e4]
      clear hwv
      repeat' (first | (refine Qr rfl ?_; try intro _ hK; try simp only [go_sem, *]) | refine Qh rfl ?_ | (refine Qc rfl rfl ?_ ?_ <;> (intro hb; have hc := hb; try simp only [go_sem] at hc)) | refine q8 rfl ?_ | ((with_reducible apply And.intro); focus omega) | (refine q7 hK ?_; clear hK; simp only [go_sem, *]) | simp only [q6, z8, go_sem, *])
      (refine ⟨[_], [], [], ⟨rfl, trivial⟩, ?_⟩; simp only [go_sem, *])
theorem zH2 (s : Str) (hl : s.length ≤ 4294967296) : ∃ n : Int, (0 ≤ n ↔ s.all y8 = false) ∧ zNF prog 169 [sV s, fnV 145] [] (iV n) [] := by
 obtain ⟨n, hn, si⟩ := zIQ s hl
 refine ⟨n, hn, ?_⟩
 clear hn
 refine q9 func169 rfl (fun E hE => ?_); simp only [go_sem, ntmps169]
 repeat' (first | (refine Qr rfl ?_; try intro _ hK; try simp only [go_sem, *]) | refine Qh rfl ?_ | (refine Qc rfl rfl ?_ ?_ <;> (intro hb; have hc := hb; try simp only [go_sem] at hc)) | refine q8 rfl ?_ | (refine y5 (si) ?_; simp only [go_sem, *]) | ((with_reducible apply And.intro); focus omega) | (refine q7 hK ?_; clear hK; simp only [go_sem, *]) | simp only [q6, z8, go_sem, *])
 (refine ⟨[_], [], [], ⟨rfl, trivial⟩, ?_⟩; simp only [go_sem, *])
theorem zHr (s : Str) (hl : s.length ≤ 4294967296) : zNF prog 144 [sV s, fnV 145] [] (bV (!s.all y8)) [] := by
 obtain ⟨n, hn, si⟩ := zH2 s hl
 have e : (!s.all y8) = decide (n ≥ 0) := by
  rw [Bool.eq_iff_iff, Bool.not_eq_true', decide_eq_true_eq]; exact hn.symm
 rw [e]
 clear hn e
 refine q9 func144 rfl (fun E hE => ?_); simp only [go_sem, ntmps144]
 repeat' (first | (refine Qr rfl ?_; try intro _ hK; try simp only [go_sem, *]) | refine Qh rfl ?_ | (refine Qc rfl rfl ?_ ?_ <;> (intro hb; have hc := hb; try simp only [go_sem] at hc)) | refine q8 rfl ?_ | (refine y5 (si) ?_; simp only [go_sem, *]) | ((with_reducible apply And.intro); focus omega) | (refine q7 hK ?_; clear hK; simp only [go_sem, *]) | simp only [q6, z8, go_sem, *])
 (refine ⟨[_], [], [], ⟨rfl, trivial⟩, ?_⟩; simp only [go_sem, *])
theorem E5 (s : Str) (lo hi : Nat) (hl : s.length ≤ 4294967296) : zNF prog 123 [sV s, iV lo, iV hi] [] (bV (x7 s lo hi)) [] := by
 have sc := zHr s hl
 have e : x7 s lo hi = (decide ((lo : Int) ≤ s.length) && (decide ((s.length : Int) ≤ hi) && s.all y8)) := by unfold x7; simp
 rw [e]
 generalize s.all y8 = b at *
 clear e
 refine q9 func123 rfl (fun E hE => ?_); simp only [go_sem, ntmps123]
 repeat' (first | (refine Qr rfl ?_; try intro _ hK; try simp only [go_sem, *]) | (refine Qi rfl rfl rfl rfl ?_ ?_ <;> (intro hb; (try intro _ hK); have hc := hb; try simp only [go_sem] at hc; simp only [go_sem, *])) | refine Qh rfl ?_ | (refine Qc rfl rfl ?_ ?_ <;> (intro hb; have hc := hb; try simp only [go_sem] at hc)) | refine q8 rfl ?_ | (refine y5 (sc) ?_; simp only [go_sem, *]) | ((with_reducible apply And.intro); focus omega) | (refine q7 hK ?_; clear hK; simp only [go_sem, *]) | simp only [q6, z8, go_sem, *])
 all_goals try contradiction
 all_goals (refine ⟨[_], [], [], ⟨rfl, trivial⟩, ?_⟩; simp only [go_sem, *])
 all_goals simp_all
end Go.Abs

namespace Go.Abs
open Go Go.Proofs Tryz
attribute [local irreducible] y4 Hold y9
abbrev w8 (l : List Rule) : AV := .list (l.map Rule.enc)
attribute [go_sem] Rule.enc
theorem zHI {l : List Rule} {i : Nat} (h : i < l.length) : (l.drop i).all Rule.ok = ((l.getD i default).ok && (l.drop (i + 1)).all Rule.ok) := by
 rw [j3 h, List.all_cons]
theorem zHG (r : Rule) : r.ok = (x7 r.src 1 2 && (x7 r.dst 0 2 && !(r.src == r.dst))) := by
 unfold Rule.ok
 rw [Bool.eq_iff_iff]
 simp
theorem zIh (l : List Rule) (hl : l.length ≤ 4294967296) (hr : ∀ r, r ∈ l → r.src.length ≤ 4294967296 ∧ r.dst.length ≤ 4294967296) : zNF prog 86 [w8 l] [] (iV (j7 l)) [] := by
 have e0 : 4 < l.length → j7 l = 6 := fun h => by unfold j7; rw [if_pos h]
 have e1 : l.length ≤ 4 → j7 l = if l.all Rule.ok = true then 0 else 2 := fun h => by unfold j7; rw [if_neg (by omega)]
 generalize j7 l = re at *
 refine q9 func86 rfl (fun E hE => ?_); simp only [go_sem, ntmps86]
 repeat' (first | (refine Qr rfl ?_; try intro _ hK; try simp only [go_sem, *]) | (refine Qi rfl rfl rfl rfl ?_ ?_ <;> (intro hb; (try intro _ hK); have hc := hb; try simp only [go_sem] at hc; simp only [go_sem, *])) | refine Qh rfl ?_ | (refine Qc rfl rfl ?_ ?_ <;> (intro hb; have hc := hb; try simp only [go_sem] at hc)) | refine q8 rfl ?_ | ((with_reducible apply And.intro); focus omega) | (refine q7 hK ?_; clear hK; simp only [go_sem, *]) | simp only [q6, z8, go_sem, *])
 ·(refine ⟨[_], [], [], ⟨rfl, trivial⟩, ?_⟩; simp only [go_sem, *])
  rw [e0 (by omega)]
 ·have e2 := e1 (by omega)
  rw [e2]
  clear e0 e1 e2
  refine n0 rfl (l.length) (fun i => (l.drop i).all Rule.ok = l.all Rule.ok) 32 (fun i => [(10, iV i), (9, iV l.length), (8, w8 l)]) (fun i => []) [] [] (by simp) ?_; intro i hi hP
  by_cases hi2 : i < l.length
  ·have hs := zHI hi2
   rw [zHG] at hs
   have hrl := hr _ (o7 hi2)
   have s1 := E5 (l.getD i default).src 1 2 hrl.1
   have s2 := E5 (l.getD i default).dst 0 2 hrl.2
   generalize x7 (l.getD i default).src 1 2 = b1 at *
   generalize x7 (l.getD i default).dst 0 2 = b2 at *
   clear hrl hr
   rw [hs] at hP
   cases b1 with
   | false =>
    rw [← hP]
    clear hP hs s2
    repeat' (first | (refine Qr rfl ?_; try intro _ hK; try simp only [go_sem, *]) | (refine Qi rfl rfl rfl rfl ?_ ?_ <;> (intro hb; (try intro _ hK); have hc := hb; try simp only [go_sem] at hc; simp only [go_sem, *])) | refine Qh rfl ?_ | (refine Qc rfl rfl ?_ ?_ <;> (intro hb; have hc := hb; try simp only [go_sem] at hc)) | refine q8 rfl ?_ | (refine x5 (s1) ?_ ?_; (focus (simp only [go_sem, *]; done)); simp only [go_sem, *]) | ((with_reducible apply And.intro); focus omega) | (refine q7 hK ?_; clear hK; simp only [go_sem, *]) | simp only [q6, z8, go_sem, *])
    all_goals try contradiction
    (refine ⟨[_], [], [], ⟨rfl, trivial⟩, ?_⟩; simp only [go_sem, *])
   | true =>
    cases b2 with
    | false =>
     rw [← hP]
     clear hP hs
     repeat' (first | (refine Qr rfl ?_; try intro _ hK; try simp only [go_sem, *]) | (refine Qi rfl rfl rfl rfl ?_ ?_ <;> (intro hb; (try intro _ hK); have hc := hb; try simp only [go_sem] at hc; simp only [go_sem, *])) | refine Qh rfl ?_ | (refine Qc rfl rfl ?_ ?_ <;> (intro hb; have hc := hb; try simp only [go_sem] at hc)) | refine q8 rfl ?_ | (refine x5 (s1) ?_ ?_; (focus (simp only [go_sem, *]; done)); simp only [go_sem, *]) | (refine x5 (s2) ?_ ?_; (focus (simp only [go_sem, *]; done)); simp only [go_sem, *]) | ((with_reducible apply And.intro); focus omega) | (refine q7 hK ?_; clear hK; simp only [go_sem, *]) | simp only [q6, z8, go_sem, *])
     all_goals try contradiction
     (refine ⟨[_], [], [], ⟨rfl, trivial⟩, ?_⟩; simp only [go_sem, *])
    | true =>
     generalize hb3 : ((l.getD i default).src == (l.getD i default).dst) = b3 at *
     cases b3 with
     | true =>
      rw [← hP]
      clear hP hs
      repeat' (first | (refine Qr rfl ?_; try intro _ hK; try simp only [go_sem, *]) | (refine Qi rfl rfl rfl rfl ?_ ?_ <;> (intro hb; (try intro _ hK); have hc := hb; try simp only [go_sem] at hc; simp only [go_sem, *])) | refine Qh rfl ?_ | (refine Qc rfl rfl ?_ ?_ <;> (intro hb; have hc := hb; try simp only [go_sem] at hc)) | refine q8 rfl ?_ | (refine x5 (s1) ?_ ?_; (focus (simp only [go_sem, *]; done)); simp only [go_sem, *]) | (refine x5 (s2) ?_ ?_; (focus (simp only [go_sem, *]; done)); simp only [go_sem, *]) | ((with_reducible apply And.intro); focus omega) | (refine q7 hK ?_; clear hK; simp only [go_sem, *]) | simp only [q6, z8, go_sem, *])
      all_goals try contradiction
      (refine ⟨[_], [], [], ⟨rfl, trivial⟩, ?_⟩; simp only [go_sem, *])
     | false =>
      simp only [Bool.true_and, Bool.not_false] at hP
      clear hs
      repeat' (first | (refine Qr rfl ?_; try intro _ hK; try simp only [go_sem, *]) | (refine Qi rfl rfl rfl rfl ?_ ?_ <;> (intro hb; (try intro _ hK); have hc := hb; try simp only [go_sem] at hc; simp only [go_sem, *])) | refine Qh rfl ?_ | (refine Qc rfl rfl ?_ ?_ <;> (intro hb; have hc := hb; try simp only [go_sem] at hc)) | refine q8 rfl ?_ | (refine x5 (s1) ?_ ?_; (focus (simp only [go_sem, *]; done)); simp only [go_sem, *]) | (refine x5 (s2) ?_ ?_; (focus (simp only [go_sem, *]; done)); simp only [go_sem, *]) | ((with_reducible apply And.intro); focus omega) | (refine q7 hK ?_; clear hK; simp only [go_sem, *]) | simp only [q6, z8, go_sem, *])
      all_goals try contradiction
      exact d7 (i' := i + 1) [] [] (by exact hP)
  ·have e : l.all Rule.ok = true := by rw [← hP, c0 (by omega)]; rfl
   rw [if_pos e]
   clear hP e
   repeat' (first | (refine Qr rfl ?_; try intro _ hK; try simp only [go_sem, *]) | (refine Qi rfl rfl rfl rfl ?_ ?_ <;> (intro hb; (try intro _ hK); have hc := hb; try simp only [go_sem] at hc; simp only [go_sem, *])) | refine Qh rfl ?_ | (refine Qc rfl rfl ?_ ?_ <;> (intro hb; have hc := hb; try simp only [go_sem] at hc)) | refine q8 rfl ?_ | ((with_reducible apply And.intro); focus omega) | (refine q7 hK ?_; clear hK; simp only [go_sem, *]) | simp only [q6, z8, go_sem, *])
   (refine ⟨[_], [], [], ⟨rfl, trivial⟩, ?_⟩; simp only [go_sem, *])
theorem zCs (s p : Str) (h1 : s.length ≤ 4294967296) (h2 : p.length ≤ 4294967296) : zNF prog 151 [sV s, sV p] [] (bV (p.isPrefixOf s)) [] := by
 have e : p.isPrefixOf s = (decide (p.length ≤ s.length) && (s.take p.length == p)) := by
  rw [Bool.eq_iff_iff, List.isPrefixOf_iff_prefix, Bool.and_eq_true, decide_eq_true_eq, beq_iff_eq, List.prefix_iff_eq_take]
  constructor
  ·intro h
   refine ⟨?_, h.symm⟩
   have := congrArg List.length h
   simp at this; omega
  ·rintro ⟨_, h⟩; exact h.symm
 rw [e]
 clear e
 refine q9 func151 rfl (fun E hE => ?_); simp only [go_sem, ntmps151]
 repeat' (first | (refine Qr rfl ?_; try intro _ hK; try simp only [go_sem, *]) | (refine Qi rfl rfl rfl rfl ?_ ?_ <;> (intro hb; (try intro _ hK); have hc := hb; try simp only [go_sem] at hc; simp only [go_sem, *])) | refine Qh rfl ?_ | (refine Qc rfl rfl ?_ ?_ <;> (intro hb; have hc := hb; try simp only [go_sem] at hc)) | refine q8 rfl ?_ | ((with_reducible apply And.intro); focus omega) | (refine q7 hK ?_; clear hK; simp only [go_sem, *]) | simp only [q6, z8, go_sem, *])
 all_goals (refine ⟨[_], [], [], ⟨rfl, trivial⟩, ?_⟩; simp only [go_sem, *])
 all_goals simp_all
theorem zH0 (s p : Str) (h1 : s.length ≤ 4294967296) (h2 : p.length ≤ 4294967296) : zNF prog 127 [sV s, sV p] [] (bV (p.isPrefixOf s)) [] := by
 have s1 := zCs s p h1 h2
 generalize p.isPrefixOf s = b at *
 refine q9 func127 rfl (fun E hE => ?_); simp only [go_sem, ntmps127]
 repeat' (first | (refine Qr rfl ?_; try intro _ hK; try simp only [go_sem, *]) | refine Qh rfl ?_ | (refine Qc rfl rfl ?_ ?_ <;> (intro hb; have hc := hb; try simp only [go_sem] at hc)) | refine q8 rfl ?_ | (refine y5 (s1) ?_; simp only [go_sem, *]) | ((with_reducible apply And.intro); focus omega) | (refine q7 hK ?_; clear hK; simp only [go_sem, *]) | simp only [q6, z8, go_sem, *])
 (refine ⟨[_], [], [], ⟨rfl, trivial⟩, ?_⟩; simp only [go_sem, *])
theorem zEd {x y : List Str} {i : Nat} (h1 : i < x.length) (h2 : i < y.length) : zNM (x.drop i) (y.drop i) = if zNI (x.getD i default) (y.getD i default) = 0 then zNM (x.drop (i + 1)) (y.drop (i + 1)) else zNI (x.getD i default) (y.getD i default) := by
 rw [j3 h1, j3 h2, zNM]
theorem zEc {x y : List Str} {i : Nat} (h1 : i < x.length) (h2 : y.length ≤ i) : zNM (x.drop i) (y.drop i) = 1 := by
 rw [j3 h1, c0 h2, zNM]
theorem zEb {x y : List Str} {i : Nat} (h1 : x.length ≤ i) : zNM (x.drop i) (y.drop i) = if i < y.length then -1 else 0 := by
 rw [c0 h1]
 by_cases h2 : i < y.length
 ·rw [j3 h2, zNM, if_pos h2]
 ·rw [c0 (by omega), zNM, if_neg h2]
theorem zHp (x y : List Str) (h1 : x.length ≤ 4294967296) (h2 : y.length ≤ 4294967296) : zNF prog 126 [y7 x, y7 y] [] (iV (zNM x y)) [] := by
 refine q9 func126 rfl (fun E hE => ?_); simp only [go_sem, ntmps126]
 repeat' (first | (refine Qr rfl ?_; try intro _ hK; try simp only [go_sem, *]) | refine Qh rfl ?_ | (refine Qc rfl rfl ?_ ?_ <;> (intro hb; have hc := hb; try simp only [go_sem] at hc)) | refine q8 rfl ?_ | ((with_reducible apply And.intro); focus omega) | (refine q7 hK ?_; clear hK; simp only [go_sem, *]) | simp only [q6, z8, go_sem, *])
 refine n0 rfl (x.length) (fun i => zNM (x.drop i) (y.drop i) = zNM x y ∧ i ≤ y.length) 36 (fun i => [(11, iV i), (10, iV x.length), (9, y7 x), (0, y7 x), (1, y7 y)]) (fun i => []) [] [] (by simp) ?_; intro i hi hP
 obtain ⟨hP, hiy⟩ := hP
 by_cases hi2 : i < x.length
 ·by_cases hi3 : i < y.length
  ·have hs := zEd hi2 hi3
   have sc := zHq (x.getD i default) (y.getD i default)
   rw [hs] at hP
   clear hs
   have gi : ¬ ((i : Int) ≥ (y.length : Int)) := by omega
   by_cases q : zNI (x.getD i default) (y.getD i default) = 0
   ·rw [if_pos q] at hP
    rw [q] at sc
    repeat' (first | (refine Qr rfl ?_; try intro _ hK; try simp only [go_sem, *]) | refine Qh rfl ?_ | (refine Qc rfl rfl ?_ ?_ <;> (intro hb; have hc := hb; try simp only [go_sem] at hc)) | refine q8 rfl ?_ | (refine y5 (sc) ?_; simp only [go_sem, *]) | ((with_reducible apply And.intro); focus omega) | (refine q7 hK ?_; clear hK; simp only [go_sem, *]) | simp only [q6, z8, go_sem, *])
    all_goals first | contradiction | omega | skip
    exact d7 (i' := i + 1) [] [] (by exact ⟨hP, by omega⟩)
   ·rw [if_neg q] at hP
    generalize zNI (x.getD i default) (y.getD i default) = c at *
    rw [← hP]
    clear hP
    repeat' (first | (refine Qr rfl ?_; try intro _ hK; try simp only [go_sem, *]) | refine Qh rfl ?_ | (refine Qc rfl rfl ?_ ?_ <;> (intro hb; have hc := hb; try simp only [go_sem] at hc)) | refine q8 rfl ?_ | (refine y5 (sc) ?_; simp only [go_sem, *]) | ((with_reducible apply And.intro); focus omega) | (refine q7 hK ?_; clear hK; simp only [go_sem, *]) | simp only [q6, z8, go_sem, *])
    all_goals first | contradiction | omega | skip
    (refine ⟨[_], [], [], ⟨rfl, trivial⟩, ?_⟩; simp only [go_sem, *])
  ·rw [zEc hi2 (by omega)] at hP
   rw [← hP]
   clear hP
   repeat' (first | (refine Qr rfl ?_; try intro _ hK; try simp only [go_sem, *]) | refine Qh rfl ?_ | (refine Qc rfl rfl ?_ ?_ <;> (intro hb; have hc := hb; try simp only [go_sem] at hc)) | refine q8 rfl ?_ | ((with_reducible apply And.intro); focus omega) | (refine q7 hK ?_; clear hK; simp only [go_sem, *]) | simp only [q6, z8, go_sem, *])
   all_goals first | contradiction | omega | skip
   (refine ⟨[_], [], [], ⟨rfl, trivial⟩, ?_⟩; simp only [go_sem, *])
 ·have hix : i = x.length := by omega
  subst hix
  rw [zEb (Nat.le_refl _)] at hP
  by_cases hxy : x.length < y.length
  ·rw [if_pos hxy] at hP
   rw [← hP]
   clear hP
   repeat' (first | (refine Qr rfl ?_; try intro _ hK; try simp only [go_sem, *]) | refine Qh rfl ?_ | (refine Qc rfl rfl ?_ ?_ <;> (intro hb; have hc := hb; try simp only [go_sem] at hc)) | refine q8 rfl ?_ | ((with_reducible apply And.intro); focus omega) | (refine q7 hK ?_; clear hK; simp only [go_sem, *]) | simp only [q6, z8, go_sem, *])
   all_goals first | contradiction | omega | skip
   (refine ⟨[_], [], [], ⟨rfl, trivial⟩, ?_⟩; simp only [go_sem, *])
  ·rw [if_neg hxy] at hP
   rw [← hP]
   clear hP
   repeat' (first | (refine Qr rfl ?_; try intro _ hK; try simp only [go_sem, *]) | refine Qh rfl ?_ | (refine Qc rfl rfl ?_ ?_ <;> (intro hb; have hc := hb; try simp only [go_sem] at hc)) | refine q8 rfl ?_ | ((with_reducible apply And.intro); focus omega) | (refine q7 hK ?_; clear hK; simp only [go_sem, *]) | simp only [q6, z8, go_sem, *])
   all_goals first | contradiction | omega | skip
   (refine ⟨[_], [], [], ⟨rfl, trivial⟩, ?_⟩; simp only [go_sem, *])
end Go.Abs

namespace Go.Abs
open Go Go.Proofs Go.Proofs.YteehcinnfiaklaaGreatDoor Go.ChangeShapes Go.WideShapes Go.ChangeAt Go.RowKit
noncomputable def Sh.okB : Sh → TypeId ⊕ (List Field × Nat) → Bool
 | .int, .inl t => match Tryz.prog.underlying t with
  | some (.int .i64) => true
  | _ => false
 | .str, .inl t => match Tryz.prog.underlying t with
  | some .string => true
  | _ => false
 | .sl b e, .inl t => match Tryz.prog.underlying t with
  | some (.slice u) => Tryz.prog.cellsOf u == e.n && (decide (0 < e.n) && ((!b || e.n == 1) && e.okB (.inl u)))
  | _ => false
 | .st b, .inl t => match Tryz.prog.underlying t with
  | some (.struct fs) => Tryz.prog.cellsOf t == b.n && b.okB (.inr (fs.toList, 0))
  | _ => false
 | .emp, .inr (l, _) => l.isEmpty
 | .cat x y, .inr (l, off) => match l with
  | f :: r => f.offset == off && (Tryz.prog.cellsOf f.type == x.n && (x.okB (.inl f.type) && y.okB (.inr (r, off + x.n))))
  | [] => false
 | _, _ => false
theorem Sh.ok_of : ∀ (s : Sh) (z : TypeId ⊕ (List Field × Nat)), s.okB z = true → s.ok z
 | .int, .inl t, h => by
  simp only [Sh.okB] at h
  split at h
  ·assumption
  ·cases h
 | .str, .inl t, h => by
  simp only [Sh.okB] at h
  split at h
  ·assumption
  ·cases h
 | .sl b e, .inl t, h => by
  simp only [Sh.okB] at h
  split at h
  ·rename_i u hu
   simp only [Bool.and_eq_true, beq_iff_eq, decide_eq_true_eq, Bool.or_eq_true, Bool.not_eq_true'] at h
   exact ⟨u, hu, h.1, h.2.1, fun hb => h.2.2.1.resolve_left (by rw [hb]; decide), Sh.ok_of e _ h.2.2.2⟩
  ·cases h
 | .st b, .inl t, h => by
  simp only [Sh.okB] at h
  split at h
  ·rename_i fs hu
   simp only [Bool.and_eq_true, beq_iff_eq] at h
   exact ⟨fs, hu, h.1, Sh.ok_of b _ h.2⟩
  ·cases h
 | .emp, .inr (l, off), h => by
  simp only [Sh.okB, List.isEmpty_iff] at h
  exact h
 | .cat x y, .inr (l, off), h => by
  simp only [Sh.okB] at h
  split at h
  ·rename_i f r
   simp only [Bool.and_eq_true, beq_iff_eq] at h
   exact ⟨f, r, rfl, h.1, h.2.1, Sh.ok_of x _ h.2.2.1, Sh.ok_of y _ h.2.2.2⟩
  ·cases h
 | .int, .inr _, h => by simp [Sh.okB] at h
 | .str, .inr _, h => by simp [Sh.okB] at h
 | .sl _ _, .inr _, h => by simp [Sh.okB] at h
 | .st _, .inr _, h => by simp [Sh.okB] at h
 | .emp, .inl _, h => by simp [Sh.okB] at h
 | .cat _ _, .inl _, h => by simp [Sh.okB] at h
theorem zCD {α : Type} {f : α → AV} : ∀ {xs : List AV}, (∀ x, x ∈ xs → ∃ a, x = f a) → ∃ l : List α, xs = l.map f
 | [], _ => ⟨[], rfl⟩
 | x :: r, h => by
  obtain ⟨a, rfl⟩ := h x (by simp)
  obtain ⟨l, rfl⟩ := zCD (xs := r) (fun y hy => h y (by simp [hy]))
  exact ⟨a :: l, rfl⟩
theorem zGP {α : Type} {f : α → AV} {q : α → Prop} {xs : List AV} (h : ∀ x, x ∈ xs → ∃ a, x = f a ∧ q a) : ∃ l : List α, xs = l.map f ∧ ∀ a, a ∈ l → q a := by
 obtain ⟨l, rfl⟩ := zCD (f := fun a : {a : α // q a} => f a.1) (xs := xs) (fun x hx => by
  obtain ⟨a, e, ha⟩ := h x hx
  exact ⟨⟨a, ha⟩, e⟩)
 exact ⟨l.map (·.1), by rw [List.map_map]; rfl, fun a ha => by obtain ⟨b, _, rfl⟩ := List.mem_map.1 ha; exact b.2⟩
theorem zJh {H : Type} {enc : TypeId × Value → H} {W : World} {v : Value} {d : DataW H} {ps : List MemPlace} (hval : Value.okWide Tryz.prog W .any 0 9 v ∨ ∃ base, Value.okWide Tryz.prog W .any base 9 v)
  (h : DataW.Trod enc Tryz.prog W 0 (fun _ => true) true 9 v d ps) (hk : Rows.uptoBulk d ≤ 1048576) : ∃ s : Str, PR W (zNi W) (sV s) v ∧ s.length ≤ 1048576 := by
 have : ∃ b : ByteArray, v = .string b := by
  rcases hval with hval | ⟨base, hval⟩
  ·exact okWide_string Tryz.underlying9 hval
  ·exact okWide_string Tryz.underlying9 hval
 obtain ⟨b, rfl⟩ := this
 obtain ⟨fuel, hf⟩ := h
 obtain ⟨c, ⟨s, h1, rfl⟩, h2⟩ := zCe (N := 1048576) (ht := Tryz.underlying9) hf hk
 refine ⟨s, ?_, h1⟩
 have := h2.2 0 (by simp) (by simp [Value.cells])
 simpa [Value.cells] using this
theorem zJi {H : Type} {enc : TypeId × Value → H} {W : World} {v : Value} {d : DataW H} {ps : List MemPlace} (hval : Value.okWide Tryz.prog W .any 0 22 v ∨ ∃ base, Value.okWide Tryz.prog W .any base 22 v)
  (h : DataW.Trod enc Tryz.prog W 0 (fun _ => true) true 22 v d ps) (hk : Rows.uptoBulk d ≤ 1048576) : ∃ l : List Str, PR W (zNi W) (y7 l) v ∧ l.length ≤ 1048576 ∧ ∀ s, s ∈ l → s.length ≤ 1048576 := by
 have hsl : ∃ a len cap, v = .slice a len cap := by
  rcases hval with hval | ⟨base, hval⟩
  ·exact okWide_slice Tryz.underlying22 hval
  ·exact okWide_slice Tryz.underlying22 hval
 obtain ⟨a, len, cap, rfl⟩ := hsl
 obtain ⟨fuel, hf⟩ := h
 obtain ⟨c, ⟨xs, rfl, hl, hx⟩, h2⟩ := (zG4 (N := 1048576) (.sl true .str)).1 22 fuel _ _ (Sh.ok_of _ _ (by kernel_rfl)) hf hk
 obtain ⟨l, rfl, w⟩ := zGP (f := fun s : Str => sV s) (q := fun s => s.length ≤ 1048576) (xs := xs) (fun x hm => by
  obtain ⟨d, ⟨s, h1, rfl⟩, rfl⟩ := hx x hm
  exact ⟨s, rfl, h1⟩)
 refine ⟨l, ?_, by simpa using hl, w⟩
 have := h2.2 0 (by simp) (by simp [Value.cells])
 simpa [Value.cells] using this
abbrev zJk : Sh := .cat .str (.cat .str .emp)
end Go.Abs

namespace Go.Abs
open Go Go.Proofs Tryz
attribute [local irreducible] y4 Hold y9
section
variable {α : Type} {a b : List α} {i : Nat}
theorem zDF (ha : a.length ≤ i) (hl : a.length = b.length) (h : a.take i = b.take i) : a = b := by
 rwa [List.take_of_length_le ha, List.take_of_length_le (by omega)] at h
variable [Inhabited α]
theorem E8 {l : List α} (h : i < l.length) : l.take (i + 1) = l.take i ++ [l.getD i default] := by
 rw [List.take_add_one]; simp [List.getD, h]
theorem zDG (ha : i < a.length) (hb : i < b.length) (h : a.take i = b.take i) (e : a.getD i default = b.getD i default) : a.take (i + 1) = b.take (i + 1) := by
 rw [E8 ha, E8 hb, h, e]
theorem zDH (e : ¬ a.getD i default = b.getD i default) : ¬ a = b := fun h => e (by rw [h])
end
theorem zB9 {α : Type} {a b : List α} (h : ¬ a.length = b.length) : ¬ a = b := fun e => h (by rw [e])
theorem zHw (a b : List Int) (h1 : a.length ≤ 4294967296) : zNF prog 54 [T1 a, T1 b] [] (bV (decide (a = b))) [] := by
 refine q9 func54 rfl (fun E hE => ?_); simp only [go_sem, ntmps54]
 repeat' (first | (refine Qr rfl ?_; try intro _ hK; try simp only [go_sem, *]) | refine Qh rfl ?_ | refine Qd rfl (by kernel_rfl) ?_ | (refine Qc rfl rfl ?_ ?_ <;> (intro hb; have hc := hb; try simp only [go_sem] at hc)) | refine q8 rfl ?_ | (refine Qb ?_ ?_; focus kernel_rfl) | ((with_reducible apply And.intro); focus omega) | (refine q7 hK ?_; clear hK; simp only [go_sem, *]) | simp only [q6, z8, go_sem, *])
 ·(refine ⟨[_], [], [], ⟨rfl, trivial⟩, ?_⟩; simp only [go_sem, *])
  simp [zB9 (a := a) (b := b) (by omega)]
 ·have hlb : a.length = b.length := by omega
  refine n0 rfl (b.length) (fun i => a.take i = b.take i) 26 (fun i => [(5, iV i), (0, T1 a), (1, T1 b)]) (fun i => []) [] [] (by simp) ?_; intro i hi hP
  repeat' (first | (refine Qr rfl ?_; try intro _ hK; try simp only [go_sem, *]) | refine Qh rfl ?_ | refine Qd rfl (by kernel_rfl) ?_ | (refine Qc rfl rfl ?_ ?_ <;> (intro hb; have hc := hb; try simp only [go_sem] at hc)) | refine q8 rfl ?_ | (refine Qb ?_ ?_; focus kernel_rfl) | ((with_reducible apply And.intro); focus omega) | (refine q7 hK ?_; clear hK; simp only [go_sem, *]) | simp only [q6, z8, go_sem, *])
  ·(refine ⟨[_], [], [], ⟨rfl, trivial⟩, ?_⟩; simp only [go_sem, *])
   simp [zDH (a := a) (b := b) (i := i) (by assumption)]
  ·exact d7 (i' := i + 1) [] [] (by exact zDG (by omega) (by omega) hP (by assumption))
  ·(refine ⟨[_], [], [], ⟨rfl, trivial⟩, ?_⟩; simp only [go_sem, *])
   simp [zDF (by omega) hlb hP]
theorem zHx (a b : List Str) (h1 : a.length ≤ 4294967296) : zNF prog 33 [y7 a, y7 b] [] (bV (decide (a = b))) [] := by
 refine q9 func33 rfl (fun E hE => ?_); simp only [go_sem, ntmps33]
 repeat' (first | (refine Qr rfl ?_; try intro _ hK; try simp only [go_sem, *]) | refine Qh rfl ?_ | refine Qd rfl (by kernel_rfl) ?_ | (refine Qc rfl rfl ?_ ?_ <;> (intro hb; have hc := hb; try simp only [go_sem] at hc)) | refine q8 rfl ?_ | (refine Qb ?_ ?_; focus kernel_rfl) | ((with_reducible apply And.intro); focus omega) | (refine q7 hK ?_; clear hK; simp only [go_sem, *]) | simp only [q6, z8, go_sem, *])
 ·(refine ⟨[_], [], [], ⟨rfl, trivial⟩, ?_⟩; simp only [go_sem, *])
  simp [zB9 (a := a) (b := b) (by omega)]
 ·have hlb : a.length = b.length := by omega
  refine n0 rfl (b.length) (fun i => a.take i = b.take i) 26 (fun i => [(5, iV i), (0, y7 a), (1, y7 b)]) (fun i => []) [] [] (by simp) ?_; intro i hi hP
  repeat' (first | (refine Qr rfl ?_; try intro _ hK; try simp only [go_sem, *]) | refine Qh rfl ?_ | refine Qd rfl (by kernel_rfl) ?_ | (refine Qc rfl rfl ?_ ?_ <;> (intro hb; have hc := hb; try simp only [go_sem] at hc)) | refine q8 rfl ?_ | (refine Qb ?_ ?_; focus kernel_rfl) | ((with_reducible apply And.intro); focus omega) | (refine q7 hK ?_; clear hK; simp only [go_sem, *]) | simp only [q6, z8, go_sem, *])
  ·(refine ⟨[_], [], [], ⟨rfl, trivial⟩, ?_⟩; simp only [go_sem, *])
   simp [zDH (a := a) (b := b) (i := i) (by assumption)]
  ·exact d7 (i' := i + 1) [] [] (by exact zDG (by omega) (by omega) hP (by assumption))
  ·(refine ⟨[_], [], [], ⟨rfl, trivial⟩, ?_⟩; simp only [go_sem, *])
   simp [zDF (by omega) hlb hP]
theorem zMq (l : List Str) (h1 : l.length ≤ 4294967296) : zNF prog 28 [y7 l] [] (.own 0 1 0 l.length) [.row 1 (l.map sV)] := by
 refine q9 func28 rfl (fun E hE => ?_); simp only [go_sem, ntmps28]
 repeat' (first | (refine Qr rfl ?_; try intro _ hK; try simp only [go_sem, *]) | refine Qh rfl ?_ | (refine Qc rfl rfl ?_ ?_ <;> (intro hb; have hc := hb; try simp only [go_sem] at hc)) | refine q8 rfl ?_ | (with_reducible (show (∀ _ : AV, _ → _) ∧ _); refine And.intro ?_ ?_; (focus (intro y hy; first | (obtain ⟨z, _, rfl⟩ := List.mem_map.1 (hy); simp [go_sem]; done) | (obtain ⟨z, _, rfl⟩ := List.mem_map.1 (List.mem_of_mem_take hy); simp [go_sem]; done) | (obtain ⟨z, _, rfl⟩ := List.mem_map.1 (List.mem_of_mem_drop hy); simp [go_sem]; done) | (obtain ⟨z, _, rfl⟩ := List.mem_map.1 (List.mem_of_mem_drop (List.mem_of_mem_take hy)); simp [go_sem]; done)))) | ((with_reducible apply And.intro); focus omega) | (refine q7 hK ?_; clear hK; simp only [go_sem, *]) | simp only [q6, z8, go_sem, *])
 refine ⟨[_], [some 1], [], ⟨rfl, trivial⟩, ?_⟩
 simp only [go_sem, *]
theorem zIi : zNF prog 74 [] [] (.own 0 2 0 3) [.row 2 (rulesX.map Rule.enc)] := by
 refine q9 func74 rfl (fun E hE => ?_); simp only [go_sem, ntmps74]
 repeat' (first | (refine Qr rfl ?_; try intro _ hK; try simp only [go_sem, *]) | refine Qh rfl ?_ | (refine Qc rfl rfl ?_ ?_ <;> (intro hb; have hc := hb; try simp only [go_sem] at hc)) | refine q8 rfl ?_ | ((with_reducible apply And.intro); focus omega) | (refine q7 hK ?_; clear hK; simp only [go_sem, *]) | simp only [q6, z8, go_sem, *])
 refine ⟨[_], [some 0], [], ⟨rfl, trivial⟩, ?_⟩
 simp only [go_sem, rulesX, Rule.enc, *]
theorem zIj : zNF prog 75 [] [] (.own 0 1 0 3) [.row 1 (smithsX.map sV)] := by
 refine q9 func75 rfl (fun E hE => ?_); simp only [go_sem, ntmps75]
 repeat' (first | (refine Qr rfl ?_; try intro _ hK; try simp only [go_sem, *]) | refine Qh rfl ?_ | (refine Qc rfl rfl ?_ ?_ <;> (intro hb; have hc := hb; try simp only [go_sem] at hc)) | refine q8 rfl ?_ | ((with_reducible apply And.intro); focus omega) | (refine q7 hK ?_; clear hK; simp only [go_sem, *]) | simp only [q6, z8, go_sem, *])
 refine ⟨[_], [some 0], [], ⟨rfl, trivial⟩, ?_⟩
 simp only [go_sem, smithsX, Z1, zAG, zOT, *]
theorem zCw (d : Dice) (ws : List Str) (h : d.list.length ≤ 4294967296) (h0 : 0 < ws.length) (h1 : ws.length ≤ 1000) : zNF prog 76 [.ptr 0 0, y7 ws] [w7 d] (sV (Y3 ws d)) [w7 (l4 ws d)] := by
 have st := X7 d ((ws.length : Int) - 1) h (by omega)
 have hle := b8 (n := (ws.length : Int) - 1) (by omega) d
 have hw : IntKind.i64.wrap ((ws.length : Int) - 1) = (ws.length : Int) - 1 := wrap_i64 (by omega) (by omega)
 have e1 : Y3 ws d = ws.getD (toN ((ws.length : Int) - 1) d).toNat default := rfl
 have e2 : l4 ws d = toD ((ws.length : Int) - 1) d := rfl
 rw [e1, e2]
 clear e1 e2
 obtain ⟨n, hn⟩ : ∃ n : Nat, toN ((ws.length : Int) - 1) d = n := ⟨_, (Int.toNat_of_nonneg hle.1).symm⟩
 rw [hn] at st hle ⊢
 rw [Int.toNat_natCast]
 have hlt : n < ws.length := by omega
 generalize toD ((ws.length : Int) - 1) d = d2 at *
 clear hn hle
 refine q9 func76 rfl (fun E hE => ?_); simp only [go_sem, ntmps76]
 repeat' (first | (refine Qr rfl ?_; try intro _ hK; try simp only [go_sem, *]) | refine Qh rfl ?_ | (refine Qc rfl rfl ?_ ?_ <;> (intro hb; have hc := hb; try simp only [go_sem] at hc)) | refine q8 rfl ?_ | (refine v8 [0] (st) ?_; simp only [go_sem, *]) | ((with_reducible apply And.intro); focus omega) | (refine q7 hK ?_; clear hK; simp only [go_sem, *]) | simp only [q6, z8, go_sem, *])
 refine ⟨[_], [some 0], [], ⟨rfl, trivial⟩, ?_⟩
 simp only [go_sem, *]
end Go.Abs

namespace Go.Abs
open Go Go.Proofs Tryz
attribute [local irreducible] y4 Hold y9
theorem zHZ (d : Dice) : (zNl d).1.length ≤ 7 := by
 have k1 : (wordsU.all fun x => decide (x.length ≤ 7)) = true := by decide
 have k2 : (wordsL.all fun x => decide (x.length ≤ 7)) = true := by decide
 unfold zNl zOK
 split
 ·exact of_decide_eq_true (List.all_eq_true.1 k1 _ (F1 (by decide) _))
 ·exact of_decide_eq_true (List.all_eq_true.1 k2 _ (F1 (by decide) _))
theorem C4 {s : Str} {k : Nat} (h : k < s.length) : List.drop k (List.take (k + 1) s) = [s.getD k 0] := by
 rw [E8 h, List.drop_append_of_le_length (by simp; omega), List.drop_of_length_le (by simp; omega)]; rfl
theorem zCC (set : Str) (n : Nat) (d : Dice) (s : Str) : d6 set (n + 1) d s = d6 set n (toD ((set.length : Int) - 1) d) (s ++ [set.getD (toN ((set.length : Int) - 1) d).toNat 0]) := rfl
theorem zCu (d : Dice) (most : Int) (h : d.list.length ≤ 4294967296) (hm : 1 ≤ most ∧ most ≤ 1000) : zNF prog 25 [.ptr 0 0, iV most] [w7 d] (sV (i6 d most).1) [w7 (i6 d most).2] := by
 have hd1 : (l4 wordsL d).list = d.list := p6 _ _
 have s1 := zCw d wordsL h (by decide) (by decide)
 have s2 := E4 (l4 wordsL d) 3 (by rw [hd1]; exact h) (by omega)
 have hd2 : (w3 3 (l4 wordsL d)).list = d.list := (p6 _ _).trans hd1
 have s3 := zCw (w3 3 (l4 wordsL d)) wordsU (by rw [hd2]; exact h) (by decide) (by decide)
 have hset := zCq d
 have hset7 := zHZ d
 obtain ⟨p, hp⟩ : ∃ p, zNl d = p := ⟨_, rfl⟩
 have hT : i6 d most = G6 most p := by unfold i6; rw [hp]
 rw [hT]
 rw [hp] at hset hset7
 unfold zNl zOK at hp
 have hmin : 1 ≤ min most 6 ∧ min most 6 ≤ 6 := by omega
 have hq := B2 (lo := 1) (hi := min most 6) hmin.1 p.2
 have s4 := zHz p.2 1 (min most 6) (by rw [hset.2.2]; exact h) (by omega) (by omega)
 have hT2 : G6 most p = d6 p.1 (Z0 1 (min most 6) p.2).toNat (Y9 1 (min most 6) p.2) [] := rfl
 rw [hT2]
 have hd3 : (Y9 1 (min most 6) p.2).list = d.list := (p6 _ _).trans hset.2.2
 obtain ⟨n, hn⟩ : ∃ n : Nat, Z0 1 (min most 6) p.2 = n := ⟨(Z0 1 (min most 6) p.2).toNat, by omega⟩
 rw [hn] at s4 hq ⊢
 rw [Int.toNat_natCast]
 have hn6 : n ≤ 6 := by omega
 generalize hT3 : d6 p.1 n (Y9 1 (min most 6) p.2) [] = T at *
 obtain ⟨dd, hdd⟩ : ∃ dd, Y9 1 (min most 6) p.2 = dd := ⟨_, rfl⟩
 rw [hdd] at s4 hT3 hd3
 have hdl : dd.list.length ≤ 4294967296 := by rw [hd3]; exact h
 obtain ⟨set, d4⟩ := p
 have hsl : 0 < set.length := hset.1
 have hsl2 : set.length ≤ 7 := hset7
 clear hn hT hT2 hq hd1 hd2 hd3 hset hdd
 simp only at s4 hT3
 generalize c9 3 (l4 wordsL d) = t at *
 generalize w3 3 (l4 wordsL d) = d2 at *
 generalize l4 wordsL d = d1 at *
 generalize Y3 wordsL d = a at *
 generalize Y3 wordsU d2 = b at *
 generalize l4 wordsU d2 = d3 at *
 generalize hmm : min most 6 = mm at *
 have hw0 : y7 wordsL = .list [sV [97, 101, 115], sV [115, 104, 101, 116, 97], sV [115, 109, 105, 116, 121, 104, 97], sV [99, 104, 106, 97], sV [97, 110, 110, 101]] := rfl
 have hw1 : y7 wordsU = .list [sV [65, 69, 83], sV [88, 69, 84, 65], sV [83, 77, 73, 84, 89, 65], sV [67, 74, 65, 88], sV [65, 78, 78, 69]] := rfl
 rw [hw0] at s1
 rw [hw1] at s3
 clear hw0 hw1 hset7
 have hmi : zOH most 6 = mm := by rw [← hmm]; unfold zOH; omega
 clear hmm
 cases t
 ·have hp : (a, d2) = (set, d4) := hp
  cases hp
  clear s3
  refine q9 func25 rfl (fun E hE => ?_); simp only [go_sem, ntmps25]
  repeat' (first | (refine Qr rfl ?_; try intro _ hK; try simp only [go_sem, *]) | refine Qh rfl ?_ | (refine Qc rfl rfl ?_ ?_ <;> (intro hb; have hc := hb; try simp only [go_sem] at hc)) | refine q8 rfl ?_ | ((with_reducible apply And.intro); focus omega) | (refine q7 hK ?_; clear hK; simp only [go_sem, *]) | simp only [q6, z8, go_sem, *])
  refine Q4 [0] [1] s1 rfl (by simp only [go_sem]) (by simp) ?_ ?_ (by simp [go_sem]) (by simp [go_sem]) ?_
  ·simp only [go_sem, *]
  ·simp only [go_sem, *]
  simp only [go_sem, u6, *]
  repeat' (first | (refine Qr rfl ?_; try intro _ hK; try simp only [go_sem, *]) | refine Qh rfl ?_ | (refine Qc rfl rfl ?_ ?_ <;> (intro hb; have hc := hb; try simp only [go_sem] at hc)) | refine q8 rfl ?_ | (refine v8 [0] (s2) ?_; simp only [go_sem, *]) | ((with_reducible apply And.intro); focus omega) | (refine q7 hK ?_; clear hK; simp only [go_sem, *]) | simp only [q6, z8, go_sem, *])
  all_goals try contradiction
  repeat' (first | (refine Qr rfl ?_; try intro _ hK; try simp only [go_sem, *]) | refine Qh rfl ?_ | (refine Qc rfl rfl ?_ ?_ <;> (intro hb; have hc := hb; try simp only [go_sem] at hc)) | refine q8 rfl ?_ | (refine v8 [0] (s4) ?_; simp only [go_sem, *]) | ((with_reducible apply And.intro); focus omega) | (refine q7 hK ?_; clear hK; simp only [go_sem, *]) | simp only [q6, z8, go_sem, *])
  all_goals try contradiction
  refine O0 rfl (n) (fun i (d' : Dice) (s : Str) => d6 set (n - i) d' s = T ∧ d'.list.length ≤ 4294967296 ∧ s.length ≤ i) 38 (fun i d' s => [(7, iV ((n - i : Nat) : Int)), (6, sV s), (5, sV set), (0, .ptr 0 0)]) (fun i d' s => [w7 d']) [some 0] [] (dd) ([]) (by exact ⟨hT3, hdl, by simp⟩) ?_; intro i d' s hi hP
  clear hT3 hdl s4 s2 s1
  obtain ⟨hP, hdl, hsi⟩ := hP
  by_cases hi2 : i < n
  ·rw [show n - i = (n - (i + 1)) + 1 by omega, zCC] at hP
   have st := X7 d' ((set.length : Int) - 1) hdl (by omega)
   have hle := b8 (n := (set.length : Int) - 1) (by omega) d'
   have hdl2 : (toD ((set.length : Int) - 1) d').list.length ≤ 4294967296 := by rw [p6]; exact hdl
   obtain ⟨k, hk0⟩ : ∃ k : Nat, toN ((set.length : Int) - 1) d' = k := ⟨_, (Int.toNat_of_nonneg hle.1).symm⟩
   rw [hk0] at st hle hP
   rw [Int.toNat_natCast] at hP
   have hkl : k < set.length := by omega
   have hw : IntKind.i64.wrap ((set.length : Int) - 1) = (set.length : Int) - 1 := wrap_i64 (by omega) (by omega)
   have hw1 : IntKind.i64.wrap ((k : Int) + 1) = ((k + 1 : Nat) : Int) := t6 (by omega)
   have hw2 : IntKind.i64.wrap (((n - i : Nat) : Int) - 1) = ((n - (i + 1) : Nat) : Int) := by rw [wrap_i64 (by omega) (by omega)]; omega
   have hj : (0 : Int) < ((n - i : Nat) : Int) := by omega
   have hdt := C4 hkl
   generalize toD ((set.length : Int) - 1) d' = d3 at *
   clear hk0 hle
   repeat' (first | (refine Qr rfl ?_; try intro _ hK; try simp only [go_sem, *]) | refine Qh rfl ?_ | (refine Qc rfl rfl ?_ ?_ <;> (intro hb; have hc := hb; try simp only [go_sem] at hc)) | refine q8 rfl ?_ | (refine v8 [0] (st) ?_; simp only [go_sem, *]) | ((with_reducible apply And.intro); focus omega) | (refine q7 hK ?_; clear hK; simp only [go_sem, *]) | simp only [q6, z8, go_sem, *])
   exact i7 (i' := i + 1) [some 0] [] (d3) (s ++ [set.getD k 0]) (by exact ⟨hP, hdl2, by simp; omega⟩)
  ·rw [show n - i = 0 by omega] at hP
   have hP : (s, d') = T := hP
   subst hP
   have hj : ¬ (0 : Int) < ((n - i : Nat) : Int) := by omega
   repeat' (first | (refine Qr rfl ?_; try intro _ hK; try simp only [go_sem, *]) | refine Qh rfl ?_ | (refine Qc rfl rfl ?_ ?_ <;> (intro hb; have hc := hb; try simp only [go_sem] at hc)) | refine q8 rfl ?_ | ((with_reducible apply And.intro); focus omega) | (refine q7 hK ?_; clear hK; simp only [go_sem, *]) | simp only [q6, z8, go_sem, *])
   all_goals first | contradiction | omega | skip
   refine ⟨[_], [some 0], [], ⟨rfl, trivial⟩, ?_⟩
   simp only [go_sem, *]
 ·have hp : (b, d3) = (set, d4) := hp
  cases hp
  refine q9 func25 rfl (fun E hE => ?_); simp only [go_sem, ntmps25]
  repeat' (first | (refine Qr rfl ?_; try intro _ hK; try simp only [go_sem, *]) | refine Qh rfl ?_ | (refine Qc rfl rfl ?_ ?_ <;> (intro hb; have hc := hb; try simp only [go_sem] at hc)) | refine q8 rfl ?_ | ((with_reducible apply And.intro); focus omega) | (refine q7 hK ?_; clear hK; simp only [go_sem, *]) | simp only [q6, z8, go_sem, *])
  refine Q4 [0] [1] s1 rfl (by simp only [go_sem]) (by simp) ?_ ?_ (by simp [go_sem]) (by simp [go_sem]) ?_
  ·simp only [go_sem, *]
  ·simp only [go_sem, *]
  simp only [go_sem, u6, *]
  repeat' (first | (refine Qr rfl ?_; try intro _ hK; try simp only [go_sem, *]) | refine Qh rfl ?_ | (refine Qc rfl rfl ?_ ?_ <;> (intro hb; have hc := hb; try simp only [go_sem] at hc)) | refine q8 rfl ?_ | (refine v8 [0] (s2) ?_; simp only [go_sem, *]) | ((with_reducible apply And.intro); focus omega) | (refine q7 hK ?_; clear hK; simp only [go_sem, *]) | simp only [q6, z8, go_sem, *])
  all_goals try contradiction
  refine Q4 [0] [2] s3 rfl (by simp only [go_sem]) (by simp) ?_ ?_ (by simp [go_sem]) (by simp [go_sem]) ?_
  ·simp only [go_sem, *]
  ·simp only [go_sem, *]
  simp only [go_sem, u6, *]
  repeat' (first | (refine Qr rfl ?_; try intro _ hK; try simp only [go_sem, *]) | refine Qh rfl ?_ | (refine Qc rfl rfl ?_ ?_ <;> (intro hb; have hc := hb; try simp only [go_sem] at hc)) | refine q8 rfl ?_ | (refine v8 [0] (s4) ?_; simp only [go_sem, *]) | ((with_reducible apply And.intro); focus omega) | (refine q7 hK ?_; clear hK; simp only [go_sem, *]) | simp only [q6, z8, go_sem, *])
  all_goals try contradiction
  refine O0 rfl (n) (fun i (d' : Dice) (s : Str) => d6 set (n - i) d' s = T ∧ d'.list.length ≤ 4294967296 ∧ s.length ≤ i) 38 (fun i d' s => [(7, iV ((n - i : Nat) : Int)), (6, sV s), (5, sV set), (0, .ptr 0 0)]) (fun i d' s => [w7 d']) [some 0] [] (dd) ([]) (by exact ⟨hT3, hdl, by simp⟩) ?_; intro i d' s hi hP
  clear hT3 hdl s4 s3 s2 s1
  obtain ⟨hP, hdl, hsi⟩ := hP
  by_cases hi2 : i < n
  ·rw [show n - i = (n - (i + 1)) + 1 by omega, zCC] at hP
   have st := X7 d' ((set.length : Int) - 1) hdl (by omega)
   have hle := b8 (n := (set.length : Int) - 1) (by omega) d'
   have hdl2 : (toD ((set.length : Int) - 1) d').list.length ≤ 4294967296 := by rw [p6]; exact hdl
   obtain ⟨k, hk0⟩ : ∃ k : Nat, toN ((set.length : Int) - 1) d' = k := ⟨_, (Int.toNat_of_nonneg hle.1).symm⟩
   rw [hk0] at st hle hP
   rw [Int.toNat_natCast] at hP
   have hkl : k < set.length := by omega
   have hw : IntKind.i64.wrap ((set.length : Int) - 1) = (set.length : Int) - 1 := wrap_i64 (by omega) (by omega)
   have hw1 : IntKind.i64.wrap ((k : Int) + 1) = ((k + 1 : Nat) : Int) := t6 (by omega)
   have hw2 : IntKind.i64.wrap (((n - i : Nat) : Int) - 1) = ((n - (i + 1) : Nat) : Int) := by rw [wrap_i64 (by omega) (by omega)]; omega
   have hj : (0 : Int) < ((n - i : Nat) : Int) := by omega
   have hdt := C4 hkl
   generalize toD ((set.length : Int) - 1) d' = d3' at *
   clear hk0 hle
   repeat' (first | (refine Qr rfl ?_; try intro _ hK; try simp only [go_sem, *]) | refine Qh rfl ?_ | (refine Qc rfl rfl ?_ ?_ <;> (intro hb; have hc := hb; try simp only [go_sem] at hc)) | refine q8 rfl ?_ | (refine v8 [0] (st) ?_; simp only [go_sem, *]) | ((with_reducible apply And.intro); focus omega) | (refine q7 hK ?_; clear hK; simp only [go_sem, *]) | simp only [q6, z8, go_sem, *])
   exact i7 (i' := i + 1) [some 0] [] (d3') (s ++ [set.getD k 0]) (by exact ⟨hP, hdl2, by simp; omega⟩)
  ·rw [show n - i = 0 by omega] at hP
   have hP : (s, d') = T := hP
   subst hP
   have hj : ¬ (0 : Int) < ((n - i : Nat) : Int) := by omega
   repeat' (first | (refine Qr rfl ?_; try intro _ hK; try simp only [go_sem, *]) | refine Qh rfl ?_ | (refine Qc rfl rfl ?_ ?_ <;> (intro hb; have hc := hb; try simp only [go_sem] at hc)) | refine q8 rfl ?_ | ((with_reducible apply And.intro); focus omega) | (refine q7 hK ?_; clear hK; simp only [go_sem, *]) | simp only [q6, z8, go_sem, *])
   all_goals first | contradiction | omega | skip
   refine ⟨[_], [some 0], [], ⟨rfl, trivial⟩, ?_⟩
   simp only [go_sem, *]
end Go.Abs

namespace Go.Abs
open Go Go.Proofs Tryz
attribute [local irreducible] y4 Hold y9
theorem zGf (most : Int) (n : Nat) (d : Dice) (out : List Str) : Z3 most (n + 1) d out = Z3 most n (a6 out (i6 d most)).2 (out ++ [(a6 out (i6 d most)).1]) := rfl
theorem zH4 (d : Dice) (many most : Int) (h : d.list.length ≤ 4294967296) (hm : 0 ≤ many ∧ many ≤ 1000) (h1 : 1 ≤ most ∧ most ≤ 1000) :
  zNF prog 24 [.ptr 0 0, iV many, iV most] [w7 d] (.own 1 1 0 (V9 d many most).1.length) [w7 (V9 d many most).2, .row 1 ((V9 d many most).1.map sV)] := by
 have st := X7 d many h (by omega)
 have hle := b8 hm.1 d
 have hT : V9 d many most = Z3 most (toN many d).toNat (toD many d) [] := rfl
 rw [hT]
 clear hT
 obtain ⟨n, hn⟩ : ∃ n : Nat, toN many d = n := ⟨_, (Int.toNat_of_nonneg hle.1).symm⟩
 rw [hn] at st hle ⊢
 rw [Int.toNat_natCast]
 have hn6 : n ≤ 1000 := by omega
 generalize hT3 : Z3 most n (toD many d) [] = T at *
 have hdl : (toD many d).list.length ≤ 4294967296 := by rw [p6]; exact h
 generalize toD many d = dd at *
 clear hn hle h hm
 refine q9 func24 rfl (fun E hE => ?_); simp only [go_sem, ntmps24]
 repeat' (first | (refine Qr rfl ?_; try intro _ hK; try simp only [go_sem, *]) | (refine Qi rfl rfl rfl rfl ?_ ?_ <;> (intro hb; (try intro _ hK); have hc := hb; try simp only [go_sem] at hc; simp only [go_sem, *])) | refine Qh rfl ?_ | refine Qd rfl (by kernel_rfl) ?_ | (refine Qc rfl rfl ?_ ?_ <;> (intro hb; have hc := hb; try simp only [go_sem] at hc)) | refine q8 rfl ?_ | (refine Qb ?_ ?_; focus kernel_rfl) | (refine v8 [0] (st) ?_; simp only [go_sem, *]) | ((with_reducible apply And.intro); focus omega) | (refine q7 hK ?_; clear hK; simp only [go_sem, *]) | simp only [q6, z8, go_sem, *])
 all_goals try contradiction
 refine O0 rfl (n) (fun i (d' : Dice) (outs : List Str) => Z3 most (n - i) d' outs = T ∧ d'.list.length ≤ 4294967296 ∧ outs.length = i ∧ ∀ s, s ∈ outs → W6 most s) 66 (fun i d' outs => [(8, iV ((n - i : Nat) : Int)), (7, .own 1 1 0 i), (0, .ptr 0 0), (2, iV most)]) (fun i d' outs => [w7 d', .row 1 (outs.map sV)]) [some 0, none] [] (dd) ([]) (by exact ⟨hT3, hdl, rfl, fun s hs => by cases hs⟩) ?_; intro i d' outs hi hP
 clear hT3 hdl st
 obtain ⟨hP, hdl, hlen, hok⟩ := hP
 by_cases hi2 : i < n
 ·rw [show n - i = (n - (i + 1)) + 1 by omega, zGf] at hP
  have sN := zCu d' most hdl h1
  have hN := zAH h1.1 (d := d')
  obtain ⟨x, d1, hx⟩ : ∃ x d1, i6 d' most = (x, d1) := ⟨_, _, rfl⟩
  rw [hx] at sN hN hP
  have hA := zAv hok (p := (x, d1)) ⟨hN.1, hN.2.1⟩
  simp only at sN hN hA
  have hd1 : d1.list.length ≤ 4294967296 := by rw [hN.2.2]; exact hdl
  have hxl : x.length ≤ 6 := hN.1.len
  have hw2 : IntKind.i64.wrap (((n - i : Nat) : Int) - 1) = ((n - (i + 1) : Nat) : Int) := by rw [wrap_i64 (by omega) (by omega)]; omega
  have hj : (0 : Int) < ((n - i : Nat) : Int) := by omega
  obtain ⟨y, d9, hq⟩ : ∃ y d9, a6 outs (x, d1) = (y, d9) := ⟨_, _, rfl⟩
  rw [hq] at hP hA
  have hnext : Z3 most (n - (i + 1)) d9 (outs ++ [y]) = T ∧ d9.list.length ≤ 4294967296 ∧ (outs ++ [y]).length = i + 1 ∧ ∀ s, s ∈ outs ++ [y] → W6 most s :=
   ⟨hP, by rw [hA.2]; exact hd1, by simp [hlen], fun s hs => by
    rcases List.mem_append.1 hs with hs | hs
    ·exact hok s hs
    ·rw [List.mem_singleton.1 hs]; exact hA.1⟩
  clear hP hA hN hx
  by_cases h0 : 0 < outs.length
  ·have so := E4 d1 3 hd1 (by omega)
   have hd2 : (w3 3 d1).list.length ≤ 4294967296 := by unfold w3; rw [p6]; exact hd1
   unfold a6 at hq
   rw [if_pos h0] at hq
   have hq : D4 outs (x, d1) (c9 3 d1) (w3 3 d1) = (y, d9) := hq
   have h0i : (0 : Int) < (i : Int) := by omega
   generalize w3 3 d1 = d2 at *
   generalize c9 3 d1 = t at *
   cases t
   ·have hq : (x, d2) = (y, d9) := hq
    obtain ⟨e1, e2⟩ := Prod.mk.inj hq
    clear hq
    subst e1 e2
    clear hok
    repeat' (first | (refine Qr rfl ?_; try intro _ hK; try simp only [go_sem, *]) | (refine Qi rfl rfl rfl rfl ?_ ?_ <;> (intro hb; (try intro _ hK); have hc := hb; try simp only [go_sem] at hc; simp only [go_sem, *])) | refine Qh rfl ?_ | refine Qd rfl (by kernel_rfl) ?_ | (refine Qc rfl rfl ?_ ?_ <;> (intro hb; have hc := hb; try simp only [go_sem] at hc)) | refine q8 rfl ?_ | (refine Qb ?_ ?_; focus kernel_rfl) | (refine r7 [0] [] (sN) (by simp) ?_ ?_ (by simp) (.inl rfl) ?_ ?_ ?_; (iterate 2 (focus (simp only [go_sem, *]; done))); (iterate 2 (focus (first | (simp; done) | (simp [go_sem]; done)))); simp only [go_sem, *]) | (refine r7 [0] [] (so) (by simp) ?_ ?_ (by simp) (.inl rfl) ?_ ?_ ?_; (iterate 2 (focus (simp only [go_sem, *]; done))); (iterate 2 (focus (first | (simp; done) | (simp [go_sem]; done)))); simp only [go_sem, *]) | ((with_reducible apply And.intro); focus omega) | (refine q7 hK ?_; clear hK; simp only [go_sem, *]) | simp only [q6, z8, go_sem, *])
    all_goals first | contradiction | omega | skip
    exact i7 (i' := i + 1) [some 0, some 3] [] (d2) (outs ++ [x]) (by exact hnext)
   ·have hq : U2 (O9 outs d2) (toD ((outs.length : Int) - 1) d2) = (y, d9) := hq
    have hpk0 : ∀ e : Int, O9 outs d2 = outs.getD (toN ((outs.length : Int) - 1) d2).toNat default := fun _ => rfl
    rw [hlen] at hq hpk0
    have st := X7 d2 ((i : Int) - 1) hd2 (by omega)
    have hle := b8 (n := (i : Int) - 1) (by omega) d2
    have hd3 : (toD ((i : Int) - 1) d2).list.length ≤ 4294967296 := by rw [p6]; exact hd2
    obtain ⟨k, hk0⟩ : ∃ k : Nat, toN ((i : Int) - 1) d2 = k := ⟨_, (Int.toNat_of_nonneg hle.1).symm⟩
    have hpk : O9 outs d2 = outs.getD k default := by rw [hpk0 0, hk0, Int.toNat_natCast]
    rw [hk0] at st hle
    rw [hpk] at hq
    have hkl : k < outs.length := by omega
    have hkli : k < i := by omega
    have hz := (hok _ (o7 hkl)).1
    have hw : IntKind.i64.wrap ((i : Int) - 1) = (i : Int) - 1 := wrap_i64 (by omega) (by omega)
    generalize toD ((i : Int) - 1) d2 = d3 at *
    have hz1 : 0 < (outs.getD k default).length := hz.ne
    have hz6 : (outs.getD k default).length ≤ 6 := hz.len
    clear hk0 hle hpk hpk0 hok hz
    generalize hzz : outs.getD k default = z at *
    by_cases hv : 97 ≤ (z.getD 0 0).toNat ∧ 1 < z.length
    ·have s2 := E4 d3 2 hd3 (by omega)
     have hd4 : (w3 2 d3).list.length ≤ 4294967296 := by unfold w3; rw [p6]; exact hd3
     unfold U2 at hq
     rw [if_pos hv] at hq
     generalize w3 2 d3 = d4 at *
     generalize c9 2 d3 = t2 at *
     obtain ⟨hv1, hv2⟩ := hv
     cases t2
     ·have hq : (z, d4) = (y, d9) := hq
      obtain ⟨e1, e2⟩ := Prod.mk.inj hq
      clear hq
      subst e1 e2
      repeat' (first | (refine Qr rfl ?_; try intro _ hK; try simp only [go_sem, *]) | (refine Qi rfl rfl rfl rfl ?_ ?_ <;> (intro hb; (try intro _ hK); have hc := hb; try simp only [go_sem] at hc; simp only [go_sem, *])) | refine Qh rfl ?_ | refine Qd rfl (by kernel_rfl) ?_ | (refine Qc rfl rfl ?_ ?_ <;> (intro hb; have hc := hb; try simp only [go_sem] at hc)) | refine q8 rfl ?_ | (refine Qb ?_ ?_; focus kernel_rfl) | (refine r7 [0] [] (sN) (by simp) ?_ ?_ (by simp) (.inl rfl) ?_ ?_ ?_; (iterate 2 (focus (simp only [go_sem, *]; done))); (iterate 2 (focus (first | (simp; done) | (simp [go_sem]; done)))); simp only [go_sem, *]) | (refine r7 [0] [] (so) (by simp) ?_ ?_ (by simp) (.inl rfl) ?_ ?_ ?_; (iterate 2 (focus (simp only [go_sem, *]; done))); (iterate 2 (focus (first | (simp; done) | (simp [go_sem]; done)))); simp only [go_sem, *]) | (refine r7 [0] [] (s2) (by simp) ?_ ?_ (by simp) (.inl rfl) ?_ ?_ ?_; (iterate 2 (focus (simp only [go_sem, *]; done))); (iterate 2 (focus (first | (simp; done) | (simp [go_sem]; done)))); simp only [go_sem, *]) | (refine r7 [0] [] (st) (by simp) ?_ ?_ (by simp) (.inl rfl) ?_ ?_ ?_; (iterate 2 (focus (simp only [go_sem, *]; done))); (iterate 2 (focus (first | (simp; done) | (simp [go_sem]; done)))); simp only [go_sem, *]) | ((with_reducible apply And.intro); focus omega) | (refine q7 hK ?_; clear hK; simp only [go_sem, *]) | simp only [q6, z8, go_sem, *])
      all_goals first | contradiction | omega | skip
      exact i7 (i' := i + 1) [some 0, some 3] [] (d4) (outs ++ [z]) (by exact hnext)
     ·have hq : (Q6 z (toN ((z.length : Int) - 1) d4).toNat, toD ((z.length : Int) - 1) d4) = (y, d9) := hq
      have s5 := X7 d4 ((z.length : Int) - 1) hd4 (by omega)
      have hle := b8 (n := (z.length : Int) - 1) (by omega) d4
      obtain ⟨m, hm0⟩ : ∃ m : Nat, toN ((z.length : Int) - 1) d4 = m := ⟨_, (Int.toNat_of_nonneg hle.1).symm⟩
      rw [hm0] at s5 hle hq
      rw [Int.toNat_natCast] at hq
      have hml : m < z.length := by omega
      have hwz : IntKind.i64.wrap ((z.length : Int) - 1) = (z.length : Int) - 1 := wrap_i64 (by omega) (by omega)
      have hwm : IntKind.i64.wrap ((m : Int) + 1) = ((m + 1 : Nat) : Int) := t6 (by omega)
      generalize toD ((z.length : Int) - 1) d4 = d5 at *
      obtain ⟨e1, e2⟩ := Prod.mk.inj hq
      clear hq hm0 hle
      subst e1 e2
      have hcut : List.take m z ++ List.drop (m + 1) z = Q6 z m := rfl
      repeat' (first | (refine Qr rfl ?_; try intro _ hK; try simp only [go_sem, *]) | (refine Qi rfl rfl rfl rfl ?_ ?_ <;> (intro hb; (try intro _ hK); have hc := hb; try simp only [go_sem] at hc; simp only [go_sem, *])) | refine Qh rfl ?_ | refine Qd rfl (by kernel_rfl) ?_ | (refine Qc rfl rfl ?_ ?_ <;> (intro hb; have hc := hb; try simp only [go_sem] at hc)) | refine q8 rfl ?_ | (refine Qb ?_ ?_; focus kernel_rfl) | (refine r7 [0] [] (sN) (by simp) ?_ ?_ (by simp) (.inl rfl) ?_ ?_ ?_; (iterate 2 (focus (simp only [go_sem, *]; done))); (iterate 2 (focus (first | (simp; done) | (simp [go_sem]; done)))); simp only [go_sem, *]) | (refine r7 [0] [] (so) (by simp) ?_ ?_ (by simp) (.inl rfl) ?_ ?_ ?_; (iterate 2 (focus (simp only [go_sem, *]; done))); (iterate 2 (focus (first | (simp; done) | (simp [go_sem]; done)))); simp only [go_sem, *]) | (refine r7 [0] [] (s2) (by simp) ?_ ?_ (by simp) (.inl rfl) ?_ ?_ ?_; (iterate 2 (focus (simp only [go_sem, *]; done))); (iterate 2 (focus (first | (simp; done) | (simp [go_sem]; done)))); simp only [go_sem, *]) | (refine r7 [0] [] (st) (by simp) ?_ ?_ (by simp) (.inl rfl) ?_ ?_ ?_; (iterate 2 (focus (simp only [go_sem, *]; done))); (iterate 2 (focus (first | (simp; done) | (simp [go_sem]; done)))); simp only [go_sem, *]) | (refine r7 [0] [] (s5) (by simp) ?_ ?_ (by simp) (.inl rfl) ?_ ?_ ?_; (iterate 2 (focus (simp only [go_sem, *]; done))); (iterate 2 (focus (first | (simp; done) | (simp [go_sem]; done)))); simp only [go_sem, *]) | ((with_reducible apply And.intro); focus omega) | (refine q7 hK ?_; clear hK; simp only [go_sem, *]) | simp only [q6, z8, go_sem, *])
      all_goals first | contradiction | omega | skip
      exact i7 (i' := i + 1) [some 0, some 3] [] (d5) (outs ++ [Q6 z m]) (by exact hnext)
    ·unfold U2 at hq
     rw [if_neg hv] at hq
     obtain ⟨e1, e2⟩ := Prod.mk.inj hq
     clear hq
     subst e1 e2
     by_cases hv1 : 97 ≤ (z.getD 0 0).toNat
     ·have hv2 : ¬ 1 < z.length := fun h => hv ⟨hv1, h⟩
      clear hv
      repeat' (first | (refine Qr rfl ?_; try intro _ hK; try simp only [go_sem, *]) | (refine Qi rfl rfl rfl rfl ?_ ?_ <;> (intro hb; (try intro _ hK); have hc := hb; try simp only [go_sem] at hc; simp only [go_sem, *])) | refine Qh rfl ?_ | refine Qd rfl (by kernel_rfl) ?_ | (refine Qc rfl rfl ?_ ?_ <;> (intro hb; have hc := hb; try simp only [go_sem] at hc)) | refine q8 rfl ?_ | (refine Qb ?_ ?_; focus kernel_rfl) | (refine r7 [0] [] (sN) (by simp) ?_ ?_ (by simp) (.inl rfl) ?_ ?_ ?_; (iterate 2 (focus (simp only [go_sem, *]; done))); (iterate 2 (focus (first | (simp; done) | (simp [go_sem]; done)))); simp only [go_sem, *]) | (refine r7 [0] [] (so) (by simp) ?_ ?_ (by simp) (.inl rfl) ?_ ?_ ?_; (iterate 2 (focus (simp only [go_sem, *]; done))); (iterate 2 (focus (first | (simp; done) | (simp [go_sem]; done)))); simp only [go_sem, *]) | (refine r7 [0] [] (st) (by simp) ?_ ?_ (by simp) (.inl rfl) ?_ ?_ ?_; (iterate 2 (focus (simp only [go_sem, *]; done))); (iterate 2 (focus (first | (simp; done) | (simp [go_sem]; done)))); simp only [go_sem, *]) | ((with_reducible apply And.intro); focus omega) | (refine q7 hK ?_; clear hK; simp only [go_sem, *]) | simp only [q6, z8, go_sem, *])
      all_goals first | contradiction | omega | skip
      exact i7 (i' := i + 1) [some 0, some 3] [] (d3) (outs ++ [z]) (by exact hnext)
     ·clear hv
      repeat' (first | (refine Qr rfl ?_; try intro _ hK; try simp only [go_sem, *]) | (refine Qi rfl rfl rfl rfl ?_ ?_ <;> (intro hb; (try intro _ hK); have hc := hb; try simp only [go_sem] at hc; simp only [go_sem, *])) | refine Qh rfl ?_ | refine Qd rfl (by kernel_rfl) ?_ | (refine Qc rfl rfl ?_ ?_ <;> (intro hb; have hc := hb; try simp only [go_sem] at hc)) | refine q8 rfl ?_ | (refine Qb ?_ ?_; focus kernel_rfl) | (refine r7 [0] [] (sN) (by simp) ?_ ?_ (by simp) (.inl rfl) ?_ ?_ ?_; (iterate 2 (focus (simp only [go_sem, *]; done))); (iterate 2 (focus (first | (simp; done) | (simp [go_sem]; done)))); simp only [go_sem, *]) | (refine r7 [0] [] (so) (by simp) ?_ ?_ (by simp) (.inl rfl) ?_ ?_ ?_; (iterate 2 (focus (simp only [go_sem, *]; done))); (iterate 2 (focus (first | (simp; done) | (simp [go_sem]; done)))); simp only [go_sem, *]) | (refine r7 [0] [] (st) (by simp) ?_ ?_ (by simp) (.inl rfl) ?_ ?_ ?_; (iterate 2 (focus (simp only [go_sem, *]; done))); (iterate 2 (focus (first | (simp; done) | (simp [go_sem]; done)))); simp only [go_sem, *]) | ((with_reducible apply And.intro); focus omega) | (refine q7 hK ?_; clear hK; simp only [go_sem, *]) | simp only [q6, z8, go_sem, *])
      all_goals first | contradiction | omega | skip
      exact i7 (i' := i + 1) [some 0, some 3] [] (d3) (outs ++ [z]) (by exact hnext)
  ·unfold a6 at hq
   rw [if_neg h0] at hq
   obtain ⟨e1, e2⟩ := Prod.mk.inj hq
   clear hq
   subst e1 e2
   have h0i : ¬ (0 : Int) < (i : Int) := by omega
   clear hok
   repeat' (first | (refine Qr rfl ?_; try intro _ hK; try simp only [go_sem, *]) | (refine Qi rfl rfl rfl rfl ?_ ?_ <;> (intro hb; (try intro _ hK); have hc := hb; try simp only [go_sem] at hc; simp only [go_sem, *])) | refine Qh rfl ?_ | refine Qd rfl (by kernel_rfl) ?_ | (refine Qc rfl rfl ?_ ?_ <;> (intro hb; have hc := hb; try simp only [go_sem] at hc)) | refine q8 rfl ?_ | (refine Qb ?_ ?_; focus kernel_rfl) | (refine v8 [0] (sN) ?_; simp only [go_sem, *]) | ((with_reducible apply And.intro); focus omega) | (refine q7 hK ?_; clear hK; simp only [go_sem, *]) | simp only [q6, z8, go_sem, *])
   all_goals first | contradiction | omega | skip
   exact i7 (i' := i + 1) [some 0, some 3] [] (d1) (outs ++ [x]) (by exact hnext)
 ·rw [show n - i = 0 by omega] at hP
  have hP : (outs, d') = T := hP
  subst hP
  have hj : ¬ (0 : Int) < ((n - i : Nat) : Int) := by omega
  clear hok
  repeat' (first | (refine Qr rfl ?_; try intro _ hK; try simp only [go_sem, *]) | (refine Qi rfl rfl rfl rfl ?_ ?_ <;> (intro hb; (try intro _ hK); have hc := hb; try simp only [go_sem] at hc; simp only [go_sem, *])) | refine Qh rfl ?_ | refine Qd rfl (by kernel_rfl) ?_ | (refine Qc rfl rfl ?_ ?_ <;> (intro hb; have hc := hb; try simp only [go_sem] at hc)) | refine q8 rfl ?_ | (refine Qb ?_ ?_; focus kernel_rfl) | ((with_reducible apply And.intro); focus omega) | (refine q7 hK ?_; clear hK; simp only [go_sem, *]) | simp only [q6, z8, go_sem, *])
  all_goals first | contradiction | omega | skip
  refine ⟨[_], [some 0, some 1], [], ⟨rfl, trivial⟩, ?_⟩
  simp only [go_sem, *]
end Go.Abs

namespace Go.Abs
open Go Go.Proofs Tryz
attribute [local irreducible] y4 Hold y9
end Go.Abs

namespace Go.Abs
open Go
theorem L4 {α : Type} (cmp : α → α → Int) : ∀ (xs ys : List α) (b : Option α), x6 cmp b (xs ++ ys) = x6 cmp (x6 cmp b xs) ys
 | [], ys, b => by rw [List.nil_append]; cases b <;> rfl
 | x :: r, ys, none => by
  rw [List.cons_append, x6, x6]; exact L4 cmp r ys _
 | x :: r, ys, some y => by
  rw [List.cons_append, x6, x6]
  split
  ·exact L4 cmp r ys _
  ·exact L4 cmp r ys _
theorem zBR {α : Type} (cmp : α → α → Int) (x : α) : ∀ b : Option α, x6 cmp b [x] = match b with
  | none => some x
  | some y => if cmp x y < 0 then some x else some y
 | none => rfl
 | some y => by
  rw [x6]
  by_cases h : cmp x y < 0
  ·simp only [if_pos h, x6]
  ·simp only [if_neg h, x6]
def Z5 (l : List Rule) (to : Str) (n : Nat) (pre : List Str) (S : List Str × Option (List Str)) (s : Str) : List Str × Option (List Str) :=
 if s ∈ S.1 then S else (S.1 ++ [s], x6 zNM S.2 (o0 l to n s pre))
theorem B1 (l : List Rule) (to : Str) (n : Nat) (pre : List Str) : ∀ (L m m' : List Str) (B : Option (List Str)), (∀ x, x ∈ m ↔ x ∈ m') →
  (L.foldl (Z5 l to n pre) (m, B)).2 = x6 zNM B ((Y7 m' L).flatMap fun s => o0 l to n s pre)
 | [], m, m', B, _ => by
  simp only [List.foldl_nil, Y7, List.flatMap_nil]
  cases B <;> rfl
 | x :: r, m, m', B, h => by
  rw [List.foldl_cons, Y7]
  by_cases hx : x ∈ m'
  ·rw [if_pos hx, Z5, if_pos ((h x).2 hx)]
   exact B1 l to n pre r m m' B h
  ·rw [if_neg hx, Z5, if_neg (fun k => hx ((h x).1 k)), List.flatMap_cons, L4]
   exact B1 l to n pre r _ _ _ (fun y => by simp only [List.mem_append, List.mem_cons, List.not_mem_nil, or_false, h y]; exact or_comm)
theorem zFa (l : List Rule) (to : Str) (n : Nat) (now : Str) (pre : List Str) (B : Option (List Str)) :
  ((p9 l now).foldl (Z5 l to n (pre ++ [now])) ([], B)).2 = x6 zNM B (o0 l to (n + 1) now pre) := by
 rw [B1 l to n (pre ++ [now]) (p9 l now) [] [] B (fun _ => Iff.rfl), o0, H8]
def zNd (m : List Str) (x : Str) : List Str := if x ∈ m then m else m ++ [x]
theorem zGa {m : List Str} {x y : Str} : y ∈ zNd m x ↔ y ∈ m ∨ y = x := by
 unfold zNd
 split
 ·rename_i h
  constructor
  ·exact .inl
  ·rintro (h2 | rfl)
   ·exact h2
   ·exact h
 ·rw [List.mem_append, List.mem_singleton]
def zNZ (k : Str) (m : List Str) (now : Str) : List Str := if now.length < k.length then zNd m now else m
def goC (k : Str) : Nat → List Str → Str → Nat → List Str
 | 0, m, now, _ => zNZ k m now
 | n + 1, m, now, at_ => (List.range' at_ (k.length - at_)).foldl (fun m i => goC k n m (now ++ [k.getD i 0]) (i + 1)) (zNZ k m now)
def Q0 (k : Str) (n : Nat) (m : List Str) (now : Str) (i : Nat) : List Str := (List.range' i (k.length - i)).foldl (fun m i => goC k n m (now ++ [k.getD i 0]) (i + 1)) m
theorem B7 (k : Str) (n : Nat) (m : List Str) (now : Str) (i : Nat) : goC k (n + 1) m now i = Q0 k n (zNZ k m now) now i := rfl
theorem G0 {k : Str} {n : Nat} {m : List Str} {now : Str} {i : Nat} (h : k.length ≤ i) : Q0 k n m now i = m := by
 unfold Q0
 rw [show k.length - i = 0 by omega]; rfl
theorem B6 {k : Str} {n : Nat} {m : List Str} {now : Str} {i : Nat} (h : i < k.length) : Q0 k n m now i = Q0 k n (goC k n m (now ++ [k.getD i 0]) (i + 1)) now (i + 1) := by
 unfold Q0
 rw [show k.length - i = (k.length - (i + 1)) + 1 by omega, List.range'_succ, List.foldl_cons]
theorem mem_metC {k : Str} {m : List Str} {now x : Str} : x ∈ zNZ k m now ↔ x ∈ m ∨ (x = now ∧ x.length < k.length) := by
 unfold zNZ
 split
 ·rename_i h
  rw [zGa]
  constructor
  ·rintro (h1 | rfl)
   ·exact .inl h1
   ·exact .inr ⟨rfl, h⟩
  ·rintro (h1 | ⟨rfl, _⟩)
   ·exact .inl h1
   ·exact .inr rfl
 ·rename_i h
  constructor
  ·exact .inl
  ·rintro (h1 | ⟨rfl, h1⟩)
   ·exact h1
   ·exact absurd h1 h
theorem zAF {k : Str} : ∀ {n : Nat} {m : List Str} {now : Str} {i : Nat} {x : Str}, k.length - i ≤ n → (x ∈ goC k n m now i ↔ x ∈ m ∨ ∃ t : Str, t.Sublist (k.drop i) ∧ x = now ++ t ∧ x.length < k.length)
 | 0, m, now, i, x, h => by
  rw [goC, mem_metC, List.drop_eq_nil_of_le (by omega)]
  constructor
  ·rintro (h1 | ⟨rfl, h1⟩)
   ·exact .inl h1
   ·exact .inr ⟨[], List.Sublist.refl _, by simp, h1⟩
  ·rintro (h1 | ⟨t, ht, rfl, h1⟩)
   ·exact .inl h1
   ·rw [List.sublist_nil.1 ht] at h1 ⊢
    exact .inr ⟨by simp, h1⟩
 | n + 1, m, now, i, x, h => by
  have key : ∀ (d i : Nat) (m : List Str), k.length - i = d → d ≤ n + 1 → (x ∈ Q0 k n m now i ↔ x ∈ m ∨ ∃ t : Str, t ≠ [] ∧ t.Sublist (k.drop i) ∧ x = now ++ t ∧ x.length < k.length) := by
   intro d
   induction d with
   | zero =>
    intro i m hi _
    rw [G0 (by omega), List.drop_eq_nil_of_le (by omega)]
    constructor
    ·exact .inl
    ·rintro (h1 | ⟨t, hn, ht, _⟩)
     ·exact h1
     ·exact absurd (List.sublist_nil.1 ht) hn
   | succ d ih =>
    intro i m hi hd
    have hlt : i < k.length := by omega
    rw [B6 hlt, ih (i + 1) _ (by omega) (by omega), zAF (by omega)]
    have hdr : k.drop i = k.getD i 0 :: k.drop (i + 1) := by
     rw [List.drop_eq_getElem_cons hlt]; simp [List.getD, hlt]
    rw [hdr]
    constructor
    ·rintro ((h1 | ⟨t, ht, rfl, h1⟩) | ⟨t, hn, ht, rfl, h1⟩)
     ·exact .inl h1
     ·exact .inr ⟨k.getD i 0 :: t, by simp, ht.cons_cons _, by simp, h1⟩
     ·exact .inr ⟨t, hn, ht.cons _, rfl, h1⟩
    ·rintro (h1 | ⟨t, hn, ht, rfl, h1⟩)
     ·exact .inl (.inl h1)
     ·cases ht with
      | cons _ ht => exact .inr ⟨t, hn, ht, rfl, h1⟩
      | cons_cons _ ht => exact .inl (.inr ⟨_, ht, by simp, h1⟩)
  rw [B7, key _ i _ rfl (by omega), mem_metC]
  constructor
  ·rintro ((h1 | ⟨rfl, h1⟩) | ⟨t, _, h2⟩)
   ·exact .inl h1
   ·exact .inr ⟨[], List.nil_sublist _, by simp, h1⟩
   ·exact .inr ⟨t, h2⟩
  ·rintro (h1 | ⟨t, ht, rfl, h1⟩)
   ·exact .inl (.inl h1)
   ·by_cases hn : t = []
    ·subst hn
     exact .inl (.inr ⟨by simp, h1⟩)
    ·exact .inr ⟨t, hn, ht, rfl, h1⟩
def V1 (k : Str) : List Str := goC k k.length [] (k.take 1) 1
theorem zCM {k x : Str} : x ∈ V1 k ↔ Z6 k x := by
 unfold V1 Z6
 rw [zAF (by omega)]
 simp
end Go.Abs

namespace Go.Abs
open Go Go.Proofs Tryz
attribute [local irreducible] y4 Hold y9
theorem zB2 : Maps.Keyed prog 90 := Maps.Keyed.of_law (WideMaps.string_law (by kernel_rfl))
abbrev zNO (s : Str) : Value := .string ⟨s.toArray⟩
theorem G3 (s : Str) (hs : s.length ≤ 1000) : zNm prog 90 (zNO s) := by
 have hu : prog.underlying 90 = some .string := by kernel_rfl
 unfold zNm keyOf
 rw [hu]
 simp [mapKey, hu, maxLen]
 omega
theorem sKey_inj {a b : Str} : zNO a = zNO b ↔ a = b := by simp [zNO]
theorem B8 (h : Str) : ∀ hs : List Str, zNW (zNO h) (hs.map zNO) = if h ∈ hs then some (hs.idxOf h) else none
 | [] => by simp [zNW]
 | x :: r => by
  have ih := B8 h r
  rw [List.map_cons]
  unfold zNW
  by_cases e : x = h
  ·subst e; simp
  ·have e' : ¬ zNO x = zNO h := fun k => e (sKey_inj.1 k)
   rw [if_neg e', ih]
   by_cases hm : h ∈ r
   ·rw [if_pos hm, if_pos (by simp [hm])]
    have hb : (x == h) = false := by simpa using e
    simp [List.idxOf_cons, hb]
   ·rw [if_neg hm, if_neg (by simp only [List.mem_cons, not_or]; exact ⟨fun k => e k.symm, hm⟩)]; rfl
theorem zGQ (m : List Str) (s : Str) : Q1 (m.map zNO) (m.map fun _ => bV true) (zNO s) (bV false) = bV (decide (s ∈ m)) := by
 unfold Q1; rw [B8]
 by_cases hm : s ∈ m
 ·rw [if_pos hm]
  have hlt := List.idxOf_lt_length_of_mem hm
  simp [hlt, hm]
 ·rw [if_neg hm]; simp [hm]
theorem zGz (m : List Str) (s : Str) : zN5 (m.map zNO) (zNO s) = (zNd m s).map zNO ∧ zN6 (m.map zNO) (m.map fun _ => bV true) (zNO s) (bV true) = (zNd m s).map fun _ => bV true := by
 unfold zN5 zN6 zNd
 rw [B8]
 by_cases hm : s ∈ m
 ·rw [if_pos hm, if_pos hm]
  refine ⟨rfl, ?_⟩
  have hlt := List.idxOf_lt_length_of_mem hm
  apply List.ext_getElem (by simp)
  intro i h1 h2
  simp [List.getElem_set]
 ·rw [if_neg hm, if_neg hm]
  simp
theorem zCO : zNr prog 155 = some (90, 4) := by kernel_rfl
theorem zCJ {m : List Str} {s : Str} {o : Nat} {H : Nat → AObj} {K : Cont} (hm : ∀ x, x ∈ m → x.length ≤ 1000) (hs : s.length ≤ 1000) (ho : H o = .mapo (m.map zNO) (m.map fun _ => bV true)) (hk : K (bV (decide (s ∈ m))) [o] []) : X1 prog 155 (.mp o) (sV s) false H K := by
 have hz : zeroT prog 4 = some (.bool false) := by kernel_rfl
 unfold X1
 rw [zCO]
 simp only [zNz, hz, ho]
 refine ⟨zB2, G3 s hs, by simp [Value.cells, Value.oneCell'], fun q hq => ?_, ?_⟩
 ·obtain ⟨k, hk, rfl⟩ := List.mem_map.1 hq; exact G3 k (hm k hk)
 ·have e : zAV (.bool false) = bV false := rfl
  rw [e, zGQ]; simpa using hk
theorem zAj {m : List Str} {s : Str} {o : Nat} {H : Nat → AObj} {K : Cont} (hm : ∀ x, x ∈ m → x.length ≤ 1000) (hs : s.length ≤ 1000) (ho : H o = .mapo (m.map zNO) (m.map fun _ => bV true)) (hk : K (.tup []) [o] [(o, .mapo ((zNd m s).map zNO) ((zNd m s).map fun _ => bV true))]) : Y0 prog 155 (.mp o) (sV s) (bV true) H K := by
 unfold Y0
 rw [zCO]
 simp only [zNz, ho]
 obtain ⟨h1, h2⟩ := zGz m s
 refine ⟨zB2, G3 s hs, fun q hq => ?_, .raw _, rfl, ?_⟩
 ·obtain ⟨k, hk, rfl⟩ := List.mem_map.1 hq; exact G3 k (hm k hk)
 ·have e : zNH H 3 (bV true) = (bV true, []) := rfl
  rw [e, h1, h2]; simpa [u6] using hk
theorem zAU (l : List Str) (h1 : l.length ≤ 4294967296) : zNF prog 148 [y7 l] [] (.own 0 1 0 l.length) [.row 1 (l.map sV)] := by
 cases l with
 | nil =>
  refine zIs (fun a c => ?_)
  refine q9 func148 rfl (fun E hE => ?_); simp only [go_sem, ntmps148]
  repeat' (first | (refine Qr rfl ?_; try intro _ hK; try simp only [go_sem, *]) | refine Qh rfl ?_ | (refine Qc rfl rfl ?_ ?_ <;> (intro hb; have hc := hb; try simp only [go_sem] at hc)) | refine q8 rfl ?_ | ((with_reducible apply And.intro); focus omega) | (refine q7 hK ?_; clear hK; simp only [go_sem, *]) | simp only [q6, z8, go_sem, *])
  ·refine ⟨[_], [none], [], ⟨rfl, trivial⟩, ?_⟩
   simp only [go_sem, *]
   simp
  ·refine ⟨[_], [some 1], [], ⟨rfl, trivial⟩, ?_⟩
   simp only [go_sem, *]
 | cons x r =>
  have h2 : r.length + 1 ≤ 4294967296 := by simpa using h1
  refine q9 func148 rfl (fun E hE => ?_); simp only [go_sem, ntmps148]
  repeat' (first | (refine Qr rfl ?_; try intro _ hK; try simp only [go_sem, *]) | refine Qh rfl ?_ | (refine Qc rfl rfl ?_ ?_ <;> (intro hb; have hc := hb; try simp only [go_sem] at hc)) | refine q8 rfl ?_ | ((with_reducible apply And.intro); focus omega) | (refine q7 hK ?_; clear hK; simp only [go_sem, *]) | simp only [q6, z8, go_sem, *])
  all_goals try contradiction
  refine ⟨fun y hy => ?_, fun y hy => ?_, by omega, by omega, ?_⟩
  ·obtain ⟨z, _, rfl⟩ := List.mem_map.1 hy
   simp [go_sem]
  ·obtain ⟨z, _, rfl⟩ := List.mem_map.1 hy
   simp [go_sem]
  ·repeat' (first | (refine Qr rfl ?_; try intro _ hK; try simp only [go_sem, *]) | refine Qh rfl ?_ | (refine Qc rfl rfl ?_ ?_ <;> (intro hb; have hc := hb; try simp only [go_sem] at hc)) | refine q8 rfl ?_ | ((with_reducible apply And.intro); focus omega) | (refine q7 hK ?_; clear hK; simp only [go_sem, *]) | simp only [q6, z8, go_sem, *])
   refine ⟨[_], [some 1], [], ⟨rfl, trivial⟩, ?_⟩
   simp only [go_sem, *]
end Go.Abs

namespace Go.Abs
open Go Go.Proofs Tryz
attribute [local irreducible] y4 Hold y9
noncomputable def zBP : Code := sub [0, 1, 0, 1, 1, 1] (W9 Tryz.f124)
noncomputable def f0 (fn : FuncId) : LoopK := ⟨fn, #[10], N2 zBP, N3 zBP, 23⟩
def p4 : Option (List Str) → AV
 | none => .raw (.slice none 0 0)
 | some c => y7 c
@[go_sem] theorem zKG : p4 none = .raw (.slice none 0 0) := rfl
@[go_sem] theorem zEA (c : List Str) : p4 (some c) = .list (c.map sV) := rfl
@[go_sem] theorem zJn (H : Nat → AObj) (m : List (Option Nat)) (ex : List Nat) (B : Option (List Str)) : XpF H m ex (p4 B) (p4 B) ↔ True := by cases B <;> simp [p4, XpF]
@[go_sem] theorem zMU (f : Nat → Nat) (B : Option (List Str)) : AV.ren f (p4 B) = p4 B := by cases B <;> simp [p4, AV.ren]
@[go_sem] theorem zKQ (B : Option (List Str)) : (p4 B).cells = [p4 B] := by cases B <;> rfl
@[go_sem] theorem zL3 (B : Option (List Str)) : (p4 B).one = true := by cases B <;> rfl
@[go_sem] theorem zKb (B : Option (List Str)) : (p4 B).flat = true := by cases B <;> rfl
@[go_sem] theorem zMo (B : Option (List Str)) : (p4 B).sized = true := by cases B <;> rfl
abbrev a8 : AV := fnV 126
abbrev zKR (c : List Str) : Prop := c.length ≤ 1000
theorem zJW (fn : FuncId) (c : List Str) : e7 prog [y7 c] [.loopo (f0 fn) [(3, .ptr 1 0), (6, .ptr 2 0), (7, .ptr 3 0)] (some none), .box [a8], .box [.raw (.slice none 0 0)], .box [bV false]] (bV true)
  [.loopo (f0 fn) [(3, .ptr 1 0), (6, .ptr 2 0), (7, .ptr 3 0)] (some none), .box [a8], .box [y7 c], .box [bV true]] := by
 refine S9 (L := f0 fn) (env := [(3, .ptr 1 0), (6, .ptr 2 0), (7, .ptr 3 0)]) (j := none) rfl rfl (fun E l hE => ?_)
 refine l5 rfl ?_
 simp only [f0, d8, go_sem]
 repeat' (first | (refine Qr (ops := _ :: _) rfl ?_; try intro _ hK; try simp only [go_sem, *]) | (refine Qi rfl rfl rfl rfl ?_ ?_ <;> (intro hb; (try intro _ hK); have hc := hb; try simp only [go_sem] at hc; simp only [go_sem, *])) | (refine Qb ?_ ?_; focus kernel_rfl) | ((with_reducible apply And.intro); focus omega) | (refine q7 hK ?_; clear hK; simp only [go_sem, *]) | simp only [q6, z8, go_sem, *])
 refine r9 ?_
 refine ⟨by simp only [go_sem], ?_⟩
 refine T9 (id := 1) rfl ?_
 refine Q2 rfl ?_
 refine l5 rfl ?_
 simp only [go_sem]
 repeat' (first | (refine Qr (ops := _ :: _) rfl ?_; try intro _ hK; try simp only [go_sem, *]) | (refine Qi rfl rfl rfl rfl ?_ ?_ <;> (intro hb; (try intro _ hK); have hc := hb; try simp only [go_sem] at hc; simp only [go_sem, *])) | (refine Qb ?_ ?_; focus kernel_rfl) | ((with_reducible apply And.intro); focus omega) | (refine q7 hK ?_; clear hK; simp only [go_sem, *]) | simp only [q6, z8, go_sem, *])
 refine r9 ?_
 refine U0 (t := true) rfl (by simp only [go_sem]) (fun _ => ?_) (fun h => by cases h)
 refine l5 rfl ?_
 simp only [go_sem]
 repeat' (first | (refine Qr (ops := _ :: _) rfl ?_; try intro _ hK; try simp only [go_sem, *]) | (refine Qi rfl rfl rfl rfl ?_ ?_ <;> (intro hb; (try intro _ hK); have hc := hb; try simp only [go_sem] at hc; simp only [go_sem, *])) | (refine Qb ?_ ?_; focus kernel_rfl) | ((with_reducible apply And.intro); focus omega) | (refine q7 hK ?_; clear hK; simp only [go_sem, *]) | simp only [q6, z8, go_sem, *])
 refine r9 ?_
 simp only [z8, go_sem]
 refine ⟨rfl, [some 0, some 1, some 2, some 3], [], ?_⟩
 simp only [go_sem, *]
theorem zJX (fn : FuncId) (b c : List Str) (hb1 : b.length ≤ 1000) (hc1 : c.length ≤ 1000) : e7 prog [y7 c] [.loopo (f0 fn) [(3, .ptr 1 0), (6, .ptr 2 0), (7, .ptr 3 0)] (some none), .box [a8], .box [y7 b], .box [bV true]] (bV true)
  [.loopo (f0 fn) [(3, .ptr 1 0), (6, .ptr 2 0), (7, .ptr 3 0)] (some none), .box [a8], .box [y7 (if zNM c b < 0 then c else b)], .box [bV true]] := by
 have hca : t7 prog 126 = true := by kernel_rfl
 have sc := zHp c b (by omega) (by omega)
 refine S9 (L := f0 fn) (env := [(3, .ptr 1 0), (6, .ptr 2 0), (7, .ptr 3 0)]) (j := none) rfl rfl (fun E l hE => ?_)
 refine l5 rfl ?_
 simp only [f0, d8, go_sem]
 repeat' (first | (refine Qr (ops := _ :: _) rfl ?_; try intro _ hK; try simp only [go_sem, *]) | (refine Qi rfl rfl rfl rfl ?_ ?_ <;> (intro hb; (try intro _ hK); have hc := hb; try simp only [go_sem] at hc; simp only [go_sem, *])) | (refine Qb ?_ ?_; focus kernel_rfl) | ((with_reducible apply And.intro); focus omega) | (refine q7 hK ?_; clear hK; simp only [go_sem, *]) | simp only [q6, z8, go_sem, *])
 refine r9 ?_
 refine ⟨by simp only [go_sem], ?_⟩
 refine T9 (id := 1) rfl ?_
 refine Q2 rfl ?_
 refine l5 rfl ?_
 simp only [go_sem]
 repeat' (first | (refine Qr (ops := _ :: _) rfl ?_; try intro _ hK; try simp only [go_sem, *]) | (refine Qi rfl rfl rfl rfl ?_ ?_ <;> (intro hb; (try intro _ hK); have hc := hb; try simp only [go_sem] at hc; simp only [go_sem, *])) | (refine Qb ?_ ?_; focus kernel_rfl) | ((with_reducible apply And.intro); focus omega) | (refine q7 hK ?_; clear hK; simp only [go_sem, *]) | simp only [q6, z8, go_sem, *])
 refine y5 sc ?_
 simp only [go_sem]
 repeat' (first | (refine Qr (ops := _ :: _) rfl ?_; try intro _ hK; try simp only [go_sem, *]) | (refine Qi rfl rfl rfl rfl ?_ ?_ <;> (intro hb; (try intro _ hK); have hc := hb; try simp only [go_sem] at hc; simp only [go_sem, *])) | (refine Qb ?_ ?_; focus kernel_rfl) | ((with_reducible apply And.intro); focus omega) | (refine q7 hK ?_; clear hK; simp only [go_sem, *]) | simp only [q6, z8, go_sem, *])
 refine r9 ?_
 refine U0 (t := decide (zNM c b < 0)) rfl (by simp only [go_sem]) (fun h => ?_) (fun h => ?_)
 ·rw [if_pos (by simpa using h)]
  refine l5 rfl ?_
  simp only [go_sem]
  repeat' (first | (refine Qr (ops := _ :: _) rfl ?_; try intro _ hK; try simp only [go_sem, *]) | (refine Qi rfl rfl rfl rfl ?_ ?_ <;> (intro hb; (try intro _ hK); have hc := hb; try simp only [go_sem] at hc; simp only [go_sem, *])) | (refine Qb ?_ ?_; focus kernel_rfl) | ((with_reducible apply And.intro); focus omega) | (refine q7 hK ?_; clear hK; simp only [go_sem, *]) | simp only [q6, z8, go_sem, *])
  refine r9 ?_
  simp only [z8, go_sem]
  refine ⟨rfl, [some 0, some 1, some 2, some 3], [], ?_⟩
  simp only [go_sem, *]
 ·rw [if_neg (by simpa using h)]
  refine J4 rfl ?_
  simp only [z8, go_sem]
  refine ⟨rfl, [some 0, some 1, some 2, some 3], [], ?_⟩
  simp only [go_sem, *]
theorem zJV (fn : FuncId) (B : Option (List Str)) (c : List Str) (hb1 : ∀ b, B = some b → b.length ≤ 1000) (hc1 : c.length ≤ 1000) : e7 prog [y7 c] [.loopo (f0 fn) [(3, .ptr 1 0), (6, .ptr 2 0), (7, .ptr 3 0)] (some none), .box [a8], .box [p4 B], .box [bV B.isSome]] (bV true)
  [.loopo (f0 fn) [(3, .ptr 1 0), (6, .ptr 2 0), (7, .ptr 3 0)] (some none), .box [a8], .box [p4 (x6 zNM B [c])], .box [bV (x6 zNM B [c]).isSome]] := by
 cases B with
 | none => exact zJW fn c
 | some b =>
  have := zJX fn b c (hb1 b rfl) hc1
  rw [zBR]
  by_cases h : zNM c b < 0
  ·simp only [if_pos h] at this ⊢; exact this
  ·simp only [if_neg h] at this ⊢; exact this
end Go.Abs

namespace Go.Abs
open Go Go.Proofs Tryz
attribute [local irreducible] y4 Hold y9
noncomputable def zBf : Code := sub [0, 1, 0, 1, 1, 1, 1] (W9 Tryz.f147)
noncomputable def P7 (fn : FuncId) : LoopK := ⟨fn, #[34], N2 zBf, N3 zBf, 45⟩
abbrev CS := List Str × Option (List Str)
structure ChainD where
 many : Int
 to : Str
 l : List Rule
 fnG : FuncId
 fnF : FuncId
noncomputable def o8 (o : Nat) (D : ChainD) (chain : List Str) (S : CS) : List AObj :=
 [.loopo (P7 D.fnG) [(11, .ptr (o + 11) 0), (10, .ptr (o + 10) 0), (6, .ptr (o + 5) 0), (9, .ptr (o + 13) 0)] (some none), .box [iV D.many], .box [sV D.to], .box [.yld (o + 6)], .box [w8 D.l],
  .box [.fn 147 [.ptr (o + 1) 0, .ptr (o + 2) 0, .ptr (o + 3) 0, .ptr (o + 4) 0, .ptr (o + 5) 0]],
  .loopo (f0 D.fnF) [(3, .ptr (o + 7) 0), (6, .ptr (o + 8) 0), (7, .ptr (o + 9) 0)] (some none), .box [a8], .box [p4 S.2], .box [bV S.2.isSome], .box [y7 chain], .box [.mp (o + 12)], .mapo (S.1.map zNO) (S.1.map fun _ => bV true), .box [bV false]]
structure UsesD where
 k : Str
 u : Str
 v : Str
 i : Nat
 j : Nat
 l : List Rule
 fnU : FuncId
abbrev zAL (u v : Str) : List AV := [.agg [sV u, sV v], .agg [sV v, sV u]]
noncomputable def zDJ : Code := sub [0, 1, 1, 0, 0, 1, 1, 0, 0, 1, 1, 0, 0, 1, 1, 0, 0, 1, 1] (W9 Tryz.f170)
noncomputable def E9 (fn : FuncId) : LoopK := ⟨fn, #[37], N2 zDJ, N3 zDJ, 44⟩
noncomputable def W2 (D : ChainD) (chain : List Str) (U : UsesD) (S : CS) : List AObj :=
 .loopo (E9 U.fnU) [(3, .ptr 15 0), (2, .ptr 16 0), (25, .own 17 2 0 2), (27, iV U.j), (26, iV 2), (11, iV U.i), (10, iV U.l.length), (9, w8 U.l)] (some none) :: (o8 1 D chain S ++ [.box [.yld 1], .box [sV U.k], .row 2 (zAL U.u U.v)])
attribute [go_sem] o8 W2
theorem zG8 {k a b : Str} {i : Nat} (h : i ≤ k.length) : X5 k a b i = (if a.isPrefixOf (k.drop i) = true ∧ x7 (k.take i ++ b ++ k.drop (i + a.length)) 1 12 = true then [k.take i ++ b ++ k.drop (i + a.length)] else []) ++ X5 k a b (i + 1) := by
 unfold X5
 rw [show k.length + 1 - i = (k.length + 1 - (i + 1)) + 1 by omega, List.range'_succ, List.flatMap_cons]
theorem zG7 {k a b : Str} {i : Nat} (h : k.length < i) : X5 k a b i = [] := by
 unfold X5
 rw [show k.length + 1 - i = 0 by omega]; rfl
theorem zCa {a x : Str} (h : a.isPrefixOf x = true) : a.length ≤ x.length := (List.isPrefixOf_iff_prefix.1 h).length_le
theorem zIe (D : ChainD) (chain : List Str) (U : UsesD) (zNS : CS → Prop) (step : CS → Str → CS)
  (hy : ∀ S s, zNS S → x7 s 1 12 = true → e7 prog [sV s] (W2 D chain U S) (bV true) (W2 D chain U (step S s))) (hg : ∀ S s, zNS S → x7 s 1 12 = true → zNS (step S s))
  (k a b : Str) (hk1 : k.length ≤ 1000) (ha : a.length ≤ 1000) (hb1 : b.length ≤ 1000) (S0 : CS) (hS : zNS S0) :
  zNF prog 190 [.yld 0, .ptr 18 0, .ptr 19 0, .ptr 20 0] (W2 D chain U S0 ++ [.box [sV k], .box [sV a], .box [sV b]]) (.tup []) (W2 D chain U ((j6 k a b).foldl step S0) ++ [.box [sV k], .box [sV a], .box [sV b]]) := by
 obtain ⟨T, hT⟩ : ∃ T, (j6 k a b).foldl step S0 = T := ⟨_, rfl⟩
 rw [hT]
 have h0 : (X5 k a b 0).foldl step S0 = T := hT
 clear hT
 simp only [W2, o8, List.cons_append, List.nil_append]
 refine q9 func190 rfl (fun E hE => ?_); simp only [go_sem, ntmps190]
 repeat' (first | (refine Qr rfl ?_; try intro _ hK; try simp only [go_sem, *]) | (refine Qi rfl rfl rfl rfl ?_ ?_ <;> (intro hb; (try intro _ hK); have hc := hb; try simp only [go_sem] at hc; simp only [go_sem, *])) | refine Qh rfl ?_ | (refine Qc rfl rfl ?_ ?_ <;> (intro hb; have hc := hb; try simp only [go_sem] at hc)) | refine q8 rfl ?_ | (refine Qb ?_ ?_; focus kernel_rfl) | ((with_reducible apply And.intro); focus omega) | (refine q7 hK ?_; clear hK; simp only [go_sem, *]) | simp only [q6, z8, go_sem, *])
 refine c7 rfl (k.length + 1) (fun i (S : CS) => (X5 k a b i).foldl step S = T ∧ zNS S) 40 (fun i S => [(10, iV i), (9, iV ((k.length + 1 : Nat) : Int)), (0, .yld 0), (1, .ptr 18 0), (2, .ptr 19 0), (3, .ptr 20 0)]) (fun i S => W2 D chain U S ++ [.box [sV k], .box [sV a], .box [sV b]]) [some 0, some 1, some 2, some 3, some 4, some 5, some 6, some 7, some 8, some 9, some 10, some 11, some 12, some 13, some 14, some 15, some 16, some 17, some 18, some 19, some 20] [] (S0) (by exact ⟨h0, hS⟩) ?_; intro i S hi hP
 obtain ⟨hP, hG⟩ := hP
 by_cases hi2 : i ≤ k.length
 ·have hp := zH0 (k.drop i) a (by simp; omega) (by omega)
  rw [zG8 hi2] at hP
  by_cases q : a.isPrefixOf (k.drop i) = true
  ·rw [q] at hp
   have hle := zCa q
   have hil : i + a.length ≤ k.length := by simp at hle; omega
   have hwl : IntKind.i64.wrap ((i : Int) + (a.length : Int)) = ((i + a.length : Nat) : Int) := by rw [wrap_i64 (by omega) (by omega)]; omega
   obtain ⟨t, ht⟩ : ∃ t, k.take i ++ b ++ k.drop (i + a.length) = t := ⟨_, rfl⟩
   have htl : t.length ≤ 3000 := by rw [← ht]; simp; omega
   have sl := E5 t 1 12 (by omega)
   rw [ht] at hP
   by_cases ql : x7 t 1 12 = true
   ·rw [if_pos ⟨q, ql⟩] at hP
    have hstep := hP
    rw [List.foldl_append] at hstep
    have hyt := hy S t hG ql
    have hgt := hg S t hG ql
    rw [ql] at sl
    clear q hle hP hg hy
    repeat' (first | ((refine I3 5 rfl rfl rfl ?_; simp only [List.take_succ_cons, List.take_zero, List.drop_succ_cons, List.drop_zero])) | (refine Qr rfl ?_; try intro _ hK; try simp only [go_sem, *]) | (refine Qi rfl rfl rfl rfl ?_ ?_ <;> (intro hb; (try intro _ hK); have hc := hb; try simp only [go_sem] at hc; simp only [go_sem, *])) | refine Qh rfl ?_ | refine Qd rfl (by kernel_rfl) ?_ | (refine Qc rfl rfl ?_ ?_ <;> (intro hb; have hc := hb; try simp only [go_sem] at hc)) | refine q8 rfl ?_ | (refine Qb ?_ ?_; focus kernel_rfl) | ((first | refine y5 (hp) ?_ | refine y5 (sl) ?_); simp only [go_sem, *]) | ((with_reducible apply And.intro); focus omega) | (refine q7 hK ?_; clear hK; simp only [go_sem, *]) | simp only [q6, z8, go_sem, *])
    all_goals first | contradiction | omega | skip
    refine zBi rfl rfl (by simp only [go_sem]) ?_
    refine D0 [0, 1, 2, 3, 4, 5, 6, 7, 8, 9, 10, 11, 12, 13, 14, 15, 16, 17] [] hyt rfl rfl (by simp) (by simp only [go_sem]) (by simp only [go_sem]) (by simp) (.inl rfl) (by simp [go_sem]) (by simp [go_sem]) ?_
    simp only [go_sem]
    repeat' (first | (refine Qr rfl ?_; try intro _ hK; try simp only [go_sem, *]) | (refine Qi rfl rfl rfl rfl ?_ ?_ <;> (intro hb; (try intro _ hK); have hc := hb; try simp only [go_sem] at hc; simp only [go_sem, *])) | refine Qh rfl ?_ | refine Qd rfl (by kernel_rfl) ?_ | (refine Qc rfl rfl ?_ ?_ <;> (intro hb; have hc := hb; try simp only [go_sem] at hc)) | refine q8 rfl ?_ | (refine Qb ?_ ?_; focus kernel_rfl) | ((with_reducible apply And.intro); focus omega) | (refine q7 hK ?_; clear hK; simp only [go_sem, *]) | simp only [q6, z8, go_sem, *])
    all_goals first | contradiction | omega | skip
    exact p5 (i' := i + 1) [some 0, some 1, some 2, some 3, some 4, some 5, some 6, some 7, some 8, some 9, some 10, some 11, some 12, some 13, some 14, some 15, some 16, some 17, some 18, some 19, some 20] [] (step S t) (by exact ⟨hstep, hgt⟩)
   ·have ql2 : x7 t 1 12 = false := (Bool.not_eq_true _).mp ql
    rw [if_neg (fun h => ql h.2), List.nil_append] at hP
    rw [ql2] at sl
    clear q hle hg hy ql ql2
    repeat' (first | ((refine I3 5 rfl rfl rfl ?_; simp only [List.take_succ_cons, List.take_zero, List.drop_succ_cons, List.drop_zero])) | (refine Qr rfl ?_; try intro _ hK; try simp only [go_sem, *]) | (refine Qi rfl rfl rfl rfl ?_ ?_ <;> (intro hb; (try intro _ hK); have hc := hb; try simp only [go_sem] at hc; simp only [go_sem, *])) | refine Qh rfl ?_ | refine Qd rfl (by kernel_rfl) ?_ | (refine Qc rfl rfl ?_ ?_ <;> (intro hb; have hc := hb; try simp only [go_sem] at hc)) | refine q8 rfl ?_ | (refine Qb ?_ ?_; focus kernel_rfl) | ((first | refine y5 (hp) ?_ | refine y5 (sl) ?_); simp only [go_sem, *]) | ((with_reducible apply And.intro); focus omega) | (refine q7 hK ?_; clear hK; simp only [go_sem, *]) | simp only [q6, z8, go_sem, *])
    all_goals first | contradiction | omega | skip
    refine zBg rfl rfl (by simp only [go_sem]) ?_
    repeat' (first | (refine Qr rfl ?_; try intro _ hK; try simp only [go_sem, *]) | (refine Qi rfl rfl rfl rfl ?_ ?_ <;> (intro hb; (try intro _ hK); have hc := hb; try simp only [go_sem] at hc; simp only [go_sem, *])) | refine Qh rfl ?_ | refine Qd rfl (by kernel_rfl) ?_ | (refine Qc rfl rfl ?_ ?_ <;> (intro hb; have hc := hb; try simp only [go_sem] at hc)) | refine q8 rfl ?_ | (refine Qb ?_ ?_; focus kernel_rfl) | ((with_reducible apply And.intro); focus omega) | (refine q7 hK ?_; clear hK; simp only [go_sem, *]) | simp only [q6, z8, go_sem, *])
    all_goals first | contradiction | omega | skip
    exact p5 (i' := i + 1) [some 0, some 1, some 2, some 3, some 4, some 5, some 6, some 7, some 8, some 9, some 10, some 11, some 12, some 13, some 14, some 15, some 16, some 17, some 18, some 19, some 20] [] (S) (by exact ⟨hP, hG⟩)
  ·have q2 : a.isPrefixOf (k.drop i) = false := (Bool.not_eq_true _).mp q
   rw [if_neg (fun h => q h.1), List.nil_append] at hP
   rw [q2] at hp
   clear q q2
   repeat' (first | (refine Qr rfl ?_; try intro _ hK; try simp only [go_sem, *]) | (refine Qi rfl rfl rfl rfl ?_ ?_ <;> (intro hb; (try intro _ hK); have hc := hb; try simp only [go_sem] at hc; simp only [go_sem, *])) | refine Qh rfl ?_ | refine Qd rfl (by kernel_rfl) ?_ | (refine Qc rfl rfl ?_ ?_ <;> (intro hb; have hc := hb; try simp only [go_sem] at hc)) | refine q8 rfl ?_ | (refine Qb ?_ ?_; focus kernel_rfl) | (refine y5 (hp) ?_; simp only [go_sem, *]) | ((with_reducible apply And.intro); focus omega) | (refine q7 hK ?_; clear hK; simp only [go_sem, *]) | simp only [q6, z8, go_sem, *])
   all_goals first | contradiction | omega | skip
   exact p5 (i' := i + 1) [some 0, some 1, some 2, some 3, some 4, some 5, some 6, some 7, some 8, some 9, some 10, some 11, some 12, some 13, some 14, some 15, some 16, some 17, some 18, some 19, some 20] [] (S) (by exact ⟨hP, hG⟩)
 ·rw [zG7 (by omega)] at hP
  have hP : S = T := hP
  subst hP
  repeat' (first | (refine Qr rfl ?_; try intro _ hK; try simp only [go_sem, *]) | (refine Qi rfl rfl rfl rfl ?_ ?_ <;> (intro hb; (try intro _ hK); have hc := hb; try simp only [go_sem] at hc; simp only [go_sem, *])) | refine Qh rfl ?_ | refine Qd rfl (by kernel_rfl) ?_ | (refine Qc rfl rfl ?_ ?_ <;> (intro hb; have hc := hb; try simp only [go_sem] at hc)) | refine q8 rfl ?_ | (refine Qb ?_ ?_; focus kernel_rfl) | ((with_reducible apply And.intro); focus omega) | (refine q7 hK ?_; clear hK; simp only [go_sem, *]) | simp only [q6, z8, go_sem, *])
  all_goals first | contradiction | omega | skip
  refine ⟨[], [some 0, some 1, some 2, some 3, some 4, some 5, some 6, some 7, some 8, some 9, some 10, some 11, some 12, some 13, some 14, some 15, some 16, some 17, some 18, some 19, some 20], [], trivial, ?_⟩
  simp only [go_sem, f5, *]
end Go.Abs

namespace Go.Abs
open Go Go.Proofs Tryz
attribute [local irreducible] y4 Hold y9
theorem zId (k a b : Str) : zNF prog 171 [sV k, sV a, sV b] [] (.fn 190 [.ptr 0 0, .ptr 1 0, .ptr 2 0]) [.box [sV k], .box [sV a], .box [sV b]] := by
 refine q9 func171 rfl (fun E hE => ?_); simp only [go_sem, ntmps171]
 repeat' (first | (refine Qr rfl ?_; try intro _ hK; try simp only [go_sem, *]) | refine Qh rfl ?_ | (refine Qc rfl rfl ?_ ?_ <;> (intro hb; have hc := hb; try simp only [go_sem] at hc)) | refine q8 rfl ?_ | ((with_reducible apply And.intro); focus omega) | (refine q7 hK ?_; clear hK; simp only [go_sem, *]) | simp only [q6, z8, go_sem, *])
 refine ⟨[_], [some 0, some 1, some 2], [], ⟨rfl, trivial⟩, ?_⟩
 simp only [go_sem, *]
theorem zIn (k : Str) (l : List Rule) : zNF prog 149 [sV k, w8 l] [] (.fn 170 [.ptr 0 0, .ptr 1 0]) [.box [w8 l], .box [sV k]] := by
 refine q9 func149 rfl (fun E hE => ?_); simp only [go_sem, ntmps149]
 repeat' (first | (refine Qr rfl ?_; try intro _ hK; try simp only [go_sem, *]) | refine Qh rfl ?_ | (refine Qc rfl rfl ?_ ?_ <;> (intro hb; have hc := hb; try simp only [go_sem] at hc)) | refine q8 rfl ?_ | ((with_reducible apply And.intro); focus omega) | (refine q7 hK ?_; clear hK; simp only [go_sem, *]) | simp only [q6, z8, go_sem, *])
 refine ⟨[_], [some 1, some 0], [], ⟨rfl, trivial⟩, ?_⟩
 simp only [go_sem, *]
theorem zJd (D : ChainD) (chain : List Str) (U : UsesD) (S S' : CS) (s : Str) (hyG : e7 prog [sV s] (o8 0 D chain S) (bV true) (o8 0 D chain S')) : e7 prog [sV s] (W2 D chain U S) (bV true) (W2 D chain U S') := by
 refine S9 (L := E9 U.fnU) (env := [(3, .ptr 15 0), (2, .ptr 16 0), (25, .own 17 2 0 2), (27, iV U.j), (26, iV 2), (11, iV U.i), (10, iV U.l.length), (9, w8 U.l)]) (j := none) rfl rfl (fun E l hE => ?_)
 refine l5 rfl ?_
 simp only [E9, d8, go_sem]
 repeat' (first | (refine Qr (ops := _ :: _) rfl ?_; try intro _ hK; try simp only [go_sem, *]) | (refine Qi rfl rfl rfl rfl ?_ ?_ <;> (intro hb; (try intro _ hK); have hc := hb; try simp only [go_sem] at hc; simp only [go_sem, *])) | (refine Qb ?_ ?_; focus kernel_rfl) | ((with_reducible apply And.intro); focus omega) | (refine q7 hK ?_; clear hK; simp only [go_sem, *]) | simp only [q6, z8, go_sem, *])
 refine r9 ?_
 refine ⟨by simp only [go_sem], ?_⟩
 refine T9 (id := 5) rfl ?_
 refine Q2 rfl ?_
 refine zG1 2 rfl rfl rfl ?_
 simp only [List.take_succ_cons, List.take_zero, List.drop_succ_cons, List.drop_zero, go_sem]
 repeat' (first | (refine Qr (ops := _ :: _) rfl ?_; try intro _ hK; try simp only [go_sem, *]) | (refine Qi rfl rfl rfl rfl ?_ ?_ <;> (intro hb; (try intro _ hK); have hc := hb; try simp only [go_sem] at hc; simp only [go_sem, *])) | (refine Qb ?_ ?_; focus kernel_rfl) | ((with_reducible apply And.intro); focus omega) | (refine q7 hK ?_; clear hK; simp only [go_sem, *]) | simp only [q6, z8, go_sem, *])
 refine r9 ?_
 refine zBh rfl ?_
 refine ⟨by show 40 < 44; omega, ?_⟩
 simp only [go_sem]
 refine D0 [1, 2, 3, 4, 5, 6, 7, 8, 9, 10, 11, 12, 13, 14] [] hyG rfl rfl (by simp) (by simp only [go_sem]) (by simp only [go_sem]) (by simp) (.inl rfl) (by simp [go_sem]) (by simp [go_sem]) ?_
 simp only [go_sem]
 repeat' (first | (refine Qr (ops := _ :: _) rfl ?_; try intro _ hK; try simp only [go_sem, *]) | (refine Qi rfl rfl rfl rfl ?_ ?_ <;> (intro hb; (try intro _ hK); have hc := hb; try simp only [go_sem] at hc; simp only [go_sem, *])) | (refine Qb ?_ ?_; focus kernel_rfl) | ((with_reducible apply And.intro); focus omega) | (refine q7 hK ?_; clear hK; simp only [go_sem, *]) | simp only [q6, z8, go_sem, *])
 refine r9 ?_
 refine U0 (t := false) rfl (by simp only [go_sem]) (fun h => by cases h) (fun _ => ?_)
 refine J4 rfl ?_
 simp only [z8, go_sem]
 refine ⟨rfl, [some 0, some 1, some 2, some 3, some 4, some 5, some 6, some 7, some 8, some 9, some 10, some 11, some 12, some 13, some 14, some 15, some 16, some 17], [], ?_⟩
 simp only [go_sem, *]
theorem zJE {l : List Rule} {k : Str} {i : Nat} (h : i < l.length) : p9 (l.drop i) k = (j6 k (l.getD i default).src (l.getD i default).dst ++ j6 k (l.getD i default).dst (l.getD i default).src) ++ p9 (l.drop (i + 1)) k := by
 rw [j3 h]; rfl
def O7 (k u v : Str) : Nat → List Str
 | 0 => j6 k u v ++ j6 k v u
 | 1 => j6 k v u
 | _ => []
theorem zGt (k u v : Str) {j : Nat} (h : j < 2) : ∃ x y : Str, ([.agg [sV u, sV v], .agg [sV v, sV u]] : List AV).getD j .any = .agg [sV x, sV y] ∧ O7 k u v j = j6 k x y ++ O7 k u v (j + 1) ∧ (x = u ∧ y = v ∨ x = v ∧ y = u) := by
 rcases (by omega : j = 0 ∨ j = 1) with rfl | rfl
 ·exact ⟨u, v, rfl, rfl, .inl ⟨rfl, rfl⟩⟩
 ·exact ⟨v, u, rfl, by simp [O7], .inr ⟨rfl, rfl⟩⟩
theorem zBe {zNS : CS → Prop} {step : CS → Str → CS} (hg : ∀ S s, zNS S → x7 s 1 12 = true → zNS (step S s)) : ∀ (L : List Str) (S : CS), (∀ s, s ∈ L → x7 s 1 12 = true) → zNS S → zNS (L.foldl step S)
 | [], _, _, h => h
 | x :: r, S, hl, h => zBe hg r _ (fun s hs => hl s (by simp [hs])) (hg S x h (hl x (by simp)))
theorem zG9 {k a b s : Str} (h : s ∈ j6 k a b) : x7 s 1 12 = true := by
 obtain ⟨_, _, _, h, _⟩ := mem_replacedN.1 h; exact h
theorem zIo (D : ChainD) (chain : List Str) (zNS : CS → Prop) (step : CS → Str → CS)
    (hy : ∀ S s, zNS S → x7 s 1 12 = true → e7 prog [sV s] (o8 0 D chain S) (bV true) (o8 0 D chain (step S s))) (hg : ∀ S s, zNS S → x7 s 1 12 = true → zNS (step S s))
    (k : Str) (l : List Rule) (hk1 : k.length ≤ 1000) (hl : l.length ≤ 1000) (hr : ∀ r, r ∈ l → r.src.length ≤ 1000 ∧ r.dst.length ≤ 1000) (S0 : CS) (hS : zNS S0) :
    zNF prog 170 [.yld 0, .ptr 14 0, .ptr 15 0] (o8 0 D chain S0 ++ [.box [w8 l], .box [sV k]]) (.tup []) (o8 0 D chain ((p9 l k).foldl step S0) ++ [.box [w8 l], .box [sV k]]) := by
  obtain ⟨T, hT⟩ : ∃ T, (p9 l k).foldl step S0 = T := ⟨_, rfl⟩
  rw [hT]
  have h0 : (p9 (l.drop 0) k).foldl step S0 = T := hT
  clear hT
  simp only [o8, List.cons_append, List.nil_append]
  refine q9 func170 rfl (fun E hE => ?_); simp only [go_sem, ntmps170]
  repeat' (first | (refine Qr rfl ?_; try intro _ hK; try simp only [go_sem, *]) | refine Qh rfl ?_ | (refine Qc rfl rfl ?_ ?_ <;> (intro hb; have hc := hb; try simp only [go_sem] at hc)) | refine q8 rfl ?_ | ((with_reducible apply And.intro); focus omega) | (refine q7 hK ?_; clear hK; simp only [go_sem, *]) | simp only [q6, z8, go_sem, *])
  refine c7 rfl (l.length) (fun i (S : CS) => (p9 (l.drop i) k).foldl step S = T ∧ zNS S) 44 (fun i S => [(11, iV i), (10, iV l.length), (9, w8 l), (3, .ptr 16 0), (2, .ptr 15 0)]) (fun i S => o8 0 D chain S ++ [.box [w8 l], .box [sV k], .box [.yld 0]]) [some 0, some 1, some 2, some 3, some 4, some 5, some 6, some 7, some 8, some 9, some 10, some 11, some 12, some 13, some 14, some 15, some 16] [] (S0) (by exact ⟨h0, hS⟩) ?_; intro i S hi hP
  obtain ⟨hP, hG⟩ := hP
  by_cases hi2 : i < l.length
  · have hrl := hr _ (o7 hi2)
    rw [zJE hi2] at hP
    generalize hsu : (l.getD i default).src = u at *
    generalize hsv : (l.getD i default).dst = v at *
    rw [List.foldl_append] at hP
    have hQ0 : (p9 (l.drop (i + 1)) k).foldl step ((O7 k u v 0).foldl step S) = T := hP
    clear hP hr
    repeat' (first | (refine Qr rfl ?_; try intro _ hK; try simp only [go_sem, *]) | refine Qh rfl ?_ | (refine Qc rfl rfl ?_ ?_ <;> (intro hb; have hc := hb; try simp only [go_sem] at hc)) | refine q8 rfl ?_ | ((with_reducible apply And.intro); focus omega) | (refine q7 hK ?_; clear hK; simp only [go_sem, *]) | simp only [q6, z8, go_sem, *])
    refine c7 rfl (2) (fun j (S2 : CS) => (p9 (l.drop (i + 1)) k).foldl step ((O7 k u v j).foldl step S2) = T ∧ zNS S2) 44 (fun j S2 => [(27, iV j), (26, iV 2), (25, .own 17 2 0 2), (11, iV i), (10, iV l.length), (9, w8 l), (3, .ptr 16 0), (2, .ptr 15 0)]) (fun j S2 => o8 0 D chain S2 ++ [.box [w8 l], .box [sV k], .box [.yld 0], .row 2 (zAL u v)]) [some 0, some 1, some 2, some 3, some 4, some 5, some 6, some 7, some 8, some 9, some 10, some 11, some 12, some 13, some 14, some 15, some 16, some 18] [] (S) (by exact ⟨hQ0, hG⟩) ?_; intro j S2 hj hQ
    obtain ⟨hQ, hG2⟩ := hQ
    by_cases hj2 : j < 2
    · obtain ⟨x, y, hxy, hst, hlen⟩ := zGt k u v hj2
      rw [hst, List.foldl_append] at hQ
      have sr := zId k x y
      have hxl : x.length ≤ 1000 ∧ y.length ≤ 1000 := by
        rcases hlen with ⟨rfl, rfl⟩ | ⟨rfl, rfl⟩
        · exact hrl
        · exact ⟨hrl.2, hrl.1⟩
      have s1 := fun fn => zIe D chain ⟨k, u, v, i, j, l, fn⟩ zNS step (fun S s h1 h2 => zJd D chain _ S _ s (hy S s h1 h2)) hg k x y hk1 hxl.1 hxl.2 S2 hG2
      have hG3 := zBe hg (j6 k x y) S2 (fun s hs => zG9 hs) hG2
      obtain ⟨S3, hS3⟩ : ∃ S3, (j6 k x y).foldl step S2 = S3 := ⟨_, rfl⟩
      rw [hS3] at hQ hG3
      simp only [hS3] at s1
      clear hlen hst hS3 hy hg hrl hxl hG2
      repeat' (first | (refine Qr rfl ?_; try intro _ hK; try simp only [go_sem, *]) | refine Qh rfl ?_ | (refine Qc rfl rfl ?_ ?_ <;> (intro hb; have hc := hb; try simp only [go_sem] at hc)) | refine q8 rfl ?_ | ((with_reducible apply And.intro); focus omega) | (refine q7 hK ?_; clear hK; simp only [go_sem, *]) | simp only [q6, z8, go_sem, *])
      refine j1 sr ?_ (hu := by (intro j hj; simp only [List.length_cons, List.length_nil] at hj; (obtain rfl | rfl | rfl : j = 0 ∨ j = 1 ∨ j = 2 := by omega) <;> simp [go_sem]))
      simp only [go_sem, *]
      repeat' (first | (refine Qr rfl ?_; try intro _ hK; try simp only [go_sem, *]) | refine Qh rfl ?_ | (refine Qc rfl rfl ?_ ?_ <;> (intro hb; have hc := hb; try simp only [go_sem] at hc)) | refine q8 rfl ?_ | ((with_reducible apply And.intro); focus omega) | (refine q7 hK ?_; clear hK; simp only [go_sem, *]) | simp only [q6, z8, go_sem, *])
      refine T5 (N := 44) (env := [(36, .fn 190 [.ptr 18 0, .ptr 19 0, .ptr 20 0]), (27, iV j), (26, iV 2), (25, .own 17 2 0 2), (11, iV i), (10, iV l.length), (9, w8 l), (3, .ptr 16 0), (2, .ptr 15 0)]) (As := o8 0 D chain S2 ++ [.box [w8 l], .box [sV k], .box [.yld 0], .row 2 (zAL u v), .box [sV k], .box [sV x], .box [sV y]]) [some 0, some 1, some 2, some 3, some 4, some 5, some 6, some 7, some 8, some 9, some 10, some 11, some 12, some 13, some 14, some 15, some 16, some 17, some 19, some 20, some 21] [] (by (simp only [Weak, go_sem, List.map_append, List.map_set, *] <;> (try simp (disch := omega) only [t6]) <;> (try simp) <;> (try omega))) ?_
      refine E0 (f := 190) (caps := [.ptr 18 0, .ptr 19 0, .ptr 20 0]) rfl (by simp only [go_sem]) (by kernel_rfl) (nx := 21) (by simp only [go_sem]) (fun fn => ⟨22, ?_⟩)
      refine r7 [21, 0, 1, 2, 3, 4, 5, 6, 7, 8, 9, 10, 11, 12, 13, 16, 15, 17, 18, 19, 20] [] (s1 fn) (by simp) (by simp only [go_sem]) ?_ (by simp) (.inl rfl) (by simp [go_sem]) (by simp [go_sem]) ?_
      · simp only [go_sem, *]
        rfl
      · simp only [go_sem, *]
        refine ⟨E9 fn, [(3, .ptr 16 0), (2, .ptr 15 0), (25, .own 17 2 0 2), (27, iV j), (26, iV 2), (11, iV i), (10, iV l.length), (9, w8 l)], none, by simp only [go_sem], ?_⟩
        simp only [go_sem]
        repeat' (first | (refine Qr rfl ?_; try intro _ hK; try simp only [go_sem, *]) | refine Qh rfl ?_ | (refine Qc rfl rfl ?_ ?_ <;> (intro hb; have hc := hb; try simp only [go_sem] at hc)) | refine q8 rfl ?_ | ((with_reducible apply And.intro); focus omega) | (refine q7 hK ?_; clear hK; simp only [go_sem, *]) | simp only [q6, z8, go_sem, *])
        all_goals first | contradiction | omega | skip
        exact p5 (i' := j + 1) [some 0, some 1, some 2, some 3, some 4, some 5, some 6, some 7, some 8, some 9, some 10, some 11, some 12, some 13, some 14, some 15, some 16, some 17] [] (S3) (by exact ⟨hQ, hG3⟩)
    · have e2 : O7 k u v j = [] := by
        rcases (by omega : j = 2) with rfl
        rfl
      rw [e2] at hQ
      have hQ : (p9 (l.drop (i + 1)) k).foldl step S2 = T := hQ
      repeat' (first | (refine Qr rfl ?_; try intro _ hK; try simp only [go_sem, *]) | refine Qh rfl ?_ | (refine Qc rfl rfl ?_ ?_ <;> (intro hb; have hc := hb; try simp only [go_sem] at hc)) | refine q8 rfl ?_ | ((with_reducible apply And.intro); focus omega) | (refine q7 hK ?_; clear hK; simp only [go_sem, *]) | simp only [q6, z8, go_sem, *])
      all_goals first | contradiction | omega | skip
      exact p5 (i' := i + 1) [some 0, some 1, some 2, some 3, some 4, some 5, some 6, some 7, some 8, some 9, some 10, some 11, some 12, some 13, some 14, some 15, some 16] [] (S2) (by exact ⟨hQ, hG2⟩)
  · have e : l.drop i = [] := c0 (by omega)
    rw [e] at hP
    have hP : S = T := hP
    subst hP
    repeat' (first | (refine Qr rfl ?_; try intro _ hK; try simp only [go_sem, *]) | refine Qh rfl ?_ | (refine Qc rfl rfl ?_ ?_ <;> (intro hb; have hc := hb; try simp only [go_sem] at hc)) | refine q8 rfl ?_ | ((with_reducible apply And.intro); focus omega) | (refine q7 hK ?_; clear hK; simp only [go_sem, *]) | simp only [q6, z8, go_sem, *])
    all_goals first | contradiction | omega | skip
    refine ⟨[], [some 0, some 1, some 2, some 3, some 4, some 5, some 6, some 7, some 8, some 9, some 10, some 11, some 12, some 13, some 14, some 15], [], trivial, ?_⟩
    simp only [go_sem, f5, *]
end Go.Abs

namespace Go.Abs
open Go Go.Proofs Tryz
attribute [local irreducible] y4 Hold y9
noncomputable def i9 (o : Nat) (D : ChainD) (B : Option (List Str)) : List AObj :=
 [.box [iV D.many], .box [sV D.to], .box [.yld (o + 5)], .box [w8 D.l],
  .box [.fn 147 [.ptr o 0, .ptr (o + 1) 0, .ptr (o + 2) 0, .ptr (o + 3) 0, .ptr (o + 4) 0]],
  .loopo (f0 D.fnF) [(3, .ptr (o + 6) 0), (6, .ptr (o + 7) 0), (7, .ptr (o + 8) 0)] (some none), .box [a8], .box [p4 B], .box [bV B.isSome]]
attribute [go_sem] i9
abbrev P6 (s : Str) (chain : List Str) : List AV := [sV s, y7 chain, .ptr 0 0, .ptr 1 0, .ptr 2 0, .ptr 3 0, .ptr 4 0]
theorem zJc (D : ChainD) (chain : List Str) (S : CS) (s : Str) (hm : ∀ x, x ∈ S.1 → x.length ≤ 1000) (hs : s.length ≤ 1000) (h : s ∈ S.1) :
  e7 prog [sV s] (o8 0 D chain S) (bV true) (o8 0 D chain S) := by
 refine S9 (L := P7 D.fnG) (env := [(11, .ptr 11 0), (10, .ptr 10 0), (6, .ptr 5 0), (9, .ptr 13 0)]) (j := none) rfl rfl (fun E l hE => ?_)
 refine l5 rfl ?_
 simp only [P7, d8, go_sem]
 repeat' (first | (refine Qr (ops := _ :: _) rfl ?_; try intro _ hK; try simp only [go_sem, *]) | (refine Qi rfl rfl rfl rfl ?_ ?_ <;> (intro hb; (try intro _ hK); have hc := hb; try simp only [go_sem] at hc; simp only [go_sem, *])) | (refine Qb ?_ ?_; focus kernel_rfl) | ((with_reducible apply And.intro); focus omega) | (refine q7 hK ?_; clear hK; simp only [go_sem, *]) | simp only [q6, z8, go_sem, *])
 refine r9 ?_
 refine ⟨by simp only [go_sem], ?_⟩
 refine T9 (id := 1) rfl ?_
 refine Q2 rfl ?_
 refine Q2 rfl ?_
 refine l5 rfl ?_
 simp only [go_sem]
 repeat' (first | (refine Qr (ops := _ :: _) rfl ?_; try intro _ hK; try simp only [go_sem, *]) | (refine Qi rfl rfl rfl rfl ?_ ?_ <;> (intro hb; (try intro _ hK); have hc := hb; try simp only [go_sem] at hc; simp only [go_sem, *])) | (refine Qb ?_ ?_; focus kernel_rfl) | ((with_reducible apply And.intro); focus omega) | (refine q7 hK ?_; clear hK; simp only [go_sem, *]) | simp only [q6, z8, go_sem, *])
 refine zCJ hm hs (by simp only [go_sem]) ?_
 simp only [go_sem, *]
 repeat' (first | (refine Qr (ops := _ :: _) rfl ?_; try intro _ hK; try simp only [go_sem, *]) | (refine Qi rfl rfl rfl rfl ?_ ?_ <;> (intro hb; (try intro _ hK); have hc := hb; try simp only [go_sem] at hc; simp only [go_sem, *])) | (refine Qb ?_ ?_; focus kernel_rfl) | ((with_reducible apply And.intro); focus omega) | (refine q7 hK ?_; clear hK; simp only [go_sem, *]) | simp only [q6, z8, go_sem, *])
 refine r9 ?_
 refine U0 (t := true) rfl (by simp only [go_sem]) (fun _ => ?_) (fun h => by cases h)
 refine zG0 rfl ?_
 simp only [q6, z8, go_sem]
 refine ⟨rfl, [some 0, some 1, some 2, some 3, some 4, some 5, some 6, some 7, some 8, some 9, some 10, some 11, some 12, some 13], [], ?_⟩
 simp only [go_sem, *]
theorem zJb (D : ChainD) (chain : List Str) (S : CS) (B' : Option (List Str)) (s : Str) (hm : ∀ x, x ∈ S.1 → x.length ≤ 1000) (hs : s.length ≤ 1000) (h : s ∉ S.1)
  (sg : zNF prog 147 (P6 s chain) (i9 0 D S.2) (bV true) (i9 0 D B')) :
  e7 prog [sV s] (o8 0 D chain S) (bV true) (o8 0 D chain (S.1 ++ [s], B')) := by
 have hca : t7 prog 147 = true := by kernel_rfl
 have hput : zNd S.1 s = S.1 ++ [s] := by unfold zNd; rw [if_neg h]
 refine S9 (L := P7 D.fnG) (env := [(11, .ptr 11 0), (10, .ptr 10 0), (6, .ptr 5 0), (9, .ptr 13 0)]) (j := none) rfl rfl (fun E l hE => ?_)
 refine l5 rfl ?_
 simp only [P7, d8, go_sem]
 repeat' (first | (refine Qr (ops := _ :: _) rfl ?_; try intro _ hK; try simp only [go_sem, *]) | (refine Qi rfl rfl rfl rfl ?_ ?_ <;> (intro hb; (try intro _ hK); have hc := hb; try simp only [go_sem] at hc; simp only [go_sem, *])) | (refine Qb ?_ ?_; focus kernel_rfl) | ((with_reducible apply And.intro); focus omega) | (refine q7 hK ?_; clear hK; simp only [go_sem, *]) | simp only [q6, z8, go_sem, *])
 refine r9 ?_
 refine ⟨by simp only [go_sem], ?_⟩
 refine T9 (id := 1) rfl ?_
 refine Q2 rfl ?_
 refine Q2 rfl ?_
 refine l5 rfl ?_
 try simp only [go_sem]
 repeat' (first | (refine Qr (ops := _ :: _) rfl ?_; try intro _ hK; try simp only [go_sem, *]) | (refine Qi rfl rfl rfl rfl ?_ ?_ <;> (intro hb; (try intro _ hK); have hc := hb; try simp only [go_sem] at hc; simp only [go_sem, *])) | (refine Qb ?_ ?_; focus kernel_rfl) | ((with_reducible apply And.intro); focus omega) | (refine q7 hK ?_; clear hK; simp only [go_sem, *]) | simp only [q6, z8, go_sem, *])
 refine zCJ hm hs (by simp only [go_sem]) ?_
 simp only [go_sem, *]
 repeat' (first | (refine Qr (ops := _ :: _) rfl ?_; try intro _ hK; try simp only [go_sem, *]) | (refine Qi rfl rfl rfl rfl ?_ ?_ <;> (intro hb; (try intro _ hK); have hc := hb; try simp only [go_sem] at hc; simp only [go_sem, *])) | (refine Qb ?_ ?_; focus kernel_rfl) | ((with_reducible apply And.intro); focus omega) | (refine q7 hK ?_; clear hK; simp only [go_sem, *]) | simp only [q6, z8, go_sem, *])
 refine r9 ?_
 refine U0 (t := false) rfl (by simp only [go_sem]) (fun h => by cases h) (fun _ => ?_)
 refine J4 rfl ?_
 refine Q2 rfl ?_
 refine l5 rfl ?_
 try simp only [go_sem]
 repeat' (first | (refine Qr (ops := _ :: _) rfl ?_; try intro _ hK; try simp only [go_sem, *]) | (refine Qi rfl rfl rfl rfl ?_ ?_ <;> (intro hb; (try intro _ hK); have hc := hb; try simp only [go_sem] at hc; simp only [go_sem, *])) | (refine Qb ?_ ?_; focus kernel_rfl) | ((with_reducible apply And.intro); focus omega) | (refine q7 hK ?_; clear hK; simp only [go_sem, *]) | simp only [q6, z8, go_sem, *])
 refine zAj hm hs (by simp only [go_sem]) ?_
 rw [hput]
 repeat' (first | (refine Qr (ops := _ :: _) rfl ?_; try intro _ hK; try simp only [go_sem, *]) | (refine Qi rfl rfl rfl rfl ?_ ?_ <;> (intro hb; (try intro _ hK); have hc := hb; try simp only [go_sem] at hc; simp only [go_sem, *])) | (refine Qb ?_ ?_; focus kernel_rfl) | ((with_reducible apply And.intro); focus omega) | (refine q7 hK ?_; clear hK; simp only [go_sem, *]) | simp only [q6, z8, go_sem, *])
 refine r9 ?_
 refine Q2 rfl ?_
 refine l5 rfl ?_
 try simp only [go_sem]
 repeat' (first | (refine Qr (ops := _ :: _) rfl ?_; try intro _ hK; try simp only [go_sem, *]) | (refine Qi rfl rfl rfl rfl ?_ ?_ <;> (intro hb; (try intro _ hK); have hc := hb; try simp only [go_sem] at hc; simp only [go_sem, *])) | (refine Qb ?_ ?_; focus kernel_rfl) | ((with_reducible apply And.intro); focus omega) | (refine q7 hK ?_; clear hK; simp only [go_sem, *]) | simp only [q6, z8, go_sem, *])
 refine v8 [1, 2, 3, 4, 5, 6, 7, 8, 9] sg ?_
 simp only [go_sem, *]
 repeat' (first | (refine Qr (ops := _ :: _) rfl ?_; try intro _ hK; try simp only [go_sem, *]) | (refine Qi rfl rfl rfl rfl ?_ ?_ <;> (intro hb; (try intro _ hK); have hc := hb; try simp only [go_sem] at hc; simp only [go_sem, *])) | (refine Qb ?_ ?_; focus kernel_rfl) | ((with_reducible apply And.intro); focus omega) | (refine q7 hK ?_; clear hK; simp only [go_sem, *]) | simp only [q6, z8, go_sem, *])
 refine r9 ?_
 refine U0 (t := false) rfl (by simp only [go_sem]) (fun h => by cases h) (fun _ => ?_)
 refine J4 rfl ?_
 simp only [z8, go_sem]
 refine ⟨rfl, [some 0, some 1, some 2, some 3, some 4, some 5, some 6, some 7, some 8, some 9, some 10, some 11, some 12, some 13], [], ?_⟩
 simp only [go_sem, *]
end Go.Abs

namespace Go.Abs
open Go Go.Proofs Tryz
attribute [local irreducible] y4 Hold y9
theorem L5 {α : Type} {cmp : α → α → Int} : ∀ {L : List α} {B : Option α} {b : α}, x6 cmp B L = some b → B = some b ∨ b ∈ L
 | [], B, b, h => by cases B <;> exact .inl h
 | x :: r, none, b, h => by
  rw [x6] at h
  rcases L5 h with h | h
  ·cases h; exact .inr (by simp)
  ·exact .inr (by simp [h])
 | x :: r, some y, b, h => by
  rw [x6] at h
  split at h
  ·rcases L5 h with h | h
   ·cases h; exact .inr (by simp)
   ·exact .inr (by simp [h])
  ·rcases L5 h with h | h
   ·exact .inl h
   ·exact .inr (by simp [h])
@[go_sem] theorem zM6 (pre : List Str) (x : AV) : List.take (pre.length + 1) (List.map sV pre ++ [x]) = List.map sV pre ++ [x] := List.take_of_length_le (by simp)
def W3 (B : Option (List Str)) : Prop := ∀ b, B = some b → b.length ≤ 1000
theorem zEB {l : List Rule} {to now : Str} {n : Nat} {pre : List Str} {B : Option (List Str)} (h : pre.length + n ≤ 900) (hB : W3 B) : W3 (x6 zNM B (o0 l to n now pre)) := fun b hb => by
 rcases L5 hb with h1 | h1
 ·exact hB b h1
 ·obtain ⟨d, rfl, hd⟩ := mem_chainsN.1 h1
  have := zEW hd
  rw [List.length_append]; omega
theorem zIM (D : ChainD) (now : Str) (pre : List Str) (B : Option (List Str)) (hm : (pre.length : Int) = D.many) (hp : pre.length ≤ 100) (q : ¬ now = D.to) :
  zNF prog 147 (P6 now pre) (i9 0 D B) (bV true) (i9 0 D B) := by
 have sc := zAU pre (by omega)
 have g : D.many < ((pre.length + 1 : Nat) : Int) := by omega
 have hq : (now == D.to) = false := by simpa using q
 refine q9 func147 rfl (fun E hE => ?_); simp only [go_sem, ntmps147]
 repeat' (first | (refine Qr rfl ?_; try intro _ hK; try simp only [go_sem, *]) | (refine Qi rfl rfl rfl rfl ?_ ?_ <;> (intro hb; (try intro _ hK); have hc := hb; try simp only [go_sem] at hc; simp only [go_sem, *])) | refine Qh rfl ?_ | (refine j1 (sc) ?_; simp only [go_sem, *]) | ((with_reducible apply And.intro); focus omega) | (refine q7 hK ?_; clear hK; simp only [go_sem, *]) | simp only [q6, z8, go_sem, *])
 refine F9 rfl ⟨true, by simp only [go_sem, *], fun _ => ?_, fun e => by cases e⟩
 refine E1 rfl ?_
 refine I3 6 rfl rfl rfl ?_
 simp only [List.take_succ_cons, List.take_zero, List.drop_succ_cons, List.drop_zero]
 repeat' (first | (refine Qr (ops := _ :: _) rfl ?_; try intro _ hK; try simp only [go_sem, *]) | (refine Qi rfl rfl rfl rfl ?_ ?_ <;> (intro hb; (try intro _ hK); have hc := hb; try simp only [go_sem] at hc; simp only [go_sem, *])) | ((with_reducible apply And.intro); focus omega) | (refine q7 hK ?_; clear hK; simp only [go_sem, *]) | simp only [q6, z8, go_sem, *])
 refine r9 ?_
 refine zBg rfl rfl (by simp only [go_sem, *]) ?_
 refine ⟨by show 28 < 45; omega, ?_⟩
 simp only [go_sem, *]
 repeat' (first | (refine Qr rfl ?_; try intro _ hK; try simp only [go_sem, *]) | (refine Qi rfl rfl rfl rfl ?_ ?_ <;> (intro hb; (try intro _ hK); have hc := hb; try simp only [go_sem] at hc; simp only [go_sem, *])) | refine Qh rfl ?_ | (refine Qc rfl rfl ?_ ?_ <;> (intro hb; have hc := hb; try simp only [go_sem] at hc)) | refine q8 rfl ?_ | ((with_reducible apply And.intro); focus omega) | (refine q7 hK ?_; clear hK; simp only [go_sem, *]) | simp only [q6, z8, go_sem, *])
 refine ⟨[bV true], [some 0, some 1, some 2, some 3, some 4, some 5, some 6, some 7, some 8], [], ⟨by simp only [S1, go_sem], trivial⟩, ?_⟩
 simp only [go_sem, *]
theorem zIN (D : ChainD) (now : Str) (pre : List Str) (B : Option (List Str)) (hm : (pre.length : Int) = D.many) (hp : pre.length ≤ 100) (q : now = D.to) (hB : W3 B) :
  zNF prog 147 (P6 now pre) (i9 0 D B) (bV true) (i9 0 D (x6 zNM B [pre ++ [now]])) := by
 have sc := zAU pre (by omega)
 have g : D.many < ((pre.length + 1 : Nat) : Int) := by omega
 have hq : (now == D.to) = true := by simpa using q
 have sy := zJV D.fnF B (pre ++ [now]) hB (by simp; omega)
 generalize x6 zNM B [pre ++ [now]] = B' at *
 clear q
 refine q9 func147 rfl (fun E hE => ?_); simp only [go_sem, ntmps147]
 repeat' (first | (refine Qr rfl ?_; try intro _ hK; try simp only [go_sem, *]) | (refine Qi rfl rfl rfl rfl ?_ ?_ <;> (intro hb; (try intro _ hK); have hc := hb; try simp only [go_sem] at hc; simp only [go_sem, *])) | refine Qh rfl ?_ | (refine j1 (sc) ?_; simp only [go_sem, *]) | ((with_reducible apply And.intro); focus omega) | (refine q7 hK ?_; clear hK; simp only [go_sem, *]) | simp only [q6, z8, go_sem, *])
 refine T5 (N := 45) (env := [(21, bV true), (0, sV now), (3, .ptr 1 0), (4, .ptr 2 0), (10, .ptr 10 0), (9, .ptr 9 0)]) (As := i9 0 D B ++ [.box [bV false], .box [y7 (pre ++ [now])]]) [some 0, some 1, some 2, some 3, some 4, some 5, some 6, some 7, some 8, some 9, some 13] [12] (by (simp only [Weak, go_sem, List.map_append, List.map_set, *] <;> (try simp (disch := omega) only [t6]) <;> (try simp) <;> (try omega))) ?_
 refine F9 rfl ⟨true, by simp only [go_sem, *], fun _ => ?_, fun e => by cases e⟩
 refine E1 rfl ?_
 refine I3 6 rfl rfl rfl ?_
 simp only [List.take_succ_cons, List.take_zero, List.drop_succ_cons, List.drop_zero, go_sem]
 repeat' (first | (refine Qr (ops := _ :: _) rfl ?_; try intro _ hK; try simp only [go_sem, *]) | (refine Qi rfl rfl rfl rfl ?_ ?_ <;> (intro hb; (try intro _ hK); have hc := hb; try simp only [go_sem] at hc; simp only [go_sem, *])) | ((with_reducible apply And.intro); focus omega) | (refine q7 hK ?_; clear hK; simp only [go_sem, *]) | simp only [q6, z8, go_sem, *])
 refine r9 ?_
 refine zBi rfl rfl (by simp only [go_sem, *]) ?_
 refine ⟨by show 28 < 45; omega, ?_⟩
 simp only [go_sem]
 refine D0 [5, 6, 7, 8] [] sy rfl rfl (by simp) (by simp only [go_sem]) (by simp only [go_sem]) (by simp) (.inl rfl) (by simp [go_sem]) (by simp [go_sem]) ?_
 simp only [go_sem]
 repeat' (first | (refine Qr rfl ?_; try intro _ hK; try simp only [go_sem, *]) | (refine Qi rfl rfl rfl rfl ?_ ?_ <;> (intro hb; (try intro _ hK); have hc := hb; try simp only [go_sem] at hc; simp only [go_sem, *])) | refine Qh rfl ?_ | (refine Qc rfl rfl ?_ ?_ <;> (intro hb; have hc := hb; try simp only [go_sem] at hc)) | refine q8 rfl ?_ | ((with_reducible apply And.intro); focus omega) | (refine q7 hK ?_; clear hK; simp only [go_sem, *]) | simp only [q6, z8, go_sem, *])
 refine ⟨[bV true], [some 0, some 1, some 2, some 3, some 4, some 5, some 6, some 7, some 8], [], ⟨by simp only [S1, go_sem], trivial⟩, ?_⟩
 simp only [go_sem, *]
theorem zIO (D : ChainD) (n : Nat) (IH : ∀ (D : ChainD) (now : Str) (pre : List Str) (B : Option (List Str)), (pre.length : Int) + n = D.many → pre.length + n ≤ 100 → x7 now 1 12 = true → W3 B → D.l.length ≤ 1000 → (∀ r, r ∈ D.l → r.src.length ≤ 1000 ∧ r.dst.length ≤ 1000) →
      zNF prog 147 (P6 now pre) (i9 0 D B) (bV true) (i9 0 D (x6 zNM B (o0 D.l D.to n now pre))))
    (now : Str) (pre : List Str) (B : Option (List Str)) (hm : (pre.length : Int) + (n + 1 : Nat) = D.many) (hp : pre.length + (n + 1) ≤ 100) (hn : x7 now 1 12 = true) (hB : W3 B) (hl : D.l.length ≤ 1000) (hr : ∀ r, r ∈ D.l → r.src.length ≤ 1000 ∧ r.dst.length ≤ 1000) :
    zNF prog 147 (P6 now pre) (i9 0 D B) (bV true) (i9 0 D (x6 zNM B (o0 D.l D.to (n + 1) now pre))) := by
  have sc := zAU pre (by omega)
  have su := zIn now D.l
  have g : ¬ D.many < ((pre.length + 1 : Nat) : Int) := by omega
  have hnl : now.length ≤ 1000 := by
    unfold x7 at hn
    simp only [Bool.and_eq_true, decide_eq_true_eq] at hn
    omega
  have s1 : ∀ fn, zNF prog 170 [.yld 0, .ptr 14 0, .ptr 15 0] (o8 0 { D with fnG := fn } (pre ++ [now]) ([], B) ++ [.box [w8 D.l], .box [sV now]]) (.tup []) (o8 0 { D with fnG := fn } (pre ++ [now]) ((p9 D.l now).foldl (Z5 D.l D.to n (pre ++ [now])) ([], B)) ++ [.box [w8 D.l], .box [sV now]]) := fun fn =>
    zIo { D with fnG := fn } (pre ++ [now]) (fun S => (∀ x, x ∈ S.1 → x.length ≤ 1000) ∧ W3 S.2) (Z5 D.l D.to n (pre ++ [now]))
      (fun S s hG hs => by
        have hsl : s.length ≤ 1000 := by
          unfold x7 at hs
          simp only [Bool.and_eq_true, decide_eq_true_eq] at hs
          omega
        by_cases h : s ∈ S.1
        · have e : Z5 D.l D.to n (pre ++ [now]) S s = S := by unfold Z5; rw [if_pos h]
          rw [e]; exact zJc _ _ S s hG.1 hsl h
        · have e : Z5 D.l D.to n (pre ++ [now]) S s = (S.1 ++ [s], x6 zNM S.2 (o0 D.l D.to n s (pre ++ [now]))) := by unfold Z5; rw [if_neg h]
          rw [e]
          exact zJb _ _ S _ s hG.1 hsl h (IH { D with fnG := fn } s (pre ++ [now]) S.2 (by simp; omega) (by simp; omega) hs hG.2 hl hr))
      (fun S s hG hs => by
        have hsl : s.length ≤ 1000 := by
          unfold x7 at hs
          simp only [Bool.and_eq_true, decide_eq_true_eq] at hs
          omega
        unfold Z5
        split
        · exact hG
        · refine ⟨fun x hx => ?_, zEB (by simp; omega) hG.2⟩
          rcases List.mem_append.1 hx with hx | hx
          · exact hG.1 x hx
          · rw [List.mem_singleton.1 hx]; exact hsl)
      now D.l hnl hl hr ([], B) ⟨fun x hx => (by cases hx), hB⟩
  have e := zFa D.l D.to n now pre B
  obtain ⟨S', hS'⟩ : ∃ S', (p9 D.l now).foldl (Z5 D.l D.to n (pre ++ [now])) ([], B) = S' := ⟨_, rfl⟩
  rw [hS'] at e
  simp only [hS'] at s1
  rw [← e]
  clear e hS' IH hn hnl hr hB
  refine q9 func147 rfl (fun E hE => ?_); simp only [go_sem, ntmps147]
  repeat' (first | (refine Qr rfl ?_; try intro _ hK; try simp only [go_sem, *]) | (refine Qi rfl rfl rfl rfl ?_ ?_ <;> (intro hb; (try intro _ hK); have hc := hb; try simp only [go_sem] at hc; simp only [go_sem, *])) | refine Qh rfl ?_ | (refine j1 (sc) ?_; simp only [go_sem, *]) | ((with_reducible apply And.intro); focus omega) | (refine q7 hK ?_; clear hK; simp only [go_sem, *]) | simp only [q6, z8, go_sem, *])
  refine F9 rfl ⟨false, by simp only [go_sem, *], fun e => (by cases e), fun _ => ?_⟩
  repeat' (first | (refine Qr rfl ?_; try intro _ hK; try simp only [go_sem, *]) | (refine Qi rfl rfl rfl rfl ?_ ?_ <;> (intro hb; (try intro _ hK); have hc := hb; try simp only [go_sem] at hc; simp only [go_sem, *])) | refine Qh rfl ?_ | (refine Qc rfl rfl ?_ ?_ <;> (intro hb; have hc := hb; try simp only [go_sem] at hc)) | refine q8 rfl ?_ | ((with_reducible apply And.intro); focus omega) | (refine q7 hK ?_; clear hK; simp only [go_sem, *]) | simp only [q6, z8, go_sem, *])
  refine j1 su ?_ (hu := by (intro j hj; simp only [List.length_cons, List.length_nil] at hj; (obtain rfl | rfl : j = 0 ∨ j = 1 := by omega) <;> simp [go_sem]))
  simp only [go_sem, *]
  repeat' (first | (refine Qr rfl ?_; try intro _ hK; try simp only [go_sem, *]) | (refine Qi rfl rfl rfl rfl ?_ ?_ <;> (intro hb; (try intro _ hK); have hc := hb; try simp only [go_sem] at hc; simp only [go_sem, *])) | refine Qh rfl ?_ | (refine Qc rfl rfl ?_ ?_ <;> (intro hb; have hc := hb; try simp only [go_sem] at hc)) | refine q8 rfl ?_ | ((with_reducible apply And.intro); focus omega) | (refine q7 hK ?_; clear hK; simp only [go_sem, *]) | simp only [q6, z8, go_sem, *])
  refine T5 (N := 45) (env := [(33, .fn 170 [.ptr 13 0, .ptr 14 0]), (11, .ptr 11 0), (10, .ptr 10 0), (6, .ptr 4 0), (9, .ptr 9 0)]) (As := i9 0 D B ++ [.box [bV false], .box [y7 (pre ++ [now])], .box [.mp 12], .mapo [] [], .box [w8 D.l], .box [sV now]]) [some 0, some 1, some 2, some 3, some 4, some 5, some 6, some 7, some 8, some 9, some 13, some 15, some 14, some 16, some 17] [12] (by (simp only [Weak, go_sem, List.map_append, List.map_set, *] <;> (try simp (disch := omega) only [t6]) <;> (try simp) <;> (try omega))) ?_
  refine E0 (f := 170) (caps := [.ptr 13 0, .ptr 14 0]) rfl (by simp only [go_sem]) (by kernel_rfl) (nx := 15) (by simp only [go_sem]) (fun fn => ⟨16, ?_⟩)
  refine r7 [15, 0, 1, 2, 3, 4, 5, 6, 7, 8, 10, 11, 12, 9, 13, 14] [] (s1 fn) (by simp) (by simp only [go_sem]) ?_ (by simp) (.inl rfl) (by simp [go_sem]) (by simp [go_sem]) ?_
  · simp only [go_sem, *]
    rfl
  · simp only [go_sem, *]
    refine ⟨P7 fn, [(11, .ptr 11 0), (10, .ptr 10 0), (6, .ptr 4 0), (9, .ptr 9 0)], none, by simp only [go_sem], ?_⟩
    simp only [go_sem]
    repeat' (first | (refine Qr rfl ?_; try intro _ hK; try simp only [go_sem, *]) | (refine Qi rfl rfl rfl rfl ?_ ?_ <;> (intro hb; (try intro _ hK); have hc := hb; try simp only [go_sem] at hc; simp only [go_sem, *])) | refine Qh rfl ?_ | (refine Qc rfl rfl ?_ ?_ <;> (intro hb; have hc := hb; try simp only [go_sem] at hc)) | refine q8 rfl ?_ | ((with_reducible apply And.intro); focus omega) | (refine q7 hK ?_; clear hK; simp only [go_sem, *]) | simp only [q6, z8, go_sem, *])
    refine ⟨[bV true], [some 0, some 1, some 2, some 3, some 4, some 5, some 6, some 7, some 8], [], ⟨by simp only [S1, go_sem], trivial⟩, ?_⟩
    simp only [go_sem, *]
end Go.Abs

