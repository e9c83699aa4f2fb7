/-
  WHAT THE PROOF STANDS ON, PART 3: contracts of the program's functions and the logic that they are proved in. No condition.
-/
import Derived.Test.YteehcinnfiaklaaGreatDoorRows
import Derived.ProofKit
import Derived.OpenShut
import Derived.JoinedCond
import Derived.ChangeSlices
import Derived.Carry
import Derived.KernelRfl
import Derived.Shelf.Strings.OnBuilder
import Derived.Shelf.Strings.Runes
import Derived.Test.YteehcinnfiaklaaGreatDoorProg
import Derived.Test.YteehcinnfiaklaaGreatDoorCards
import Derived.Deep.DeepHandedRow
import Derived.Deep.DeepWitnessRowRef
import Derived.Lib.LaidCaseMet
import Derived.Maps.Keyed
import Derived.DeepKeys3
import Derived.Test.YteehcinnfiaklaaGreatDoorQF2
set_option maxRecDepth 100000
set_option maxHeartbeats 4000000
set_option linter.unusedVariables false
set_option linter.unusedSimpArgs false
set_option linter.unusedSectionVars false
namespace Go.Abs
open Go Go.Proofs Go.Proofs.YteehcinnfiaklaaGreatDoor Go.ChangeShapes Go.WideShapes Go.ChangeAt Go.RowKit
theorem zN6 : ownKnob Tryz.prog.godebug = none := by kernel_rfl
theorem zKu : laidOutB Tryz.prog = true := by kernel_rfl
abbrev zM1 (w : World) : Nat → Prop := fun b => b < w.heap.size
theorem zIn (w : World) : SR (b8 w (zM1 w) 0 (fun _ => .un)) (zM1 w) (fun _ => .un) (hs []) T3 w :=
 ⟨.nil, rfl, fun t => .pure (.any _), fun o => rfl, fun o o' b c c' h => by simp [hs, zMn, AS.obj, lkO, AObj.live] at h, fun b hb => hb, fun o b c h => by simp [hs, zMn, AS.obj, lkO, AObj.live] at h,
  ⟨rfl, rfl, rfl, Nat.le_refl _, fun b _ _ => rfl, fun _ => Nat.le_refl _, fun p hp => by simp [zBJ] at hp⟩, fun b hb => hb, fun b hb => .inl hb, fun k hk => absurd hk (Nat.not_lt_zero k)⟩
theorem zJ4 {f : FuncId} {args : List AV} (sp : zMf Tryz.prog f args [] (bV true) []) (w : World) (vs : Array Value) (hl : vs.size = args.length) (hv : ∀ i (h : i < args.length) (h' : i < vs.size), PR w (zM1 w) args[i] vs[i]) :
  Calls Tryz.prog f vs w fun e w' => e = .returned (.bool true) ∧ Below w.heap.size w w' := by
 refine (sp w (zM1 w) (fun _ => .un) vs (zIn w) hl (fun i h h' => .pure (hv i h h'))).mono ?_
 rintro e w' ⟨v, I', loc', rfl, hp⟩
 have hr := hp.val.raw_eq
 subst hr
 have fr := hp.sr.fr
 exact ⟨rfl, fr.os, fr.tape, fr.output, fr.size, fun k hk => fr.block k hk (fun ⟨j, c, hj, _⟩ => absurd hj (Nat.not_lt_zero j))⟩
theorem zGu {H : Type} (d : DataW H) : 1 ≤ Rows.uptoBulk d := by
 cases d with
 | lit l => cases l <;> simp [Rows.uptoBulk]
 | _ => simp [Rows.uptoBulk]
theorem length_le {H : Type} (l : List (DataW H)) : l.length ≤ Rows.uptoBulkAll l := by
 induction l with
 | nil => simp [Rows.uptoBulkAll]
 | cons x r ih => have := zGu x; simp only [Rows.uptoBulkAll, List.length_cons]; omega
theorem zJO {H : Type} {enc : TypeId × Value → H} {W : World} {v : Value} {d : DataW H} {ps : List MemPlace} (hval : Value.okWide Tryz.prog W .any 0 23 v ∨ ∃ base, Value.okWide Tryz.prog W .any base 23 v)
    (h : DataW.Trod enc Tryz.prog W 0 (fun _ => true) true 23 v d ps) (hk : Rows.uptoBulk d ≤ 1048576) : ∃ l : List Int, PR W (zM1 W) (.list (l.map iV)) v ∧ l.length ≤ 1048576 := by
  have hsl : ∃ a len cap, v = .slice a len cap := by
    rcases hval with hval | ⟨base, hval⟩
    · exact okWide_slice Tryz.underlying23 hval
    · exact okWide_slice Tryz.underlying23 hval
  obtain ⟨a, len, cap, rfl⟩ := hsl
  obtain ⟨fuel, hf⟩ := h
  have hc : Tryz.prog.cellsOf 3 = 1 := by kernel_rfl
  rcases open_ints Tryz.underlying23 Tryz.underlying3 hc hf with ⟨hcs, _⟩ | ⟨a0, len0, cap0, zs, hcs, _, hle, hm, hz, hx, hcell, hwz⟩
  · have e : Value.slice a len cap = .slice none 0 0 := by simpa [Value.cells] using hcs
    rw [e]
    exact ⟨[], .nil _ _, by simp⟩
  · have e : Value.slice a len cap = .slice (some a0) len0 cap0 := by simpa [Value.cells] using hcs
    rw [e]
    simp only [if_true] at hz
    have hd := congrArg Prod.fst hx
    simp only at hd
    subst hd
    have hlen : (zs.take len0).length = len0 := by simp; omega
    refine ⟨zs.take len0, ?_, ?_⟩
    · by_cases h0 : len0 = 0
      · subst h0; exact .nil _ _
      · have h1 := hcell 0 (by omega)
        have hspot : a0.spot = none := by
          unfold World.cell? at h1
          split at h1
          · split at h1
            · cases h1
            · rename_i hs
              simpa [Addr.add] using hs
          · cases h1
        have hblk : a0.block < W.heap.size := by
          unfold World.cell? at h1
          split at h1
          · rename_i hb
            have := (Array.getElem?_eq_some_iff.1 hb).1
            simpa [Addr.add] using this
          · cases h1
        obtain ⟨b, off, sp⟩ := a0
        simp only at hspot hblk
        subst hspot
        have key := PR.list (w := W) (I := zM1 W) b off cap0 1 ((zs.take len0).map iV) (fun i _ => .int .i64 (zs.getD i 0)) hblk (by omega) (by simp; omega) (fun i hi => by simp [AV.cells])
          (fun i j hi hj => by
            have hi' : i < zs.length := by simp at hi; omega
            have := hcell i hi'
            have hj0 : j = 0 := by omega
            subst hj0
            have ea : (⟨b, off, none⟩ : Addr).add i = ⟨b, off + i * 1 + 0, none⟩ := by
              unfold Addr.add
              split
              · rename_i h; subst h; simp
              · simp
            rw [ea] at this; exact this)
          (fun i hi j hj => by
            have hi' : i < zs.length := by simp at hi; omega
            have hj0 : j = 0 := by simp [AV.cells] at hj; omega
            subst hj0
            have e2 : (((zs.take len0).map iV)[i]).cells[0] = iV (zs.getD i 0) := by simp [AV.cells, List.getD, hi']
            rw [e2]
            exact .raw _ rfl)
        rw [List.length_map, hlen] at key
        exact key
    · have h1 : (zs.take len0).length ≤ Rows.uptoBulkAll (H := H) (lits .i64 (zs.take len0)) := by
        have := length_le (H := H) (lits .i64 (zs.take len0))
        simpa [lits] using this
      simp only [Rows.uptoBulk] at hk
      omega
end Go.Abs

namespace Go.Abs
open Go Go.Proofs Go.Proofs.YteehcinnfiaklaaGreatDoor Go.ChangeShapes Go.WideShapes Go.ChangeAt Go.RowKit
inductive Sh where
 | int
 | str
 | sl (b : Bool) (e : Sh)
 | st (body : Sh)
 | emp
 | cat (x y : Sh)
def Sh.n : Sh → Nat
 | .int => 1
 | .str => 1
 | .sl _ _ => 1
 | .st b => b.n
 | .emp => 0
 | .cat x y => x.n + y.n
def Sh.ok : Sh → TypeId ⊕ (List Field × Nat) → Prop
 | .int, .inl t => Tryz.prog.underlying t = some (.int .i64)
 | .str, .inl t => Tryz.prog.underlying t = some .string
 | .sl b e, .inl t => ∃ u, Tryz.prog.underlying t = some (.slice u) ∧ Tryz.prog.cellsOf u = e.n ∧ 0 < e.n ∧ (b = true → e.n = 1) ∧ e.ok (.inl u)
 | .st b, .inl t => ∃ fs, Tryz.prog.underlying t = some (.struct fs) ∧ Tryz.prog.cellsOf t = b.n ∧ b.ok (.inr (fs.toList, 0))
 | .emp, .inr (l, _) => l = []
 | .cat x y, .inr (l, off) => ∃ f r, l = f :: r ∧ f.offset = off ∧ Tryz.prog.cellsOf f.type = x.n ∧ x.ok (.inl f.type) ∧ y.ok (.inr (r, off + x.n))
 | _, _ => False
def TyC (N : Nat) : Sh → List AV → Prop
 | .int, c => ∃ n : Int, (Lit.int .i64 n).wf = true ∧ c = [iV n]
 | .str, c => ∃ s : Str, s.length ≤ N ∧ c = [sV s]
 | .sl b e, c => ∃ xs, c = [.list xs] ∧ xs.length ≤ N ∧ ∀ x, x ∈ xs → ∃ d, TyC N e d ∧ x = if b = true then d.getD 0 .any else .agg d
 | .st b, c => TyC N b c
 | .emp, c => c = []
 | .cat x y, c => ∃ c1 c2, c = c1 ++ c2 ∧ TyC N x c1 ∧ TyC N y c2
theorem TyC.len {N : Nat} : ∀ {s : Sh} {c : List AV}, TyC N s c → c.length = s.n
 | .int, c, ⟨n, _, h⟩ => by subst h; rfl
 | .str, c, ⟨n, _, h⟩ => by subst h; rfl
 | .sl b e, c, ⟨xs, h, _⟩ => by subst h; rfl
 | .st b, c, h => TyC.len (s := b) h
 | .emp, c, h => by cases (show c = [] from h); rfl
 | .cat x y, c, ⟨c1, c2, h, h1, h2⟩ => by subst h; rw [List.length_append, TyC.len h1, TyC.len h2]; rfl
end Go.Abs

namespace Go.Abs
open Go Go.Proofs Go.Proofs.YteehcinnfiaklaaGreatDoor Go.ChangeShapes Go.WideShapes Go.ChangeAt Go.RowKit
theorem zBX {H : Type} {d : DataW H} : ∀ {l : List (DataW H)}, d ∈ l → Rows.uptoBulk d ≤ Rows.uptoBulkAll l
 | x :: r, h => by
  simp only [Rows.uptoBulkAll]
  rcases List.mem_cons.1 h with rfl | h
  ·omega
  ·have := zBX h; omega
theorem zEZ {W : World} {a : Addr} {v : Value} (h : W.cell? a = some v) : a.spot = none ∧ a.block < W.heap.size := by
 unfold World.cell? at h
 split at h
 ·rename_i hb
  split at h
  ·cases h
  ·rename_i hs
   exact ⟨by simpa using hs, (Array.getElem?_eq_some_iff.1 hb).1⟩
 ·cases h
theorem pick {α : Type} [Inhabited α] {len : Nat} {p : Nat → α → Prop} (h : ∀ i, i < len → ∃ a, p i a) : ∃ F : Nat → α, ∀ i, i < len → p i (F i) :=
 ⟨fun i => if h' : i < len then Classical.choose (h i h') else default, fun i hi => by simp only [hi, dif_pos]; exact Classical.choose_spec (h i hi)⟩
theorem TyC.bare {N : Nat} : ∀ {s : Sh} {c : List AV}, TyC N s c → ∀ x, x ∈ c → x.cells = [x]
 | .int, c, ⟨n, _, h⟩, x, hx => by subst h; cases List.mem_singleton.1 hx; rfl
 | .str, c, ⟨n, _, h⟩, x, hx => by subst h; cases List.mem_singleton.1 hx; rfl
 | .sl b e, c, ⟨xs, h, _⟩, x, hx => by subst h; cases List.mem_singleton.1 hx; rfl
 | .st b, c, h, x, hx => TyC.bare (s := b) h x hx
 | .emp, c, h, x, hx => by cases (show c = [] from h); cases hx
 | .cat a b, c, ⟨c1, c2, h, h1, h2⟩, x, hx => by
  subst h
  rcases List.mem_append.1 hx with h | h
  ·exact TyC.bare h1 x h
  ·exact TyC.bare h2 x h
section
variable {H : Type} {enc : TypeId × Value → H} {W : World} {N : Nat}
noncomputable abbrev trd (enc : TypeId × Value → H) (W : World) (n : Nat) (t : TypeId) (cs : List Value) := DataW.trod enc Tryz.prog W 0 (fun _ => true) true n t cs
def T8 (W : World) (c : List AV) (cs : List Value) : Prop := c.length = cs.length ∧ ∀ i (h : i < c.length) (h' : i < cs.length), PR W (zM1 W) c[i] cs[i]
theorem zG7 {n : Nat} {t : TypeId} {cs : List Value} {x : DataW H × List MemPlace} (ht : Sh.ok .int (.inl t)) (h : trd enc W n t cs = some x) : ∃ c, TyC N .int c ∧ T8 W c cs := by
 obtain ⟨k, rfl, _, hw⟩ := DataW.trod_int ht h
 exact ⟨[iV k], ⟨k, hw, rfl⟩, rfl, fun i h h' => by
  have : i = 0 := by simp at h; omega
  subst this
  exact .raw _ rfl⟩
theorem zDD {n : Nat} {t : TypeId} {cs : List Value} {x : DataW H × List MemPlace} (ht : Sh.ok .str (.inl t)) (h : trd enc W n t cs = some x) (hk : Rows.uptoBulk x.1 ≤ N) : ∃ c, TyC N .str c ∧ T8 W c cs := by
 obtain ⟨b, rfl, rfl, _⟩ := DataW.trod_string ht h
 obtain ⟨l, rfl⟩ := zEQ b
 refine ⟨[sV l], ⟨l, ?_, rfl⟩, rfl, fun i h h' => ?_⟩
 ·simp [Rows.uptoBulk] at hk; omega
 ·have : i = 0 := by simp at h; omega
  subst this
  exact .raw _ rfl
theorem zG8 {e : Sh} {u : TypeId} {n : Nat} (b : Bool) (hu : Tryz.prog.cellsOf u = e.n) (h0 : 0 < e.n) (hb : b = true → e.n = 1)
  (ih : ∀ (cs : List Value) (x : DataW H × List MemPlace), trd enc W n u cs = some x → Rows.uptoBulk x.1 ≤ N → ∃ c, TyC N e c ∧ T8 W c cs)
  {a : Addr} {len cap : Nat} {elems : List (DataW H × List MemPlace)} (hlen : elems.length = len) (hcap : len ≤ cap) (hk : Rows.uptoBulkAll (elems.map (·.1)) ≤ N)
  (hel : ∀ i, i < len → (W.cells? 0 (a.add (i * Tryz.prog.cellsOf u)) (Tryz.prog.cellsOf u)).bind (trd enc W n u) = elems[i]?) :
  ∃ xs : List AV, xs.length ≤ N ∧ (∀ x, x ∈ xs → ∃ d, TyC N e d ∧ x = if b = true then d.getD 0 .any else .agg d) ∧ PR W (zM1 W) (.list xs) (.slice (some a) len cap) := by
 have hN : len ≤ N := by have := length_le (elems.map (·.1)); rw [List.length_map] at this; omega
 have each : ∀ i, i < len → ∃ cs : List Value, ∃ d : List AV, W.cells? 0 (a.add (i * e.n)) e.n = some cs ∧ TyC N e d ∧ T8 W d cs := fun i hi => by
  have h := hel i hi
  rw [List.getElem?_eq_getElem (by omega), hu, Option.bind_eq_some_iff] at h
  obtain ⟨cs, h1, h2⟩ := h
  obtain ⟨d, h3, h4⟩ := ih cs _ h2 (Nat.le_trans (zBX (List.mem_map.2 ⟨_, List.getElem_mem _, rfl⟩)) hk)
  exact ⟨cs, d, h1, h3, h4⟩
 obtain ⟨V, hV⟩ := pick each
 obtain ⟨D, hD⟩ := pick (p := fun i d => W.cells? 0 (a.add (i * e.n)) e.n = some (V i) ∧ TyC N e d ∧ T8 W d (V i)) hV
 have hcs : ∀ i, i < len → (if b = true then (D i).getD 0 .any else AV.agg (D i)).cells = D i := fun i hi => by
  cases b with
  | false => rfl
  | true =>
   have hl := (hD i hi).2.1.len
   rw [hb rfl] at hl
   obtain ⟨y, hy⟩ := List.length_eq_one_iff.1 hl
   rw [if_pos rfl, hy]
   exact (hD i hi).2.1.bare y (by rw [hy]; simp)
 refine ⟨(List.range len).map fun i => if b = true then (D i).getD 0 .any else .agg (D i), by simpa using hN, fun x hx => ?_, ?_⟩
 ·obtain ⟨i, hi, rfl⟩ := List.mem_map.1 hx
  exact ⟨D i, (hD i (List.mem_range.1 hi)).2.1, rfl⟩
 ·by_cases h0l : len = 0
  ·subst h0l; exact .nil _ _
  ·have rd : ∀ i j, i < len → j < e.n → W.cell? ((a.add (i * e.n)).add j) = (V i)[j]? := fun i j hi hj => (World.cells?_some (hD i hi).1).2.2 j hj
   have vl : ∀ i, i < len → (V i).length = e.n := fun i hi => (World.cells?_some (hD i hi).1).2.1
   have h00 : W.cell? ((a.add (0 * e.n)).add 0) = some ((V 0)[0]'(by rw [vl 0 (by omega)]; exact h0)) := by rw [rd 0 0 (by omega) h0, List.getElem?_eq_getElem]
   obtain ⟨hs, hblk⟩ := zEZ h00
   obtain ⟨bb, off, sp⟩ := a
   have hsp : sp = none := by simpa [Addr.add] using hs
   have hbb : bb < W.heap.size := by simpa [Addr.add] using hblk
   subst hsp
   have ad : ∀ i j, ((⟨bb, off, none⟩ : Addr).add (i * e.n)).add j = ⟨bb, off + i * e.n + j, none⟩ := fun i j => by
    have one : ∀ o k, (⟨bb, o, none⟩ : Addr).add k = ⟨bb, o + k, none⟩ := fun o k => by
     by_cases hk : k = 0
     ·subst hk; simp [Addr.add]
     ·simp [Addr.add, hk]
    rw [one, one]
   have gd : ∀ (l : List Value) (k : Nat) (h : k < l.length), l.getD k undef = l[k] := fun l k h => by simp [List.getD, h]
   have key := PR.list (w := W) (I := zM1 W) bb off cap e.n ((List.range len).map fun i => if b = true then (D i).getD 0 .any else .agg (D i)) (fun i j => (V i).getD j undef) hbb h0 (by simpa using hcap)
    (fun i hi => by
     have hi' : i < len := by simpa using hi
     rw [List.getElem_map, List.getElem_range, hcs i hi', (hD i hi').2.1.len])
    (fun i j hi hj => by
     have hi' : i < len := by simpa using hi
     have := rd i j hi' hj
     rw [ad, List.getElem?_eq_getElem (by rw [vl i hi']; exact hj)] at this
     rw [this, gd _ _ (by rw [vl i hi']; exact hj)])
    (fun i hi j hj => by
     have hi' : i < len := by simpa using hi
     have e2 : (((List.range len).map fun i => if b = true then (D i).getD 0 .any else .agg (D i))[i]).cells = D i := by
      rw [List.getElem_map, List.getElem_range]; exact hcs i hi'
     have hj2 : j < (D i).length := by rw [← e2]; exact hj
     have hj3 : j < (V i).length := by rw [← (hD i hi').2.2.1]; exact hj2
     have := (hD i hi').2.2.2 j hj2 hj3
     rw [gd _ _ hj3]
     simpa only [e2] using this)
   rw [List.length_map, List.length_range] at key
   exact key
theorem zDC : ∀ (s : Sh),
  (∀ (t : TypeId) (n : Nat) (cs : List Value) (x : DataW H × List MemPlace), s.ok (.inl t) → trd enc W n t cs = some x → Rows.uptoBulk x.1 ≤ N → ∃ c, TyC N s c ∧ T8 W c cs) ∧
  (∀ (l : List Field) (off n : Nat) (cs : List Value) (xs : List (DataW H × List MemPlace)), s.ok (.inr (l, off)) → xs.length = l.length → (∀ (i : Nat) (f : Field), l[i]? = some f → trd enc W n f.type ((cs.drop f.offset).take (Tryz.prog.cellsOf f.type)) = xs[i]?) →
   Rows.uptoBulkAll (xs.map (·.1)) ≤ N → cs.length = off + s.n → ∃ c, TyC N s c ∧ T8 W c (cs.drop off)) := by
 intro s
 induction s with
 | int => exact ⟨fun t n cs x ht h _ => zG7 ht h, fun l off n cs xs h => h.elim⟩
 | str => exact ⟨fun t n cs x ht h hk => zDD ht h hk, fun l off n cs xs h => h.elim⟩
 | sl b e ih =>
  refine ⟨fun t n cs x ht h hk => ?_, fun l off n cs xs h => h.elim⟩
  obtain ⟨u, ht, hu, h0, hb, he⟩ := ht
  rcases DataW.trod_slice ht h with ⟨rfl, _⟩ | ⟨a, len, cap, elems, rest, m, _, rfl, rfl, _, hl, _, hlen, hel, _, _⟩
  ·refine ⟨[.list []], ⟨[], rfl, Nat.zero_le _, fun x hx => by cases hx⟩, rfl, fun i h h' => ?_⟩
   have : i = 0 := by simp at h; omega
   subst this
   exact .nil _ _
  ·simp only [Rows.uptoBulk] at hk
   obtain ⟨xs, h1, h2, h3⟩ := zG8 b hu h0 hb (fun cs x hx hk => ih.1 u m cs x he hx hk) hlen hl (by omega) hel
   refine ⟨[.list xs], ⟨xs, rfl, h1, h2⟩, rfl, fun i h h' => ?_⟩
   have : i = 0 := by simp at h; omega
   subst this
   exact h3
 | st body ih =>
  refine ⟨fun t n cs x ht h hk => ?_, fun l off n cs xs h => h.elim⟩
  obtain ⟨fs, ht, hc, hb⟩ := ht
  obtain ⟨xs, m, _, rfl, hcl, hxl, hf⟩ := DataW.trod_struct ht h
  simp only [Rows.uptoBulk] at hk
  obtain ⟨c, h1, h2⟩ := ih.2 fs.toList 0 m cs xs hb (by simpa using hxl) (fun i f hi => hf i f (by simpa using hi)) (by omega) (by rw [hcl, hc]; simp)
  exact ⟨c, h1, by simpa using h2⟩
 | emp =>
  refine ⟨fun t n cs x ht => ht.elim, fun l off n cs xs h _ _ _ hl => ⟨[], rfl, ?_⟩⟩
  have : cs.drop off = [] := List.drop_eq_nil_of_le (by rw [hl]; exact Nat.le_refl _)
  rw [this]
  exact ⟨rfl, fun i h => by cases h⟩
 | cat a b iha ihb =>
  refine ⟨fun t n cs x ht => ht.elim, fun l off n cs xs h hxl hf hk hl => ?_⟩
  obtain ⟨f, r, rfl, ho, hc, ha, hb⟩ := h
  cases xs with
  | nil => simp at hxl
  | cons y ys =>
   simp only [List.map_cons, Rows.uptoBulkAll] at hk
   have h0 := hf 0 f rfl
   rw [ho, hc] at h0
   obtain ⟨c1, p1, p2⟩ := iha.1 f.type n _ y ha h0 (by omega)
   obtain ⟨c2, q1, q2⟩ := ihb.2 r (off + a.n) n cs ys hb (by simpa using hxl) (fun i g hi => by simpa using hf (i + 1) g (by simpa using hi)) (by omega) (by rw [hl]; simp only [Sh.n]; omega)
   refine ⟨c1 ++ c2, ⟨c1, c2, rfl, p1, q1⟩, ?_⟩
   have e : cs.drop off = (cs.drop off).take a.n ++ cs.drop (off + a.n) := by rw [← List.drop_drop, List.take_append_drop]
   rw [e]
   refine ⟨by rw [List.length_append, List.length_append, p2.1, q2.1], fun i h h' => ?_⟩
   by_cases hi : i < c1.length
   ·have hi' := hi
    rw [p2.1] at hi'
    rw [List.getElem_append_left hi, List.getElem_append_left hi']
    exact p2.2 i hi hi'
   ·have hi' : ((cs.drop off).take a.n).length ≤ i := by rw [← p2.1]; omega
    rw [List.getElem_append_right (by omega), List.getElem_append_right hi']
    have e1 : i - ((cs.drop off).take a.n).length = i - c1.length := by rw [p2.1]
    have := q2.2 (i - c1.length) (by simp at h; omega) (by rw [← q2.1]; simp at h; omega)
    simpa only [e1] using this
end
end Go.Abs

namespace Go.Abs
open Go
theorem Plate.lt_iff (a b : Plate) : a.lt b = true ↔ a.number < b.number ∨ (a.number = b.number ∧ a.letter < b.letter) := by simp [Plate.lt]
theorem House.lt_iff (a b : House) : a.lt b = true ↔ a.street < b.street ∨ (a.street = b.street ∧ (a.plate.number < b.plate.number ∨ (a.plate.number = b.plate.number ∧ a.plate.letter < b.plate.letter))) := by simp [House.lt, Plate.lt]
theorem Plate.lt_irrefl (a : Plate) : ¬ a.lt a = true := by rw [Plate.lt_iff]; omega
theorem House.lt_irrefl (a : House) : ¬ a.lt a = true := by rw [House.lt_iff]; omega
abbrev Strict (l : List House) : Prop := l.Pairwise (fun a b => a.lt b = true)
theorem Strict.nodup {l : List House} (h : Strict l) : l.Nodup := h.imp (fun {a b} hab e => by subst e; exact House.lt_irrefl _ hab)
theorem Valid.row {p : zMq} (v : Valid p) (s : Int) : Sound (P4 p s) := by
 unfold P4
 by_cases h : s.toNat < p.length
 ·exact v.rows _ (j9 h)
 ·simp only [List.getD_eq_getElem?_getD, List.getElem?_eq_none (Nat.le_of_not_lt h), Option.getD_none]
  show Sound []
  exact ⟨by simp, fun x hx => by simp at hx, List.Pairwise.nil⟩
end Go.Abs

namespace Go.Abs
open Go
structure Fit (p : zMq) (c : Change) : Prop where
 kind : 1 ≤ c.kind ∧ c.kind ≤ 7
 street : 0 ≤ c.street ∧ c.street < p.length
 other : c.kind = 4 ∨ c.kind = 7 → 0 ≤ c.other ∧ c.other < p.length ∧ c.other ≠ c.street
 fits : zBy p c = 0
theorem Sound.nodup {l : List Plate} (h : Sound l) : l.Nodup := h.sorted.imp (fun {a b} hab e => by subst e; exact Plate.lt_irrefl _ hab)
section
variable {p : zMq} {c : Change} {x : Plate}
end
end Go.Abs

namespace Go.Abs
open Go
end Go.Abs

namespace Go.Abs
open Go
abbrev u0 (a b : Str) : Bool := Op.bytesLess a b
theorem zA8 (a b : UInt8) (x y : Str) : u0 (a :: x) (b :: y) = (decide (a < b) || (a == b && u0 x y)) := rfl
theorem zA9 : ∀ a : Str, u0 a a = false
 | [] => rfl
 | a :: x => by rw [zA8, zA9 x]; simp
theorem zBA : ∀ {a b c : Str}, u0 a b = true → u0 b c = true → u0 a c = true
 | [], [], _, h, _ => by cases h
 | [], _ :: _, [], _, h => by cases h
 | [], _ :: _, _ :: _, _, _ => rfl
 | _ :: _, [], _, h, _ => by cases h
 | _ :: _, _ :: _, [], _, h => by cases h
 | a :: x, b :: y, c :: z, h1, h2 => by
  rw [zA8, Bool.or_eq_true, Bool.and_eq_true, decide_eq_true_eq, beq_iff_eq] at h1 h2 ⊢
  rw [UInt8.lt_iff_toNat_lt] at h1 h2 ⊢
  rcases h1 with h1 | ⟨rfl, h1⟩
  ·rcases h2 with h2 | ⟨rfl, h2⟩
   ·exact .inl (by omega)
   ·exact .inl h1
  ·rcases h2 with h2 | ⟨rfl, h2⟩
   ·exact .inl h2
   ·exact .inr ⟨rfl, zBA h1 h2⟩
theorem L8 : ∀ {a b : Str}, u0 a b = false → u0 b a = false → a = b
 | [], [], _, _ => rfl
 | [], _ :: _, h, _ => by cases h
 | _ :: _, [], _, h => by cases h
 | a :: x, b :: y, h1, h2 => by
  rw [zA8, Bool.or_eq_false_iff] at h1 h2
  have e1 : ¬ a < b := by simpa using h1.1
  have e2 : ¬ b < a := by simpa using h2.1
  rw [UInt8.lt_iff_toNat_lt] at e1 e2
  have e : a = b := UInt8.toNat_inj.1 (by omega)
  subst e
  have g1 : u0 x y = false := by simpa using h1.2
  have g2 : u0 y x = false := by simpa using h2.2
  rw [L8 g1 g2]
theorem zA7 {a b : Str} (h : u0 a b = true) : u0 b a = false := by
 cases e : u0 b a with
 | false => rfl
 | true => have := zBA h e; rw [zA9] at this; cases this
def zMj (a b : Str) : Int := if u0 a b = true then -1 else if u0 b a = true then 1 else 0
theorem cmpS_neg {a b : Str} : zMj a b < 0 ↔ u0 a b = true := by
 unfold zMj
 by_cases h : u0 a b = true
 ·rw [if_pos h]; simp [h]
 ·rw [if_neg h]
  split <;> simp [h]
theorem cmpS_zero {a b : Str} : zMj a b = 0 ↔ a = b := by
 unfold zMj
 constructor
 ·intro h
  by_cases h1 : u0 a b = true
  ·rw [if_pos h1] at h; cases h
  ·rw [if_neg h1] at h
   by_cases h2 : u0 b a = true
   ·rw [if_pos h2] at h; cases h
   ·exact L8 (by simpa using h1) (by simpa using h2)
 ·rintro rfl
  simp [zA9]
def y9 (c : UInt8) : Bool := decide (97 ≤ c.toNat) && decide (c.toNat ≤ 122)
def u9 (c : UInt8) : Bool := decide (65 ≤ c.toNat) && decide (c.toNat ≤ 90) && !(c == 72 || c == 81 || c == 87)
def v7 (c : UInt8) : Int := if y9 c = true then 1 else if u9 c = true then 2 else 0
def w8 (c : UInt8) : Str := if c = 67 then [99, 104] else if c = 74 then [106, 117] else if c = 88 then [115, 104] else if c = 89 then [106, 97] else if 65 ≤ c.toNat ∧ c.toNat ≤ 90 then [UInt8.ofNat (c.toNat + 32)] else [c]
def zMh (s : Str) : Str := s.flatMap w8
def l7 (s : Str) : Bool := s.all y9 || s.all u9
def x6 (s : Str) : Int := if s.length = 0 then 7 else if 6 < s.length then 10 else if l7 s = true then 0 else 2
structure ValidN (s : Str) : Prop where
 ne : 0 < s.length
 len : s.length ≤ 6
 form : l7 s = true
theorem checkN_zero {s : Str} : x6 s = 0 ↔ ValidN s := by
 unfold x6
 constructor
 ·intro h
  split at h
  ·cases h
  ·split at h
   ·cases h
   ·split at h
    ·rename_i h1 h2 h3; exact ⟨by omega, by omega, h3⟩
    ·cases h
 ·intro v
  have h1 := v.ne
  have h2 := v.len
  rw [if_neg (by omega), if_neg (by omega), if_pos v.form]
theorem zHe {c : UInt8} (h : y9 c = true) : w8 c = [c] := by
 unfold y9 at h
 rw [Bool.and_eq_true, decide_eq_true_eq, decide_eq_true_eq] at h
 have ne : ∀ d : UInt8, d.toNat < 97 → ¬ c = d := fun d hd e => by subst e; omega
 unfold w8
 rw [if_neg (ne 67 (by decide)), if_neg (ne 74 (by decide)), if_neg (ne 88 (by decide)), if_neg (ne 89 (by decide)), if_neg (by omega)]
theorem zAT : ∀ {s : Str}, s.all y9 = true → zMh s = s
 | [], _ => rfl
 | c :: r, h => by
  rw [List.all_cons, Bool.and_eq_true] at h
  show w8 c ++ zMh r = _
  rw [zHe h.1, zAT h.2]; rfl
theorem C9 (c : UInt8) : 1 ≤ (w8 c).length ∧ (w8 c).length ≤ 2 := by
 unfold w8
 repeat' split
 all_goals simp
theorem zAU : ∀ s : Str, s.length ≤ (zMh s).length ∧ (zMh s).length ≤ 2 * s.length
 | [] => by simp [zMh]
 | c :: r => by
  have h1 := C9 c
  have h2 := zAU r
  have e : zMh (c :: r) = w8 c ++ zMh r := rfl
  rw [e, List.length_append, List.length_cons]
  omega
theorem zHf {c : UInt8} (h : u9 c = true) : ∀ d, d ∈ w8 c → y9 d = true := by
 unfold u9 at h
 rw [Bool.and_eq_true, Bool.and_eq_true, decide_eq_true_eq, decide_eq_true_eq] at h
 obtain ⟨⟨h1, h2⟩, _⟩ := h
 unfold w8
 split
 ·decide
 ·split
  ·decide
  ·split
   ·decide
   ·split
    ·decide
    ·rw [if_pos ⟨h1, h2⟩]
     intro d hd
     rw [List.mem_singleton.1 hd]
     unfold y9
     have : (UInt8.ofNat (c.toNat + 32)).toNat = c.toNat + 32 := UInt8.toNat_ofNat_of_lt' (by show c.toNat + 32 < 256; omega)
     rw [this]
     simp; omega
theorem zGE {s : Str} (h : l7 s = true) : (zMh s).all y9 = true := by
 unfold l7 at h
 rw [Bool.or_eq_true] at h
 rcases h with h | h
 ·rw [zAT h]; exact h
 ·rw [List.all_eq_true] at h ⊢
  intro d hd
  obtain ⟨c, hc, hd⟩ := List.mem_flatMap.1 hd
  exact zHf (h c hc) d hd
def l6 (s : Str) : Int := v7 (s.getD 0 0)
def x9 (a b : Str) : Int := orI (zMj (zMh a) (zMh b)) (zMm (l6 a) (l6 b))
def V6 (a b : Str) : Bool := if zMh a = zMh b then y9 (a.getD 0 0) && !y9 (b.getD 0 0) else u0 (zMh a) (zMh b)
theorem ValidN.script {s : Str} (v : ValidN s) : l6 s = if y9 (s.getD 0 0) = true then 1 else 2 := by
 unfold l6 v7
 by_cases h : y9 (s.getD 0 0) = true
 ·rw [if_pos h, if_pos h]
 ·rw [if_neg h, if_neg h]
  have hm : s.getD 0 0 ∈ s := by
   cases s with
   | nil => have := v.ne; simp at this
   | cons c r => simp
  have hf := v.form
  unfold l7 at hf
  rw [Bool.or_eq_true, List.all_eq_true, List.all_eq_true] at hf
  rcases hf with hf | hf
  ·exact absurd (hf _ hm) h
  ·rw [if_pos (hf _ hm)]
theorem A8 {a b : Str} (va : ValidN a) (vb : ValidN b) : x9 a b < 0 ↔ V6 a b = true := by
 unfold x9 V6 orI
 by_cases h : zMh a = zMh b
 ·rw [if_pos (cmpS_zero.2 h), if_pos h, va.script, vb.script]
  cases y9 (a.getD 0 0) <;> cases y9 (b.getD 0 0) <;> simp [zMm]
 ·rw [if_neg (fun e => h (cmpS_zero.1 e)), if_neg h]
  exact cmpS_neg
theorem zEl (a b : Str) : -1 ≤ x9 a b ∧ x9 a b ≤ 1 := by
 unfold x9 orI zMj zMm
 repeat' split
 all_goals omega
end Go.Abs

namespace Go.Abs
open Go
structure Rule where
 src : Str
 dst : Str
 deriving DecidableEq, Inhabited
@[reducible] def Rule.enc (r : Rule) : AV := .agg [sV r.src, sV r.dst]
def w5 (s : Str) (lo hi : Nat) : Bool := decide (lo ≤ s.length) && (decide (s.length ≤ hi) && s.all y9)
def Rule.ok (r : Rule) : Bool := w5 r.src 1 2 && (w5 r.dst 0 2 && !(decide (r.src = r.dst)))
def o5 (l : List Rule) : Int := if 4 < l.length then 6 else if l.all Rule.ok = true then 0 else 2
def u7 : List Str → Int
 | [] => 0
 | s :: r => if x6 s = 0 then u7 r else x6 s
def v8 (l : List Str) : Int := if 6 < l.length then 6 else u7 l
def W7 (k a b : Str) (i : Nat) : List Str := (List.range' i (k.length + 1 - i)).flatMap fun i => if a.isPrefixOf (k.drop i) = true ∧ w5 (k.take i ++ b ++ k.drop (i + a.length)) 1 12 = true then [k.take i ++ b ++ k.drop (i + a.length)] else []
def i3 (k a b : Str) : List Str := W7 k a b 0
def o6 (l : List Rule) (k : Str) : List Str := l.flatMap fun r => i3 k r.src r.dst ++ i3 k r.dst r.src
def W0 (met : List Str) : List Str → List Str
 | [] => []
 | x :: r => if x ∈ met then W0 met r else x :: W0 (x :: met) r
theorem zAh : ∀ (l met : List Str) (x : Str), x ∈ W0 met l ↔ x ∈ l ∧ x ∉ met
 | [], met, x => by simp [W0]
 | y :: r, met, x => by
  rw [W0]
  split
  ·rename_i h
   rw [zAh r met x]
   constructor
   ·rintro ⟨h1, h2⟩; exact ⟨by simp [h1], h2⟩
   ·rintro ⟨h1, h2⟩
    refine ⟨?_, h2⟩
    rcases List.mem_cons.1 h1 with rfl | h1
    ·exact absurd h h2
    ·exact h1
  ·rename_i h
   rw [List.mem_cons, zAh r _ x]
   simp only [List.mem_cons, not_or]
   constructor
   ·rintro (rfl | ⟨h1, h2, h3⟩)
    ·exact ⟨.inl rfl, h⟩
    ·exact ⟨.inr h1, h3⟩
   ·rintro ⟨h1, h2⟩
    by_cases e : x = y
    ·exact .inl e
    ·exact .inr ⟨h1.resolve_left e, e, h2⟩
def F9 (l : List Str) : List Str := W0 [] l
theorem mem_dedupN {l : List Str} {x : Str} : x ∈ F9 l ↔ x ∈ l := by unfold F9; rw [zAh]; simp
def o8 (l : List Rule) (to : Str) : Nat → Str → List Str → List (List Str)
 | 0, now, pre => if now = to then [pre ++ [now]] else []
 | n + 1, now, pre => (F9 (o6 l now)).flatMap fun s => o8 l to n s (pre ++ [now])
inductive IsChain (l : List Rule) (to : Str) : Nat → Str → List Str → Prop
 | nil : IsChain l to 0 to [to]
 | cons {n : Nat} {s s' : Str} {c : List Str} : s' ∈ o6 l s → IsChain l to n s' c → IsChain l to (n + 1) s (s :: c)
theorem mem_chainsN {l : List Rule} {to : Str} : ∀ {n : Nat} {s : Str} {pre c : List Str}, c ∈ o8 l to n s pre ↔ ∃ d, c = pre ++ d ∧ IsChain l to n s d
 | 0, s, pre, c => by
  rw [o8]
  constructor
  ·intro h
   split at h
   ·rename_i e
    subst e
    exact ⟨[s], List.mem_singleton.1 h, .nil⟩
   ·cases h
  ·rintro ⟨d, rfl, h⟩
   cases h
   simp
 | n + 1, s, pre, c => by
  rw [o8, List.mem_flatMap]
  constructor
  ·rintro ⟨s', h1, h2⟩
   obtain ⟨d, rfl, h⟩ := mem_chainsN.1 h2
   exact ⟨s :: d, by simp, .cons (mem_dedupN.1 h1) h⟩
  ·rintro ⟨d, rfl, h⟩
   cases h with
   | cons h1 h2 => exact ⟨_, mem_dedupN.2 h1, mem_chainsN.2 ⟨_, by simp, h2⟩⟩
def zMi : List Str → List Str → Int
 | [], [] => 0
 | [], _ :: _ => -1
 | _ :: _, [] => 1
 | a :: x, b :: y => if zMj a b = 0 then zMi x y else zMj a b
theorem Y2 (a b : Str) : zMj b a = -zMj a b := by
 unfold zMj
 cases h : u0 a b with
 | true => rw [zA7 h]; simp
 | false => cases h2 : u0 b a <;> simp
theorem A7 : ∀ x y : List Str, zMi y x = -zMi x y
 | [], [] => rfl
 | [], _ :: _ => rfl
 | _ :: _, [] => rfl
 | a :: x, b :: y => by
  rw [zMi, zMi, Y2 a b]
  by_cases h : zMj a b = 0
  ·rw [if_pos h, if_pos (by omega), A7 x y]
  ·rw [if_neg h, if_neg (by omega)]
theorem zBe : ∀ {x y : List Str}, zMi x y = 0 → x = y
 | [], [], _ => rfl
 | [], _ :: _, h => by cases h
 | _ :: _, [], h => by cases h
 | a :: x, b :: y, h => by
  rw [zMi] at h
  split at h
  ·rename_i e; rw [cmpS_zero.1 e, zBe h]
  ·rename_i e; exact absurd h e
def x7 {α : Type} (cmp : α → α → Int) : Option α → List α → Option α
 | b, [] => b
 | none, x :: r => x7 cmp (some x) r
 | some y, x :: r => if cmp x y < 0 then x7 cmp (some x) r else x7 cmp (some y) r
def b9 {α : Type} (cmp : α → α → Int) (l : List α) : Option α := x7 cmp none l
def j3 {α : Type} (cmp : α → α → Int) (S : α → Prop) (b : α) : Prop := S b ∧ ∀ x, S x → ¬ cmp x b < 0
section
variable {α : Type} {cmp : α → α → Int} (tr : ∀ x y z, ¬ cmp x y < 0 → ¬ cmp y z < 0 → ¬ cmp x z < 0) (asy : ∀ x y, cmp x y < 0 → ¬ cmp y x < 0)
include tr asy
theorem zAF : ∀ (l : List α) (y : α), ∃ b, x7 cmp (some y) l = some b ∧ j3 cmp (fun x => x = y ∨ x ∈ l) b
 | [], y => ⟨y, rfl, .inl rfl, fun x hx => by
  rcases hx with rfl | hx
  ·exact fun h => asy _ _ h h
  ·cases hx⟩
 | x :: r, y => by
  rw [x7]
  split
  ·rename_i h
   obtain ⟨b, h1, h2, h3⟩ := zAF r x
   refine ⟨b, h1, ?_, fun z hz => ?_⟩
   ·rcases h2 with h2 | h2
    ·exact .inr (by simp [h2])
    ·exact .inr (by simp [h2])
   ·rcases hz with rfl | hz
    ·exact tr _ _ _ (asy _ _ h) (h3 x (.inl rfl))
    ·rcases List.mem_cons.1 hz with rfl | hz
     ·exact h3 _ (.inl rfl)
     ·exact h3 _ (.inr hz)
  ·rename_i h
   obtain ⟨b, h1, h2, h3⟩ := zAF r y
   refine ⟨b, h1, ?_, fun z hz => ?_⟩
   ·rcases h2 with h2 | h2
    ·exact .inl h2
    ·exact .inr (by simp [h2])
   ·rcases hz with rfl | hz
    ·exact h3 _ (.inl rfl)
    ·rcases List.mem_cons.1 hz with rfl | hz
     ·exact tr _ _ _ h (h3 y (.inl rfl))
     ·exact h3 _ (.inr hz)
theorem U7 {l : List α} (hl : l ≠ []) : ∃ b, b9 cmp l = some b ∧ j3 cmp (· ∈ l) b := by
 cases l with
 | nil => exact absurd rfl hl
 | cons x r =>
  obtain ⟨b, h1, h2, h3⟩ := zAF tr asy r x
  refine ⟨b, h1, ?_, fun z hz => h3 z ?_⟩
  ·rcases h2 with rfl | h2
   ·simp
   ·simp [h2]
  ·exact List.mem_cons.1 hz
end
theorem zAG {α : Type} {cmp : α → α → Int} : b9 cmp ([] : List α) = none := rfl
theorem zNX {x y z : Str} (h1 : ¬ zMj x y < 0) (h2 : ¬ zMj y z < 0) : ¬ zMj x z < 0 := by
 rw [cmpS_neg] at *
 intro h
 by_cases e : u0 y x = true
 ·exact h2 (zBA e h)
 ·have : x = y := L8 (by simpa using h1) (by simpa using e)
  subst this; exact h2 h
theorem zNn : ∀ {x y z : List Str}, ¬ zMi x y < 0 → ¬ zMi y z < 0 → ¬ zMi x z < 0
 | [], [], _, _, h => h
 | [], _ :: _, _, h, _ => absurd (by rw [zMi]; decide) h
 | _ :: _, [], [], _, _ => by rw [zMi]; decide
 | _ :: _, [], _ :: _, _, h => absurd (by rw [zMi]; decide) h
 | _ :: _, _ :: _, [], _, _ => by rw [zMi]; decide
 | a :: x, b :: y, c :: z, h1, h2 => by
  rw [zMi] at *
  have hab := Y2 a b
  have hbc := Y2 b c
  have hac := Y2 a c
  by_cases e1 : zMj a b = 0
  ·rw [if_pos e1] at h1
   rw [cmpS_zero.1 e1]
   by_cases e2 : zMj b c = 0
   ·rw [if_pos e2] at h2 ⊢
    exact zNn h1 h2
   ·rw [if_neg e2] at h2 ⊢
    exact h2
  ·rw [if_neg e1] at h1
   by_cases e2 : zMj b c = 0
   ·rw [if_pos e2] at h2
    rw [← cmpS_zero.1 e2, if_neg e1]; exact h1
   ·rw [if_neg e2] at h2
    have h3 := zNX h1 h2
    by_cases e3 : zMj a c = 0
    ·have : a = c := cmpS_zero.1 e3
     subst this
     omega
    ·rw [if_neg e3]; exact h3
theorem zEJ (x y : List Str) (h : zMi x y < 0) : ¬ zMi y x < 0 := by have := A7 x y; omega
theorem zGO {S : List Str → Prop} {a b : List Str} (ha : j3 zMi S a) (hb : j3 zMi S b) : a = b := by
 have h1 := ha.2 b hb.1
 have h2 := hb.2 a ha.1
 have := A7 a b
 exact zBe (by omega)
def b7 (l : List Rule) (n : Nat) (k to : Str) : Option (List Str) := b9 zMi (o8 l to n k [])
theorem chainN_some {l : List Rule} {n : Nat} {k to : Str} {c : List Str} : b7 l n k to = some c ↔ j3 zMi (IsChain l to n k) c := by
 have hm : ∀ x, x ∈ o8 l to n k [] ↔ IsChain l to n k x := fun x => by
  rw [mem_chainsN]
  exact ⟨fun ⟨d, e, h⟩ => by rw [e]; exact h, fun h => ⟨x, rfl, h⟩⟩
 unfold b7
 by_cases hl : o8 l to n k [] = []
 ·rw [hl, zAG]
  constructor
  ·intro h; cases h
  ·intro h
   have := (hm c).2 h.1
   rw [hl] at this; cases this
 ·obtain ⟨b, h1, h2, h3⟩ := U7 (cmp := zMi) (fun _ _ _ => zNn) zEJ hl
  have hb : j3 zMi (IsChain l to n k) b := ⟨(hm b).1 h2, fun x hx => h3 x ((hm x).2 hx)⟩
  rw [h1]
  constructor
  ·intro h; cases h; exact hb
  ·intro h; rw [zGO h hb]
def A0 (s : Str) : Option (List Str) → Str → Option (List Str) → Option (List Str)
 | best, _, none => best
 | none, _, some rest => some (s :: rest)
 | some b, x, some rest => if u0 x (b.getD 1 []) = true then some (s :: rest) else some b
def U0 (l : List Rule) (to : Str) : Nat → Str → Option (List Str)
 | 0, s => if s = to then some [s] else none
 | n + 1, s => (o6 l s).foldl (fun best x => A0 s best x (U0 l to n x)) none
theorem IsChain.head {l : List Rule} {to : Str} {n : Nat} {s : Str} {c : List Str} (h : IsChain l to n s c) : ∃ r, c = s :: r := by
 cases h with
 | nil => exact ⟨_, rfl⟩
 | cons _ _ => exact ⟨_, rfl⟩
def zND (l : List Rule) (to : Str) (n : Nat) (s : Str) (xs : List Str) (c : List Str) : Prop := ∃ x r, x ∈ xs ∧ c = s :: r ∧ IsChain l to n x r
theorem O7 (a : Str) (x y : List Str) : zMi (a :: x) (a :: y) = zMi x y := by rw [zMi, if_pos (cmpS_zero.2 rfl)]
theorem A5 {l : List Rule} {to : Str} : ∀ {n : Nat} {s : Str} {o : Option (List Str)}, U0 l to n s = o → match o with
    | none => ∀ c, ¬ IsChain l to n s c
    | some c => j3 zMi (IsChain l to n s) c
  | 0, s, o, h => by
    rw [U0] at h
    split at h
    · rename_i e
      subst h e
      refine ⟨.nil, fun x hx => ?_⟩
      cases hx
      rw [zMi, if_pos (cmpS_zero.2 rfl)]; decide
    · rename_i e
      subst h
      intro c hc
      cases hc
      exact e rfl
  | n + 1, s, o, h => by
    rw [U0] at h
    have key : ∀ (xs done : List Str) (b : Option (List Str)), (match b with
        | none => ∀ c, ¬ zND l to n s done c
        | some c => j3 zMi (zND l to n s done) c) →
        match xs.foldl (fun best x => A0 s best x (U0 l to n x)) b with
        | none => ∀ c, ¬ zND l to n s (done ++ xs) c
        | some c => j3 zMi (zND l to n s (done ++ xs)) c := by
      intro xs
      induction xs with
      | nil => intro done b hb; simpa using hb
      | cons x xs ih =>
        intro done b hb
        rw [List.foldl_cons, show done ++ x :: xs = (done ++ [x]) ++ xs by simp]
        apply ih
        have IH := A5 (l := l) (to := to) (n := n) (s := x) rfl
        cases hr : U0 l to n x with
        | none =>
          rw [hr] at IH
          have hov : ∀ c, zND l to n s (done ++ [x]) c ↔ zND l to n s done c := fun c => by
            constructor
            · rintro ⟨y, r, hy, rfl, hc⟩
              rcases List.mem_append.1 hy with hy | hy
              · exact ⟨y, r, hy, rfl, hc⟩
              · rw [List.mem_singleton.1 hy] at hc; exact absurd hc (IH r)
            · rintro ⟨y, r, hy, rfl, hc⟩
              exact ⟨y, r, by simp [hy], rfl, hc⟩
          cases b with
          | none => exact fun c hc => hb c ((hov c).1 hc)
          | some b => exact ⟨(hov b).2 hb.1, fun z hz => hb.2 z ((hov z).1 hz)⟩
        | some rest =>
          rw [hr] at IH
          obtain ⟨r0, rfl⟩ := IH.1.head
          have hnew : zND l to n s (done ++ [x]) (s :: x :: r0) := ⟨x, x :: r0, by simp, rfl, IH.1⟩
          cases b with
          | none =>
            show j3 zMi _ (s :: x :: r0)
            refine ⟨hnew, ?_⟩
            rintro z ⟨y, r, hy, rfl, hc⟩
            rcases List.mem_append.1 hy with hy | hy
            · exact absurd ⟨y, r, hy, rfl, hc⟩ (hb (s :: r))
            · rw [List.mem_singleton.1 hy] at hc
              rw [O7]; exact IH.2 _ hc
          | some b =>
            obtain ⟨⟨yb, rb, hyb, eb, hcb⟩, hleast⟩ := hb
            obtain ⟨rb0, rfl⟩ := hcb.head
            subst eb
            simp only [A0, List.getD_cons_succ, List.getD_cons_zero]
            by_cases hlt : u0 x yb = true
            · rw [if_pos hlt]
              refine ⟨hnew, ?_⟩
              rintro z ⟨y, r, hy, rfl, hc⟩
              rcases List.mem_append.1 hy with hy | hy
              · have h1 := hleast (s :: r) ⟨y, r, hy, rfl, hc⟩
                refine zNn h1 ?_
                rw [O7, zMi]
                have h2 := cmpS_neg.2 hlt
                have h3 := Y2 x yb
                rw [if_neg (by omega)]; omega
              · rw [List.mem_singleton.1 hy] at hc
                rw [O7]; exact IH.2 _ hc
            · rw [if_neg hlt]
              refine ⟨⟨yb, yb :: rb0, by simp [hyb], rfl, hcb⟩, ?_⟩
              rintro z ⟨y, r, hy, rfl, hc⟩
              rcases List.mem_append.1 hy with hy | hy
              · exact hleast (s :: r) ⟨y, r, hy, rfl, hc⟩
              · rw [List.mem_singleton.1 hy] at hc
                obtain ⟨r', rfl⟩ := hc.head
                rw [O7, zMi]
                have h2 : ¬ zMj x yb < 0 := fun h => hlt (cmpS_neg.1 h)
                split
                · rename_i e
                  have e := cmpS_zero.1 e
                  subst e
                  have := hleast (s :: x :: r') ⟨x, x :: r', hyb, rfl, hc⟩
                  rw [O7, O7] at this
                  exact this
                · exact h2
    have := key (o6 l s) [] none (by rintro c ⟨y, r, hy, _⟩; cases hy)
    rw [h, List.nil_append] at this
    have hov : ∀ c, zND l to n s (o6 l s) c ↔ IsChain l to (n + 1) s c := fun c => by
      constructor
      · rintro ⟨y, r, hy, rfl, hc⟩; exact .cons hy hc
      · intro hc
        cases hc with
        | cons h1 h2 => exact ⟨_, _, h1, rfl, h2⟩
    cases o with
    | none => exact fun c hc => this c ((hov c).2 hc)
    | some c => exact ⟨(hov c).1 this.1, fun z hz => this.2 z ((hov z).2 hz)⟩
theorem zEd (l : List Rule) (to : Str) (n : Nat) (s : Str) : b7 l n s to = U0 l to n s := by
 have h := A5 (l := l) (to := to) (n := n) (s := s) rfl
 cases hr : U0 l to n s with
 | some c => rw [hr] at h; exact chainN_some.2 h
 | none =>
  rw [hr] at h
  cases hc : b7 l n s to with
  | none => rfl
  | some c => exact absurd (chainN_some.1 hc).1 (h c)
end Go.Abs

namespace Go.Abs
open Go
def zNC : Str → Str → Bool
 | [], _ => true
 | _ :: _, [] => false
 | a :: x, b :: y => if a = b then zNC x y else zNC (a :: x) y
def X5 (k whole : Str) : Bool := decide (k.length < whole.length) && (k.getD 0 0 == whole.getD 0 0 && zNC k whole)
def l9 (k : Str) (l : List Str) (own : Str) : Bool := l.any fun s => !(decide (zMh s = own)) && X5 k (zMh s)
def K1 : Str → List Str
 | [] => [[]]
 | a :: r => (K1 r).map (a :: ·) ++ K1 r
theorem mem_subsL : ∀ {k s : Str}, s ∈ K1 k ↔ s.Sublist k
 | [], s => by simp [K1]
 | a :: r, s => by
  rw [K1, List.mem_append, List.mem_map]
  constructor
  ·rintro (⟨t, ht, rfl⟩ | h)
   ·exact (mem_subsL.1 ht).cons_cons a
   ·exact (mem_subsL.1 h).cons a
  ·intro h
   cases h with
   | cons _ h => exact .inr (mem_subsL.2 h)
   | cons_cons _ h => exact .inl ⟨_, mem_subsL.2 h, rfl⟩
def Y0 (k s : Str) : Prop := ∃ t : Str, t.Sublist (k.drop 1) ∧ s = k.take 1 ++ t ∧ s.length < k.length
def Y4 (k : Str) : List Str := ((K1 (k.drop 1)).map (k.take 1 ++ ·)).filter fun s => decide (s.length < k.length)
theorem zGb {k s : Str} : s ∈ Y4 k ↔ Y0 k s := by
 unfold Y4 Y0
 rw [List.mem_filter, List.mem_map, decide_eq_true_eq]
 constructor
 ·rintro ⟨⟨t, ht, rfl⟩, h⟩; exact ⟨t, mem_subsL.1 ht, rfl, h⟩
 ·rintro ⟨t, ht, rfl, h⟩; exact ⟨⟨t, mem_subsL.2 ht, rfl⟩, h⟩
def zMl (up : Bool) (a b : Str) : Int := orI (if up = true then (a.length : Int) - b.length else (b.length : Int) - a.length) (zMj a b)
theorem F8 {up : Bool} {a b : Str} : zMl up a b < 0 ↔ (if up = true then a.length < b.length else b.length < a.length) ∨ (a.length = b.length ∧ u0 a b = true) := by
 unfold zMl orI
 cases up
 ·simp only [Bool.false_eq_true, if_false]
  by_cases h : (b.length : Int) - a.length = 0
  ·rw [if_pos h, cmpS_neg]
   constructor
   ·intro k; exact .inr ⟨by omega, k⟩
   ·rintro (k | k)
    ·omega
    ·exact k.2
  ·rw [if_neg h]
   constructor
   ·intro k; exact .inl (by omega)
   ·rintro (k | k)
    ·omega
    ·omega
 ·simp only [if_true]
  by_cases h : (a.length : Int) - b.length = 0
  ·rw [if_pos h, cmpS_neg]
   constructor
   ·intro k; exact .inr ⟨by omega, k⟩
   ·rintro (k | k)
    ·omega
    ·exact k.2
  ·rw [if_neg h]
   constructor
   ·intro k; exact .inl (by omega)
   ·rintro (k | k)
    ·omega
    ·omega
theorem zDl {x y z : Str} (h1 : ¬ u0 x y = true) (h2 : ¬ u0 y z = true) : ¬ u0 x z = true := by
 rw [← cmpS_neg] at *; exact zNX h1 h2
theorem zNf {up : Bool} {x y z : Str} (h1 : ¬ zMl up x y < 0) (h2 : ¬ zMl up y z < 0) : ¬ zMl up x z < 0 := by
 rw [F8] at *
 cases up
 ·simp only [Bool.false_eq_true, if_false, not_or, not_and] at *
  refine ⟨by omega, fun e => ?_⟩
  exact zDl (h1.2 (by omega)) (h2.2 (by omega))
 ·simp only [if_true, not_or, not_and] at *
  refine ⟨by omega, fun e => ?_⟩
  exact zDl (h1.2 (by omega)) (h2.2 (by omega))
theorem F2 {up : Bool} (x y : Str) (h : zMl up x y < 0) : ¬ zMl up y x < 0 := by
 rw [F8] at *
 cases up
 ·simp only [Bool.false_eq_true, if_false, not_or, not_and] at *
  rcases h with h | h
  ·exact ⟨by omega, fun e => by omega⟩
  ·exact ⟨by omega, fun _ => by rw [zA7 h.2]; simp⟩
 ·simp only [if_true, not_or, not_and] at *
  rcases h with h | h
  ·exact ⟨by omega, fun e => by omega⟩
  ·exact ⟨by omega, fun _ => by rw [zA7 h.2]; simp⟩
theorem zCb {up : Bool} {S : Str → Prop} {a b : Str} (ha : j3 (zMl up) S a) (hb : j3 (zMl up) S b) : a = b := by
 have h1 := ha.2 b hb.1
 have h2 := hb.2 a ha.1
 rw [F8] at h1 h2
 have hl : a.length = b.length := by
  cases up
  ·simp only [Bool.false_eq_true, if_false, not_or] at h1 h2; omega
  ·simp only [if_true, not_or] at h1 h2; omega
 simp only [not_or, not_and] at h1 h2
 exact L8 (by simpa using h2.2 hl) (by simpa using h1.2 hl.symm)
def S4 (l : List Str) (own : Str) (most : Int) (s : Str) : Prop := Y0 own s ∧ (s.length : Int) ≤ most ∧ l9 s l own = false
def zMr (l : List Str) (own : Str) (most : Int) (up : Bool) : Option Str := b9 (zMl up) ((Y4 own).filter fun s => decide ((s.length : Int) ≤ most) && !l9 s l own)
theorem mem_ok {l : List Str} {own : Str} {most : Int} {s : Str} : s ∈ (Y4 own).filter (fun s => decide ((s.length : Int) ≤ most) && !l9 s l own) ↔ S4 l own most s := by
 unfold S4
 rw [List.mem_filter, zGb, Bool.and_eq_true, decide_eq_true_eq, Bool.not_eq_true']
theorem zEu {l : List Str} {own : Str} {most : Int} {up : Bool} {L : List Str} (h : ∀ s, s ∈ L ↔ S4 l own most s) : b9 (zMl up) L = zMr l own most up := by
  have hm : ∀ s, s ∈ L ↔ s ∈ (Y4 own).filter (fun s => decide ((s.length : Int) ≤ most) && !l9 s l own) := fun s => (h s).trans mem_ok.symm
  unfold zMr
  by_cases e : L = []
  · have e2 : (Y4 own).filter (fun s => decide ((s.length : Int) ≤ most) && !l9 s l own) = [] := by
      rw [List.eq_nil_iff_forall_not_mem]
      intro x hx
      have := (hm x).2 hx
      rw [e] at this; cases this
    rw [e, e2]
  · have e2 : (Y4 own).filter (fun s => decide ((s.length : Int) ≤ most) && !l9 s l own) ≠ [] := fun k => e (by
      rw [List.eq_nil_iff_forall_not_mem]
      intro x hx
      have := (hm x).1 hx
      rw [k] at this; cases this)
    obtain ⟨a, a1, a2⟩ := U7 (cmp := zMl up) (fun _ _ _ => zNf) F2 e
    obtain ⟨b, b1, b2⟩ := U7 (cmp := zMl up) (fun _ _ _ => zNf) F2 e2
    rw [a1, b1, zCb a2 ⟨(hm b).2 b2.1, fun x hx => b2.2 x ((hm x).1 hx)⟩]
theorem cutN_some {l : List Str} {own : Str} {most : Int} {up : Bool} {s : Str} : zMr l own most up = some s ↔ j3 (zMl up) (S4 l own most) s := by
 unfold zMr
 by_cases e : (Y4 own).filter (fun s => decide ((s.length : Int) ≤ most) && !l9 s l own) = []
 ·rw [e, zAG]
  constructor
  ·intro h; cases h
  ·intro h
   have := mem_ok.2 h.1
   rw [e] at this; cases this
 ·obtain ⟨b, b1, b2⟩ := U7 (cmp := zMl up) (fun _ _ _ => zNf) F2 e
  have hb : j3 (zMl up) (S4 l own most) b := ⟨mem_ok.1 b2.1, fun x hx => b2.2 x (mem_ok.2 hx)⟩
  rw [b1]
  constructor
  ·intro h; cases h; exact hb
  ·intro h; rw [zCb h hb]
theorem cutN_none {l : List Str} {own : Str} {most : Int} {up : Bool} : zMr l own most up = none ↔ ∀ s, ¬ S4 l own most s := by
 constructor
 ·intro h s hs
  have : b9 (zMl up) ((Y4 own).filter fun s => decide ((s.length : Int) ≤ most) && !l9 s l own) = none := h
  by_cases e : (Y4 own).filter (fun s => decide ((s.length : Int) ≤ most) && !l9 s l own) = []
  ·have := mem_ok.2 hs
   rw [e] at this; cases this
  ·obtain ⟨b, b1, _⟩ := U7 (cmp := zMl up) (fun _ _ _ => zNf) F2 e
   rw [b1] at this; cases this
 ·intro h
  cases e : zMr l own most up with
  | none => rfl
  | some s => exact absurd (cutN_some.1 e).1 (h s)
def X1 : Nat → Str → List Str
 | 0, _ => [[]]
 | n + 1, s => match s with
  | [] => []
  | a :: r => (X1 n r).map (a :: ·) ++ X1 (n + 1) r
 termination_by n s => (n, s.length)
theorem mem_partsN : ∀ {n : Nat} {s t : Str}, t ∈ X1 n s ↔ t.length = n ∧ t.Sublist s
 | 0, s, t => by
  rw [X1, List.mem_singleton, List.length_eq_zero_iff]
  exact ⟨fun h => ⟨h, by rw [h]; exact List.nil_sublist _⟩, fun h => h.1⟩
 | n + 1, [], t => by
  rw [X1]
  constructor
  ·intro h; cases h
  ·rintro ⟨h1, h2⟩
   rw [List.sublist_nil.1 h2] at h1; cases h1
 | n + 1, a :: r, t => by
  rw [X1, List.mem_append, List.mem_map]
  constructor
  ·rintro (⟨u, hu, rfl⟩ | h)
   ·obtain ⟨h1, h2⟩ := mem_partsN.1 hu
    exact ⟨by simp [h1], h2.cons_cons a⟩
   ·obtain ⟨h1, h2⟩ := mem_partsN.1 h
    exact ⟨h1, h2.cons a⟩
  ·rintro ⟨h1, h2⟩
   cases h2 with
   | cons _ h2 => exact .inr (mem_partsN.2 ⟨h1, h2⟩)
   | cons_cons _ h2 => exact .inl ⟨_, mem_partsN.2 ⟨by simpa using h1, h2⟩, rfl⟩
 termination_by n s => (n, s.length)
def V7 (l : List Str) (own : Str) (many : Nat) : Option Str :=
 if own.length ≤ many then none else b9 zMj (((X1 (many - 1) (own.drop 1)).map (own.take 1 ++ ·)).filter fun s => !l9 s l own)
end Go.Abs

namespace Go.Abs
open Go
theorem zAS {own s : Str} (h : Y0 own s) : 1 ≤ s.length := by
 obtain ⟨t, ht, rfl, hl⟩ := h
 cases own with
 | nil => simp at hl
 | cons a r => simp
theorem zCO {own s : Str} {m : Nat} (hm : 1 ≤ m) : (Y0 own s ∧ s.length = m) ↔ m < own.length ∧ ∃ t : Str, t.length = m - 1 ∧ t.Sublist (own.drop 1) ∧ s = own.take 1 ++ t := by
 constructor
 ·rintro ⟨⟨t, ht, rfl, hl⟩, rfl⟩
  refine ⟨hl, t, ?_, ht, rfl⟩
  cases own with
  | nil => simp at hl
  | cons a r => simp
 ·rintro ⟨hl, t, h1, h2, rfl⟩
  have : (own.take 1 ++ t).length = m := by
   cases own with
   | nil => simp at hl
   | cons a r => simp; omega
  exact ⟨⟨t, h2, rfl, by omega⟩, this⟩
def K4 (l : List Str) (own : Str) (m : Nat) (s : Str) : Prop := Y0 own s ∧ s.length = m ∧ l9 s l own = false
theorem zAg {l : List Str} {own s : Str} {m : Nat} (hm : 1 ≤ m) (hl : m < own.length) : s ∈ ((X1 (m - 1) (own.drop 1)).map (own.take 1 ++ ·)).filter (fun s => !l9 s l own) ↔ K4 l own m s := by
 unfold K4
 rw [List.mem_filter, List.mem_map, Bool.not_eq_true']
 constructor
 ·rintro ⟨⟨t, ht, rfl⟩, h⟩
  obtain ⟨h1, h2⟩ := mem_partsN.1 ht
  obtain ⟨h3, h4⟩ := (zCO hm).2 ⟨hl, t, h1, h2, rfl⟩
  exact ⟨h3, h4, h⟩
 ·rintro ⟨h1, h2, h3⟩
  obtain ⟨_, t, h4, h5, rfl⟩ := (zCO hm).1 ⟨h1, h2⟩
  exact ⟨⟨t, mem_partsN.2 ⟨h4, h5⟩, rfl⟩, h3⟩
theorem zBT (x y : Str) (h : zMj x y < 0) : ¬ zMj y x < 0 := by have := Y2 x y; omega
theorem zEL {l : List Str} {own s : Str} {m : Nat} (hm : 1 ≤ m) (h : V7 l own m = some s) : j3 zMj (K4 l own m) s := by
 unfold V7 at h
 by_cases hl : own.length ≤ m
 ·rw [if_pos hl] at h; cases h
 ·rw [if_neg hl] at h
  by_cases e : ((X1 (m - 1) (own.drop 1)).map (own.take 1 ++ ·)).filter (fun s => !l9 s l own) = []
  ·rw [e, zAG] at h; cases h
  ·obtain ⟨b, b1, b2⟩ := U7 (cmp := zMj) (fun _ _ _ => zNX) zBT e
   rw [b1] at h; cases h
   exact ⟨(zAg hm (by omega)).1 b2.1, fun x hx => b2.2 x ((zAg hm (by omega)).2 hx)⟩
theorem zBV {l : List Str} {own : Str} {m : Nat} (hm : 1 ≤ m) (h : V7 l own m = none) : ∀ s, ¬ K4 l own m s := by
 intro s hs
 have hl : m < own.length := by
  have := hs.1
  obtain ⟨_, _, _, h2⟩ := this
  have := hs.2.1
  omega
 unfold V7 at h
 rw [if_neg (by omega)] at h
 by_cases e : ((X1 (m - 1) (own.drop 1)).map (own.take 1 ++ ·)).filter (fun s => !l9 s l own) = []
 ·have := (zAg hm hl).2 hs
  rw [e] at this; cases this
 ·obtain ⟨b, b1, _⟩ := U7 (cmp := zMj) (fun _ _ _ => zNX) zBT e
  rw [b1] at h; cases h
theorem E0 {α β : Type} {f : α → Option β} : ∀ {L : List α}, r8 f L = none → ∀ x, x ∈ L → f x = none
 | [], _, _, hx => by cases hx
 | y :: r, h, x, hx => by
  rw [r8] at h
  split at h
  ·cases h
  ·rename_i e
   rcases List.mem_cons.1 hx with rfl | hx
   ·exact e
   ·exact E0 h x hx
theorem J6 {α β : Type} {f : α → Option β} {b : β} : ∀ {L : List α}, r8 f L = some b → ∃ pre x post, L = pre ++ x :: post ∧ f x = some b ∧ ∀ y, y ∈ pre → f y = none
 | [], h => by cases h
 | y :: r, h => by
  rw [r8] at h
  split at h
  ·rename_i e; cases h; exact ⟨[], y, r, rfl, e, fun _ h => by cases h⟩
  ·rename_i e
   obtain ⟨pre, x, post, rfl, h1, h2⟩ := J6 h
   exact ⟨y :: pre, x, post, rfl, h1, fun z hz => by
    rcases List.mem_cons.1 hz with rfl | hz
    ·exact e
    ·exact h2 z hz⟩
theorem zDO {l : List Str} {own : Str} {most : Int} {up : Bool} {L : List Nat} (hc : ∀ m : Nat, m ∈ L ↔ 1 ≤ m ∧ (m : Int) ≤ most) (ho : L.Pairwise (fun a b => if up = true then a < b else b < a)) :
  r8 (V7 l own) L = zMr l own most up := by
 cases h : r8 (V7 l own) L with
 | none =>
  refine (cutN_none.2 (fun s hs => ?_)).symm
  have hp := zAS hs.1
  exact zBV hp (E0 h s.length ((hc _).2 ⟨hp, hs.2.1⟩)) s ⟨hs.1, rfl, hs.2.2⟩
 | some b =>
  obtain ⟨pre, m, post, rfl, h1, h2⟩ := J6 h
  obtain ⟨hm1, hm2⟩ := (hc m).1 (by simp)
  have hb := zEL hm1 h1
  refine (cutN_some.2 ⟨⟨hb.1.1, by rw [hb.1.2.1]; exact hm2, hb.1.2.2⟩, fun x hx => ?_⟩).symm
  have hxp := zAS hx.1
  have hxl := (hc x.length).2 ⟨hxp, hx.2.1⟩
  have hbl := hb.1.2.1
  rw [F8]
  rcases List.mem_append.1 hxl with hxl | hxl
  ·exact absurd (⟨hx.1, rfl, hx.2.2⟩ : K4 l own x.length x) (zBV hxp (h2 _ hxl) x)
  ·rcases List.mem_cons.1 hxl with e | hxl
   ·have := hb.2 x ⟨hx.1, e, hx.2.2⟩
    rw [cmpS_neg] at this
    cases up
    ·simp only [Bool.false_eq_true, if_false, not_or, not_and]; exact ⟨by omega, fun _ => this⟩
    ·simp only [if_true, not_or, not_and]; exact ⟨by omega, fun _ => this⟩
   ·have := (List.pairwise_cons.1 (List.pairwise_append.1 ho).2.1).1 _ hxl
    cases up
    ·simp only [Bool.false_eq_true, if_false, not_or, not_and] at *; exact ⟨by omega, fun _ => by omega⟩
    ·simp only [if_true, not_or, not_and] at *; exact ⟨by omega, fun _ => by omega⟩
def p5 (l : List Str) (i : Int) : Str := zMh (l.getD i.toNat [])
def f7 (l : List Str) (i : Int) : Int := if v8 l = 0 then if i < 0 ∨ (l.length : Int) ≤ i then 3 else 0 else v8 l
def zNd (s : Str) : Str := s ++ [46]
def zAx (l : List Str) (i : Int) : Int := if f7 l i = 0 then if (zMr l (p5 l i) 12 true).isSome = true then 0 else 11 else f7 l i
def zAy (l : List Str) (i : Int) : Str := if f7 l i = 0 then ((zMr l (p5 l i) 12 true).map zNd).getD [] else []
def zAH (l : List Str) (i w : Int) : Int := if f7 l i = 0 then if w < 1 then 1 else if ((p5 l i).length : Int) ≤ w then 0 else if (zMr l (p5 l i) (w - 1) false).isSome = true then 0 else 11 else f7 l i
def zNm (l : List Str) (i w : Int) : Str := if f7 l i = 0 then if w < 1 then [] else if ((p5 l i).length : Int) ≤ w then p5 l i else ((zMr l (p5 l i) (w - 1) false).map zNd).getD [] else []
theorem zME (l : List Str) (own : Str) : r8 (V7 l own) [1, 2, 3, 4, 5, 6, 7, 8, 9, 10, 11, 12] = zMr l own 12 true :=
 zDO (fun m => by simp only [List.mem_cons, List.not_mem_nil, or_false]; omega) (by decide)
def R2 : Nat → List Nat
 | 0 => []
 | n + 1 => (n + 1) :: R2 n
theorem mem_downTo : ∀ {n m : Nat}, m ∈ R2 n ↔ 1 ≤ m ∧ m ≤ n
 | 0, m => by simp [R2]; omega
 | n + 1, m => by rw [R2, List.mem_cons, mem_downTo]; omega
theorem zBl : ∀ n : Nat, (R2 n).Pairwise (fun a b => if false = true then a < b else b < a)
 | 0 => .nil
 | n + 1 => by
  rw [R2]
  refine .cons (fun m hm => ?_) (zBl n)
  have := mem_downTo.1 hm
  rw [if_neg (by decide)]; omega
theorem zKB (l : List Str) (own : Str) (n : Nat) : r8 (V7 l own) (R2 n) = zMr l own n false :=
 zDO (fun m => by rw [mem_downTo]; omega) (zBl n)
end Go.Abs

namespace Go.Abs
open Go
def otherL : List UInt8 := [65, 66, 67, 68, 69, 70, 71, 73, 74, 75, 76, 77, 78, 79, 80, 82, 83, 84, 85, 86, 88, 89, 90]
def zB3 : Nat → Str → Option Str
 | _, [] => some []
 | 0, _ :: _ => none
 | n + 1, a :: r => r8 (fun c => if (w8 c).isPrefixOf (a :: r) = true then (zB3 n ((a :: r).drop (w8 c).length)).map (c :: ·) else none) otherL
def zB4 (k : Str) : Option Str := zB3 k.length k
def zC1 : Nat → Str → List Str
 | _, [] => [[]]
 | 0, _ :: _ => []
 | n + 1, a :: r => otherL.flatMap fun c => if (w8 c).isPrefixOf (a :: r) = true then (zC1 n ((a :: r).drop (w8 c).length)).map (c :: ·) else []
theorem zE8 {α β : Type} {f g : α → Option β} : ∀ {L : List α}, (∀ x, x ∈ L → f x = g x) → r8 f L = r8 g L
 | [], _ => rfl
 | x :: r, h => by
  rw [r8, r8, h x (by simp), zE8 (fun y hy => h y (by simp [hy]))]
def zLc (s : Str) : Int := if x6 s = 0 then if (zB4 (zMh s)).isSome = true then 0 else 11 else x6 s
def zLd (s : Str) : Str := if x6 s = 0 then (zB4 (zMh s)).getD [] else []
def c7 (r : List Rule) (a b : Str) : Int := if o5 r = 0 then if x6 a = 0 then x6 b else x6 a else o5 r
def S9 (r : List Rule) (a b : Str) : Option (List Str) := r8 (fun n => b7 r n (zMh a) (zMh b)) [0, 1, 2]
def o7 (r : List Rule) (a b : Str) : Int := if c7 r a b = 0 then if (S9 r a b).isSome = true then 0 else 11 else c7 r a b
def F6 (r : List Rule) (a b : Str) : List Str := if c7 r a b = 0 then (S9 r a b).getD [] else []
def X7 (r : List Rule) (a b : Str) : Int := if o7 r a b = 0 then ((F6 r a b).length : Int) - 1 else 0
def zDv (r : List Rule) (a b : Str) : Int := if o7 r a b = 11 then 2 else if o7 r a b = 0 then (if X7 r a b = 0 then 1 else 3) else 0
def zDu (r : List Rule) (a b : Str) : Int := if o7 r a b = 11 then 0 else o7 r a b
theorem zBc {r : List Rule} {to : Str} {n : Nat} {s : Str} {c : List Str} (h : IsChain r to n s c) : c.length = n + 1 := by
 induction h with
 | nil => rfl
 | cons _ _ ih => rw [List.length_cons, ih]
theorem zEc {r : List Rule} {a b : Str} {c : List Str} (h : S9 r a b = some c) : ∃ n, n ≤ 2 ∧ c.length = n + 1 ∧ IsChain r (zMh b) n (zMh a) c ∧ ∀ m, m < n → ∀ d, ¬ IsChain r (zMh b) m (zMh a) d := by
 obtain ⟨pre, n, post, h1, h2, h3⟩ := J6 h
 have hn := (chainN_some.1 h2).1
 have hm : ∀ m, m ∈ pre → ∀ d, ¬ IsChain r (zMh b) m (zMh a) d := fun m hm d hd => by
  have := h3 m hm
  rw [zEd] at this
  exact (A5 this) d hd
 have hcase : (n = 0 ∧ pre = []) ∨ (n = 1 ∧ pre = [0]) ∨ (n = 2 ∧ pre = [0, 1]) := by
  match pre, h1 with
  | [], h1 => simp at h1; exact .inl ⟨h1.1.symm, rfl⟩
  | [x], h1 => simp at h1; exact .inr (.inl ⟨h1.2.1.symm, by rw [h1.1]⟩)
  | [x, y], h1 => simp at h1; exact .inr (.inr ⟨h1.2.2.1.symm, by rw [h1.1, h1.2.1]⟩)
  | x :: y :: z :: t, h1 =>
   have := congrArg List.length h1
   simp at this
 refine ⟨n, by rcases hcase with h | h | h <;> omega, zBc hn, hn, fun m hlt d => ?_⟩
 rcases hcase with ⟨rfl, _⟩ | ⟨rfl, rfl⟩ | ⟨rfl, rfl⟩
 ·omega
 ·exact hm m (by simp; omega) d
 ·exact hm m (by simp; omega) d
def c5 (r : List Rule) (s : Str) (l : List Str) (n : Int) (i : Nat) : List Int := (List.range' i (l.length - i)).flatMap fun (i : Nat) => if o7 r s (l.getD i []) = 0 ∧ X7 r s (l.getD i []) = n then [(i : Int)] else []
def M1 (r : List Rule) (s : Str) (l : List Str) : List Int := c5 r s l 0 0 ++ c5 r s l 1 0 ++ c5 r s l 2 0
def H2 (r : List Rule) (s : Str) (l : List Str) : Int := if o5 r = 0 then if x6 s = 0 then v8 l else x6 s else o5 r
end Go.Abs

namespace Go.Abs
open Go
structure Dice where
 list : List Int
 at_ : Nat
 seed : Int
 deriving Inhabited
abbrev uV (n : Int) : AV := .raw (.int .u64 n)
def u6 (d : Dice) : AObj := .box [.list (d.list.map iV), iV d.at_, uV d.seed]
def Q9 (a b : Int) : Int := IntKind.u64.wrap (BitVec.ofInt IntKind.u64.bits a ^^^ BitVec.ofInt IntKind.u64.bits b).toNat
def G1 (a : Int) (k : Nat) : Int := IntKind.u64.wrap (a * 2 ^ (min k IntKind.u64.bits))
def e7 (a : Int) (k : Nat) : Int := a.fdiv (2 ^ (min k IntKind.u64.bits))
def zNo (s : Int) : Int := Q9 s (G1 s 13)
def zNp (s : Int) : Int := Q9 s (e7 s 7)
def zNq (s : Int) : Int := Q9 s (G1 s 17)
def I9 (s : Int) : Int := zNq (zNp (zNo s))
def zNB (d : Dice) : Int := if d.at_ < d.list.length then IntKind.u64.wrap (I9 d.seed + IntKind.u64.wrap (IntKind.u64.wrap (d.list.getD d.at_ default) * 13787848793156543929)) else I9 d.seed
def zM5 (d : Dice) : Dice := ⟨d.list, if d.at_ < d.list.length then d.at_ + 1 else d.at_, zNB d⟩
def zNZ (n : Int) : Int := IntKind.u64.wrap (Q9 n (e7 n 30) * 10723151780598845931)
def zM7 (d : Dice) : Int := Q9 (zNZ (zNB d)) (e7 (zNZ (zNB d)) 31)
theorem zI0 (n : Int) : 0 ≤ IntKind.u64.wrap n ∧ IntKind.u64.wrap n < 18446744073709551616 := by
 rw [IntKind.wrap_u64]; omega
theorem zG6 (d : Dice) : 0 ≤ zM7 d ∧ zM7 d < 18446744073709551616 := zI0 _
def toN (n : Int) (d : Dice) : Int := if n < 1 then 0 else (e7 (zM7 d) 16).tmod (n + 1)
def toD (n : Int) (d : Dice) : Dice := if n < 1 then d else zM5 d
theorem zHa (n : Int) (h0 : 0 ≤ n) : 0 ≤ e7 n 16 := by
 unfold e7
 rw [Int.fdiv_eq_ediv_of_nonneg _ (by decide)]
 exact Int.ediv_nonneg h0 (by decide)
theorem zDr (n : Int) (d : Dice) : 0 ≤ toN n d ∧ (toN n d ≤ n ∨ toN n d = 0) := by
 unfold toN
 split
 ·omega
 ·have h := zHa _ (zG6 d).1
  rw [Int.tmod_eq_emod_of_nonneg h]
  have h1 := Int.emod_nonneg (e7 (zM7 d) 16) (b := n + 1) (by omega)
  have h2 := Int.emod_lt_of_pos (e7 (zM7 d) 16) (b := n + 1) (by omega)
  omega
theorem e8 {n : Int} (h : 0 ≤ n) (d : Dice) : 0 ≤ toN n d ∧ toN n d ≤ n := by
 have := zDr n d; omega
def Z9 (lo hi : Int) (d : Dice) : Int := lo + toN (hi - lo) d
def W1 (lo hi : Int) (d : Dice) : Dice := toD (hi - lo) d
theorem zAJ {lo hi : Int} (h : lo ≤ hi) (d : Dice) : lo ≤ Z9 lo hi d ∧ Z9 lo hi d ≤ hi := by
 have := e8 (n := hi - lo) (by omega) d
 unfold Z9; omega
def X0 (k : Int) (d : Dice) : Bool := toN (k - 1) d == 0
def t7 (k : Int) (d : Dice) : Dice := toD (k - 1) d
end Go.Abs

namespace Go.Abs
open Go
theorem mem_replacedN {k a b s : Str} : s ∈ i3 k a b ↔ ∃ i, i ≤ k.length ∧ a.isPrefixOf (k.drop i) = true ∧ w5 s 1 12 = true ∧ s = k.take i ++ b ++ k.drop (i + a.length) := by
 unfold i3 W7
 rw [List.mem_flatMap]
 constructor
 ·rintro ⟨i, hi, h⟩
  rw [List.mem_range'_1] at hi
  split at h
  ·rename_i hc
   have := List.mem_singleton.1 h
   subst this
   exact ⟨i, by omega, hc.1, hc.2, rfl⟩
  ·cases h
 ·rintro ⟨i, hi, h1, h2, rfl⟩
  refine ⟨i, by rw [List.mem_range'_1]; omega, ?_⟩
  rw [if_pos ⟨h1, h2⟩]
  simp
theorem zG1 {a x : Str} (h : a.isPrefixOf x = true) : x = a ++ x.drop a.length := by
 obtain ⟨t, rfl⟩ := List.isPrefixOf_iff_prefix.1 h
 simp
theorem zDE {k a b s : Str} (hk : w5 k 1 12 = true) (h : s ∈ i3 k a b) : k ∈ i3 s b a := by
  obtain ⟨i, hi, h1, h2, rfl⟩ := mem_replacedN.1 h
  have e := zG1 h1
  have hti : (k.take i).length = i := by rw [List.length_take]; omega
  refine mem_replacedN.2 ⟨i, by simp; omega, ?_, hk, ?_⟩
  · rw [List.append_assoc, List.drop_append_of_le_length (by omega), List.drop_of_length_le (by omega : (k.take i).length ≤ i), List.nil_append]
    exact List.isPrefixOf_iff_prefix.2 ⟨_, rfl⟩
  · have e1 : (k.take i ++ b ++ k.drop (i + a.length)).take i = k.take i := by
      rw [List.append_assoc, List.take_append_of_le_length (by omega), List.take_of_length_le (by omega)]
    have e2 : (k.take i ++ b ++ k.drop (i + a.length)).drop (i + b.length) = k.drop (i + a.length) := by
      rw [List.drop_append, List.drop_of_length_le (by simp; omega), List.nil_append]
      have : i + b.length - (k.take i ++ b).length = 0 := by simp; omega
      rw [this]; rfl
    rw [e1, e2]
    have e3 : k.drop (i + a.length) = (k.drop i).drop a.length := by rw [List.drop_drop]
    rw [e3, List.append_assoc, ← e, List.take_append_drop]
theorem zIv {l : List Rule} {k s : Str} (hk : w5 k 1 12 = true) (h : s ∈ o6 l k) : k ∈ o6 l s ∧ w5 s 1 12 = true := by
 unfold o6 at *
 obtain ⟨r, hr, h⟩ := List.mem_flatMap.1 h
 rcases List.mem_append.1 h with h | h
 ·exact ⟨List.mem_flatMap.2 ⟨r, hr, List.mem_append.2 (.inr (zDE hk h))⟩, by obtain ⟨_, _, _, h2, _⟩ := mem_replacedN.1 h; exact h2⟩
 ·exact ⟨List.mem_flatMap.2 ⟨r, hr, List.mem_append.2 (.inl (zDE hk h))⟩, by obtain ⟨_, _, _, h2, _⟩ := mem_replacedN.1 h; exact h2⟩
def Far (l : List Rule) (n : Nat) (s t : Str) : Prop := ∃ c, IsChain l t n s c
theorem Far.zero {l : List Rule} {s t : Str} : Far l 0 s t ↔ s = t := by
 constructor
 ·rintro ⟨c, h⟩; cases h; rfl
 ·rintro rfl; exact ⟨_, .nil⟩
theorem Far.step {l : List Rule} {n : Nat} {s t : Str} : Far l (n + 1) s t ↔ ∃ x, x ∈ o6 l s ∧ Far l n x t := by
 constructor
 ·rintro ⟨c, h⟩
  cases h with
  | cons h1 h2 => exact ⟨_, h1, _, h2⟩
 ·rintro ⟨x, h1, c, h2⟩; exact ⟨_, .cons h1 h2⟩
theorem Far.join {l : List Rule} : ∀ {n m : Nat} {s t u : Str}, Far l n s t → Far l m t u → Far l (n + m) s u
 | 0, m, s, t, u, h1, h2 => by rw [Far.zero.1 h1, Nat.zero_add]; exact h2
 | n + 1, m, s, t, u, h1, h2 => by
  obtain ⟨x, hx, h⟩ := Far.step.1 h1
  rw [show n + 1 + m = (n + m) + 1 by omega]
  exact Far.step.2 ⟨x, hx, h.join h2⟩
theorem Far.back {l : List Rule} : ∀ {n : Nat} {s t : Str}, w5 s 1 12 = true → Far l n s t → Far l n t s
 | 0, s, t, _, h => by rw [Far.zero.1 h]; exact Far.zero.2 rfl
 | n + 1, s, t, hs, h => by
  obtain ⟨x, hx, h⟩ := Far.step.1 h
  obtain ⟨g1, g2⟩ := zIv hs hx
  have := (h.back g2).join (m := 1) (Far.step.2 ⟨s, g1, Far.zero.2 rfl⟩)
  exact this
theorem Far.more {l l' : List Rule} (h : ∀ r, r ∈ l → r ∈ l') : ∀ {n : Nat} {s t : Str}, Far l n s t → Far l' n s t
 | 0, s, t, k => Far.zero.2 (Far.zero.1 k)
 | n + 1, s, t, k => by
  obtain ⟨x, hx, k⟩ := Far.step.1 k
  refine Far.step.2 ⟨x, ?_, k.more h⟩
  unfold o6 at *
  obtain ⟨r, hr, hx⟩ := List.mem_flatMap.1 hx
  exact List.mem_flatMap.2 ⟨r, h r hr, hx⟩
def zN4 (r : List Rule) (a b : Str) : Int := match S9 r a b with
 | some c => (c.length : Int) - 1
 | none => 9
theorem zAW {s : Str} (v : ValidN s) : w5 (zMh s) 1 12 = true := by
 have h1 := zAU s
 have h2 := v.ne
 have h3 := v.len
 unfold w5
 rw [Bool.and_eq_true, Bool.and_eq_true, decide_eq_true_eq, decide_eq_true_eq]
 exact ⟨by omega, by omega, zGE v.form⟩
end Go.Abs

namespace Go.Abs
open Go
section
variable {α : Type} (cf : α → α → Int)
def zNF (x : α) : List α → List α
 | [] => [x]
 | y :: r => if cf x y < 0 then y :: zNF x r else x :: y :: r
def zMu (pre : List α) (x : α) : List α := (zNF cf x pre.reverse).reverse
def l5 (xs : List α) : List α := xs.foldl (zMu cf) []
theorem zCL (x : α) : ∀ l : List α, (zNF cf x l).Perm (x :: l)
 | [] => .refl _
 | y :: r => by
  unfold zNF
  split
  ·exact ((zCL x r).cons y).trans (.swap x y r)
  ·exact .refl _
theorem zGA (pre : List α) (x : α) : (zMu cf pre x).Perm (pre ++ [x]) := by
 unfold zMu
 refine (List.reverse_perm _).trans ((zCL cf x _).trans ?_)
 exact ((List.reverse_perm pre).cons x).trans (List.perm_append_comm (l₁ := [x]) (l₂ := pre))
theorem zCQ : ∀ (xs pre : List α), (xs.foldl (zMu cf) pre).Perm (pre ++ xs)
 | [], pre => by simp
 | x :: r, pre => by
  rw [List.foldl_cons]
  refine (zCQ r _).trans ?_
  refine ((zGA cf pre x).append_right r).trans ?_
  simp
theorem E4 (xs : List α) : (l5 cf xs).Perm xs := by have := zCQ cf xs []; simpa [l5] using this
theorem zCR (xs : List α) : (l5 cf xs).length = xs.length := (E4 cf xs).length_eq
theorem zCT (xs : List α) (x : α) : l5 cf (xs ++ [x]) = zMu cf (l5 cf xs) x := by simp [l5, List.foldl_append]
def zM3 (S : List α) (x : α) (R : List α) (d : Nat) : List α := S.take (S.length - d) ++ x :: (S.drop (S.length - d) ++ R)
theorem zEo (S : List α) (x : α) (R : List α) (d : Nat) : (zM3 S x R d).length = S.length + 1 + R.length := by simp [zM3]; omega
variable [Inhabited α]
theorem zEq (S : List α) (x : α) (R : List α) {d : Nat} (h : d ≤ S.length) : (zM3 S x R d).getD (S.length - d) default = x := by
 unfold zM3
 simp only [List.getD_eq_getElem?_getD]
 rw [List.getElem?_append_right (by simp)]
 simp [show min (S.length - d) S.length = S.length - d by omega]
theorem zEr (S : List α) (x : α) (R : List α) {d : Nat} (h : d < S.length) : (zM3 S x R d).getD (S.length - d - 1) default = S.getD (S.length - d - 1) default := by
 unfold zM3
 simp only [List.getD_eq_getElem?_getD]
 rw [List.getElem?_append_left (by simp; omega), List.getElem?_take, if_pos (by omega)]
theorem zEp (S : List α) (x : α) (R : List α) {d : Nat} (h : d < S.length) :
  ((zM3 S x R d).set (S.length - d) (S.getD (S.length - d - 1) default)).set (S.length - d - 1) x = zM3 S x R (d + 1) := by
 obtain ⟨j, hj⟩ : ∃ j, S.length - d = j + 1 := ⟨S.length - d - 1, by omega⟩
 have hj' : S.length - (d + 1) = j := by omega
 have hlt : j < S.length := by omega
 unfold zM3
 rw [hj, hj']
 have e1 : S.take (j + 1) = S.take j ++ [S.getD j default] := by rw [List.take_add_one]; simp [List.getD, hlt]
 have e2 : S.drop j = S.getD j default :: S.drop (j + 1) := j4 hlt
 rw [e1, e2]
 simp only [Nat.add_sub_cancel]
 have hl : (S.take j).length = j := by simp; omega
 rw [List.append_assoc, List.set_append_right _ _ (by omega), hl]
 simp only [Nat.add_sub_cancel_left, List.singleton_append, List.set_cons_succ, List.set_cons_zero]
 rw [List.set_append_right _ _ (by omega), hl]
 simp
theorem zCK (pre : List α) (x y : α) (h : cf x y < 0) : zMu cf (pre ++ [y]) x = zMu cf pre x ++ [y] := by
 have _ := (default : α)
 unfold zMu; simp [zNF, h]
theorem zCJ (pre : List α) (x y : α) (h : ¬ cf x y < 0) : zMu cf (pre ++ [y]) x = pre ++ [y] ++ [x] := by
 have _ := (default : α)
 unfold zMu; simp [zNF, h]
theorem zDn {l : List α} {i : Nat} (h : i < l.length) : l.take (i + 1) = l.take i ++ [l.getD i default] := by
 rw [List.take_add_one]; simp [List.getD, h]
def InsP (S : List α) (x : α) (R : List α) (cur : List α) (d : Nat) : Prop := cur = zM3 S x R d ∧ zMu cf S x = zMu cf (S.take (S.length - d)) x ++ S.drop (S.length - d)
theorem InsP.start (S : List α) (x : α) (R : List α) : InsP cf S x R (S ++ x :: R) 0 := by simp [InsP, zM3]
theorem InsP.next {S : List α} {x : α} {R cur : List α} {d : Nat} (h : InsP cf S x R cur d) (hd : d < S.length) (hc : cf x (S.getD (S.length - d - 1) default) < 0) :
  InsP cf S x R ((cur.set (S.length - d) (S.getD (S.length - d - 1) default)).set (S.length - d - 1) x) (d + 1) := by
 obtain ⟨h1, h2⟩ := h
 refine ⟨by rw [h1, zEp S x R hd], ?_⟩
 obtain ⟨j, hj⟩ : ∃ j, S.length - d = j + 1 := ⟨S.length - d - 1, by omega⟩
 have hj' : S.length - (d + 1) = j := by omega
 have hlt : j < S.length := by omega
 have e1 : S.take (j + 1) = S.take j ++ [S.getD j default] := by rw [List.take_add_one]; simp [List.getD, hlt]
 have e2 : S.drop j = S.getD j default :: S.drop (j + 1) := j4 hlt
 rw [hj] at h2 hc
 simp only [Nat.add_sub_cancel] at hc
 rw [h2, hj', e1, zCK cf _ _ _ hc, e2, List.append_assoc]; rfl
theorem InsP.stop {S : List α} {x : α} {R cur : List α} {d : Nat} (h : InsP cf S x R cur d) (hd : d ≤ S.length) (hc : d < S.length → ¬ cf x (S.getD (S.length - d - 1) default) < 0) : cur = zMu cf S x ++ R := by
 obtain ⟨h1, h2⟩ := h
 rw [h1, h2]
 unfold zM3
 by_cases e : d = S.length
 ·subst e; simp [zMu, zNF]
 ·obtain ⟨j, hj⟩ : ∃ j, S.length - d = j + 1 := ⟨S.length - d - 1, by omega⟩
  have hlt : j < S.length := by omega
  have e1 : S.take (j + 1) = S.take j ++ [S.getD j default] := by rw [List.take_add_one]; simp [List.getD, hlt]
  have hc' := hc (by omega)
  rw [hj] at hc' ⊢
  simp only [Nat.add_sub_cancel] at hc'
  rw [e1, zCJ cf _ _ _ hc']; simp
end
end Go.Abs

namespace Go.Abs
open Go
theorem zBf (a b : Int) : zMm b a = -zMm a b := by
 unfold zMm
 repeat' split
 all_goals omega
theorem zBh (a b : Str) : x9 b a = -x9 a b := by
 unfold x9 orI
 rw [Y2 (zMh a) (zMh b), zBf (l6 a) (l6 b)]
 by_cases h : zMj (zMh a) (zMh b) = 0
 ·rw [if_pos h, if_pos (by omega)]
 ·rw [if_neg h, if_neg (by omega)]
theorem zFg {x y z : Str} (h1 : ¬ x9 x y < 0) (h2 : ¬ x9 y z < 0) : ¬ x9 x z < 0 := by
 unfold x9 orI at *
 have a1 := Y2 (zMh x) (zMh y)
 have a2 := Y2 (zMh y) (zMh z)
 have gS := fun (p : ¬ zMj (zMh x) (zMh y) < 0) (q : ¬ zMj (zMh y) (zMh z) < 0) => zNX p q
 by_cases e1 : zMj (zMh x) (zMh y) = 0
 ·rw [if_pos e1] at h1
  rw [cmpS_zero.1 e1]
  by_cases e2 : zMj (zMh y) (zMh z) = 0
  ·rw [if_pos e2] at h2 ⊢
   unfold zMm at *
   repeat' split at h1
   all_goals repeat' split at h2
   all_goals repeat' split
   all_goals omega
  ·rw [if_neg e2] at h2 ⊢
   exact h2
 ·rw [if_neg e1] at h1
  by_cases e2 : zMj (zMh y) (zMh z) = 0
  ·rw [if_pos e2] at h2
   rw [← cmpS_zero.1 e2, if_neg e1]; exact h1
  ·rw [if_neg e2] at h2
   have h3 := gS h1 h2
   by_cases e3 : zMj (zMh x) (zMh z) = 0
   ·have e := cmpS_zero.1 e3
    rw [e] at a1 h1
    have := Y2 (zMh y) (zMh z)
    omega
   ·rw [if_neg e3]; exact h3
def i9 : List Str → Bool
 | [] => true
 | [_] => true
 | a :: b :: r => !(decide (x9 b a < 0)) && i9 (b :: r)
def X3 (l : List Str) (s : Str) : Int := if v8 l = 0 then if x6 s = 0 then if i9 l = true then 0 else 5 else x6 s else v8 l
def W6 (l : List Str) (s : Str) : Int := if X3 l s = 0 then (l.countP fun x => decide (x9 x s < 0) : Nat) else 0
def r6 (l : List Str) : List Nat := l5 (fun a b => x9 (l.getD a []) (l.getD b [])) (List.range l.length)
def zN2 (set i : Nat) : Bool := set.testBit i
def M4 (n set : Nat) : List Nat := (List.range n).filter fun i => set.testBit i
def zAq (l : List Str) (set : Nat) : List Str := ((List.range l.length).filter fun i => !set.testBit i).map fun i => l.getD i []
def l3 : List Nat → List Nat → Int
 | [], [] => 0
 | [], _ :: _ => -1
 | _ :: _, [] => 1
 | a :: x, b :: y => if zMm a b = 0 then l3 x y else zMm a b
def Q2 (a b : List Nat) : Int := orI (zMm a.length b.length) (l3 a b)
def D6 (l : List Str) : List (List Nat) := (List.range (2 ^ l.length)).filterMap fun set => if i9 (zAq l set) = true then some (M4 l.length set) else none
def B5 (l : List Str) : List Nat := (b9 Q2 (D6 l)).getD []
end Go.Abs

namespace Go.Abs
open Go
def wordsL : List Str := [[97, 101, 115], [115, 104, 101, 116, 97], [115, 109, 105, 116, 121, 104, 97], [99, 104, 106, 97], [97, 110, 110, 101]]
def wordsU : List Str := [[65, 69, 83], [88, 69, 84, 65], [83, 77, 73, 84, 89, 65], [67, 74, 65, 88], [65, 78, 78, 69]]
def wordsF : List Str := [[101], [121], [115, 104], [97], [110, 110], [116, 104], [109]]
def wordsT : List Str := [[], [105], [115], [116], [97, 101], [106], [110]]
def j5 (ws : List Str) (d : Dice) : Str := ws.getD (toN ((ws.length : Int) - 1) d).toNat []
def w7 (ws : List Str) (d : Dice) : Dice := toD ((ws.length : Int) - 1) d
theorem M9 {ws : List Str} (h : 0 < ws.length) (d : Dice) : j5 ws d ∈ ws := by
 have := e8 (n := (ws.length : Int) - 1) (by omega) d
 unfold j5
 have hlt : (toN ((ws.length : Int) - 1) d).toNat < ws.length := by omega
 simp [List.getD, hlt]
def d8 (set : Str) : Nat → Dice → Str → Str × Dice
 | 0, d, s => (s, d)
 | n + 1, d, s => d8 set n (toD ((set.length : Int) - 1) d) (s ++ [set.getD (toN ((set.length : Int) - 1) d).toNat 0])
def zNj (t : Bool) (d d2 : Dice) (a : Str) : Str × Dice := if t = true then (j5 wordsU d2, w7 wordsU d2) else (a, d2)
def zM8 (d : Dice) : Str × Dice := zNj (X0 3 (w7 wordsL d)) d (t7 3 (w7 wordsL d)) (j5 wordsL d)
def E9 (most : Int) (p : Str × Dice) : Str × Dice := d8 p.1 (Z9 1 (min most 6) p.2).toNat (W1 1 (min most 6) p.2) []
def i8 (d : Dice) (most : Int) : Str × Dice := E9 most (zM8 d)
theorem zCe (set : Str) : ∀ (n : Nat) (d : Dice) (s : Str), (d8 set n d s).1.length = s.length + n
 | 0, d, s => rfl
 | n + 1, d, s => by rw [d8, zCe set n]; simp; omega
theorem zAZ (set : Str) (p : UInt8 → Bool) (h0 : 0 < set.length) (hp : set.all p = true) : ∀ (n : Nat) (d : Dice) (s : Str), s.all p = true → (d8 set n d s).1.all p = true
 | 0, d, s, h => h
 | n + 1, d, s, h => by
  rw [d8]
  refine zAZ set p h0 hp n _ _ ?_
  have := e8 (n := (set.length : Int) - 1) (by omega) d
  have hlt : (toN ((set.length : Int) - 1) d).toNat < set.length := by omega
  rw [List.all_append, h, Bool.true_and, List.all_cons, List.all_nil, Bool.and_true]
  refine List.all_eq_true.1 hp _ ?_
  simp [List.getD, hlt]
theorem o3 (n : Int) (d : Dice) : (toD n d).list = d.list := by unfold toD; split <;> rfl
theorem zCf (set : Str) : ∀ (n : Nat) (d : Dice) (s : Str), (d8 set n d s).2.list = d.list
 | 0, d, s => rfl
 | n + 1, d, s => by rw [d8, zCf set n, o3]
theorem zIz {x : Str} (h : x ∈ wordsU) : 0 < x.length ∧ x.all u9 = true := by
 have key : (wordsU.all fun x => decide (0 < x.length) && x.all u9) = true := by decide
 have := List.all_eq_true.1 key x h
 simpa using this
theorem zIy {x : Str} (h : x ∈ wordsL) : 0 < x.length ∧ x.all y9 = true := by
 have key : (wordsL.all fun x => decide (0 < x.length) && x.all y9) = true := by decide
 have := List.all_eq_true.1 key x h
 simpa using this
theorem zDP (d : Dice) : 0 < (zM8 d).1.length ∧ ((zM8 d).1.all y9 = true ∨ (zM8 d).1.all u9 = true) ∧ (zM8 d).2.list = d.list := by
 unfold zM8 zNj
 split
 ·have := zIz (M9 (ws := wordsU) (by decide) (t7 3 (w7 wordsL d)))
  exact ⟨this.1, .inr this.2, by simp only [w7, t7, o3]⟩
 ·have := zIy (M9 (ws := wordsL) (by decide) d)
  exact ⟨this.1, .inl this.2, by simp only [w7, t7, o3]⟩
theorem zAk {d : Dice} {most : Int} (h : 1 ≤ most) : ValidN (i8 d most).1 ∧ ((i8 d most).1.length : Int) ≤ most ∧ (i8 d most).2.list = d.list := by
 obtain ⟨h1, h2, h3⟩ := zDP d
 unfold i8 E9
 generalize zM8 d = p at *
 have hr := zAJ (lo := 1) (hi := min most 6) (by omega) p.2
 have hl := zCe p.1 (Z9 1 (min most 6) p.2).toNat (W1 1 (min most 6) p.2) []
 simp only [List.length_nil, Nat.zero_add] at hl
 refine ⟨⟨by rw [hl]; omega, by rw [hl]; omega, ?_⟩, by rw [hl]; omega, ?_⟩
 ·unfold l7
  rw [Bool.or_eq_true]
  rcases h2 with h2 | h2
  ·exact .inl (zAZ p.1 y9 h1 h2 _ _ [] rfl)
  ·exact .inr (zAZ p.1 u9 h1 h2 _ _ [] rfl)
 ·rw [zCf]
  unfold W1
  rw [o3, h3]
def Y3 (s : Str) (at_ : Nat) : Str := s.take at_ ++ s.drop (at_ + 1)
def zDt (s : Str) (t : Bool) (d : Dice) : Str × Dice := if t = true then (Y3 s (toN ((s.length : Int) - 1) d).toNat, toD ((s.length : Int) - 1) d) else (s, d)
def T7 (s : Str) (d : Dice) : Str × Dice := if 97 ≤ (s.getD 0 0).toNat ∧ 1 < s.length then zDt s (X0 2 d) (t7 2 d) else (s, d)
def M8 (out : List Str) (d : Dice) : Str := out.getD (toN ((out.length : Int) - 1) d).toNat []
def B9 (out : List Str) (p : Str × Dice) (t : Bool) (d : Dice) : Str × Dice := if t = true then T7 (M8 out d) (toD ((out.length : Int) - 1) d) else (p.1, d)
def Z5 (out : List Str) (p : Str × Dice) : Str × Dice := if 0 < out.length then B9 out p (X0 3 p.2) (t7 3 p.2) else p
def Q1 (most : Int) : Nat → Dice → List Str → List Str × Dice
 | 0, d, out => (out, d)
 | n + 1, d, out => Q1 most n (Z5 out (i8 d most)).2 (out ++ [(Z5 out (i8 d most)).1])
def T2 (d : Dice) (many most : Int) : List Str × Dice := Q1 most (toN many d).toNat (toD many d) []
theorem zEt {s : Str} (v : ValidN s) (hl : 1 < s.length) {i : Nat} (hi : i < s.length) : ValidN (Y3 s i) ∧ (Y3 s i).length = s.length - 1 := by
 have h1 : (Y3 s i).length = s.length - 1 := by unfold Y3; simp; omega
 refine ⟨⟨by omega, by have := v.len; omega, ?_⟩, h1⟩
 have hf := v.form
 unfold l7 at hf ⊢
 rw [Bool.or_eq_true, List.all_eq_true, List.all_eq_true] at hf ⊢
 have hm : ∀ c, c ∈ Y3 s i → c ∈ s := fun c hc => by
  rcases List.mem_append.1 hc with hc | hc
  ·exact List.mem_of_mem_take hc
  ·exact List.mem_of_mem_drop hc
 rcases hf with hf | hf
 ·exact .inl (fun c hc => hf c (hm c hc))
 ·exact .inr (fun c hc => hf c (hm c hc))
theorem zIx {s : Str} (v : ValidN s) (d : Dice) : ValidN (T7 s d).1 ∧ (T7 s d).1.length ≤ s.length ∧ (T7 s d).2.list = d.list := by
 unfold T7
 split
 ·rename_i h
  unfold zDt
  split
  ·have := e8 (n := (s.length : Int) - 1) (by omega) (t7 2 d)
   obtain ⟨h1, h2⟩ := zEt v h.2 (i := (toN ((s.length : Int) - 1) (t7 2 d)).toNat) (by omega)
   exact ⟨h1, by show (Y3 _ _).length ≤ _; omega, by simp only [o3, t7]⟩
  ·exact ⟨v, Nat.le_refl _, by simp only [o3, t7]⟩
 ·exact ⟨v, Nat.le_refl _, rfl⟩
def V5 (most : Int) (s : Str) : Prop := ValidN s ∧ (s.length : Int) ≤ most
theorem zBN {out : List Str} {most : Int} (ho : ∀ s, s ∈ out → V5 most s) {p : Str × Dice} (hp : V5 most p.1) : V5 most (Z5 out p).1 ∧ (Z5 out p).2.list = p.2.list := by
 unfold Z5
 split
 ·rename_i h
  unfold B9
  split
  ·have := e8 (n := (out.length : Int) - 1) (by omega) (t7 3 p.2)
   have hm : M8 out (t7 3 p.2) ∈ out := by
    unfold M8
    have hlt : (toN ((out.length : Int) - 1) (t7 3 p.2)).toNat < out.length := by omega
    simp [List.getD, hlt]
   obtain ⟨h1, h2⟩ := ho _ hm
   obtain ⟨g1, g2, g3⟩ := zIx h1 (toD ((out.length : Int) - 1) (t7 3 p.2))
   exact ⟨⟨g1, by omega⟩, by rw [g3]; simp only [o3, t7]⟩
  ·exact ⟨hp, by simp only [o3, t7]⟩
 ·exact ⟨hp, rfl⟩
theorem zCw {most : Int} (h : 1 ≤ most) : ∀ (n : Nat) (d : Dice) (out : List Str), (∀ s, s ∈ out → V5 most s) → (∀ s, s ∈ (Q1 most n d out).1 → V5 most s) ∧ (Q1 most n d out).1.length = out.length + n ∧ (Q1 most n d out).2.list = d.list
 | 0, d, out, ho => ⟨ho, rfl, rfl⟩
 | n + 1, d, out, ho => by
  obtain ⟨v, hl, hd⟩ := zAk (d := d) h
  obtain ⟨g1, g2⟩ := zBN ho (p := i8 d most) ⟨v, hl⟩
  rw [Q1]
  obtain ⟨k1, k2, k3⟩ := zCw h n (Z5 out (i8 d most)).2 (out ++ [(Z5 out (i8 d most)).1]) (fun s hs => by
   rcases List.mem_append.1 hs with hs | hs
   ·exact ho s hs
   ·rw [List.mem_singleton.1 hs]; exact g1)
  exact ⟨k1, by rw [k2]; simp; omega, by rw [k3, g2, hd]⟩
theorem zGi {d : Dice} {many most : Int} (hm : 0 ≤ many) (h : 1 ≤ most) : (∀ s, s ∈ (T2 d many most).1 → V5 most s) ∧ ((T2 d many most).1.length : Int) ≤ many ∧ (T2 d many most).2.list = d.list := by
 have hr := e8 hm d
 obtain ⟨h1, h2, h3⟩ := zCw h (toN many d).toNat (toD many d) [] (fun s hs => by cases hs)
 unfold T2
 refine ⟨h1, ?_, by rw [h3, o3]⟩
 rw [h2]; simp; omega
def Z3 : Nat → Dice → List Rule → List Rule × Dice
 | 0, d, out => (out, d)
 | n + 1, d, out => Z3 n (w7 wordsT (w7 wordsF d)) (out ++ [⟨j5 wordsF d, j5 wordsT (w7 wordsF d)⟩])
def T5 (d : Dice) (many : Int) : List Rule × Dice := Z3 (toN many d).toNat (toD many d) []
theorem zDG : ∀ (n : Nat) (d : Dice) (out : List Rule), out.all Rule.ok = true → (Z3 n d out).1.all Rule.ok = true ∧ (Z3 n d out).1.length = out.length + n ∧ (Z3 n d out).2.list = d.list
 | 0, d, out, h => ⟨h, rfl, rfl⟩
 | n + 1, d, out, h => by
  rw [Z3]
  have h1 := M9 (ws := wordsF) (by decide) d
  have h2 := M9 (ws := wordsT) (by decide) (w7 wordsF d)
  obtain ⟨k1, k2, k3⟩ := zDG n (w7 wordsT (w7 wordsF d)) (out ++ [⟨j5 wordsF d, j5 wordsT (w7 wordsF d)⟩]) (by
   rw [List.all_append, h, Bool.true_and, List.all_cons, List.all_nil, Bool.and_true]
   generalize j5 wordsF d = x at *
   generalize j5 wordsT (w7 wordsF d) = y at *
   have key : (wordsF.all fun x => wordsT.all fun y => Rule.ok ⟨x, y⟩) = true := by decide
   exact List.all_eq_true.1 (List.all_eq_true.1 key x h1) y h2)
  exact ⟨k1, by rw [k2]; simp; omega, by rw [k3]; simp only [w7, o3]⟩
theorem zHJ {d : Dice} {many : Int} (hm : 0 ≤ many ∧ many ≤ 4) : o5 (T5 d many).1 = 0 ∧ ((T5 d many).1.length : Int) ≤ many ∧ (T5 d many).2.list = d.list := by
 have hr := e8 hm.1 d
 obtain ⟨h1, h2, h3⟩ := zDG (toN many d).toNat (toD many d) [] rfl
 unfold T5
 have hl : (Z3 (toN many d).toNat (toD many d) []).1.length = (toN many d).toNat := by rw [h2]; simp
 refine ⟨?_, by omega, by rw [h3, o3]⟩
 unfold o5
 rw [if_neg (by omega), if_pos h1]
def G2 (key : Str) : Nat → Nat → Dice → Str → Str × Dice
 | 0, _, d, s => (s, d)
 | n + 1, i, d, s => if i = 0 then G2 key n (i + 1) d (s ++ [key.getD i 0]) else if X0 2 d = true then G2 key n (i + 1) (t7 2 d) (s ++ [key.getD i 0]) else G2 key n (i + 1) (t7 2 d) s
def zMD (d : Dice) (key : Str) : Str × Dice := ((G2 key key.length 0 d []).1 ++ [46], (G2 key key.length 0 d []).2)
end Go.Abs

namespace Go.Abs
open Go
def zMX (l : List Nat) : Str := l.map UInt8.ofNat
def zNO : Str := [67, 65, 68]
def H0 : Str := [99, 104, 97, 100]
def E8 : Str := [97, 110, 110, 97]
def zNh : Str := [66, 69, 78]
def Y8 : Str := [115, 109, 121, 116, 104, 101]
def H1 : Str := [115, 109, 105, 116, 104, 101]
def Q0 : Str := [115, 109, 105, 116, 104]
def zAj : Str := [115, 109, 121, 116, 104]
def zNr : Str := [115, 97, 109]
def rulesX : List Rule := [⟨[112, 104], [102]⟩, ⟨[121], [105]⟩, ⟨[101], []⟩]
def smithsX : List Str := [Q0, zAj, zNr]
theorem zI7 : zMh zNO = H0 := by kernel_rfl
theorem zI4 : x6 zNO = 0 := by kernel_rfl
theorem zJB : r6 [H0, zNO, E8, zNh] = [2, 3, 0, 1] := by kernel_rfl
theorem zI8 : v8 [H0, zNO, E8, zNh] = 0 := by kernel_rfl
theorem zD1 : c7 rulesX Y8 Q0 = 0 := by kernel_rfl
theorem zD0 : S9 rulesX Y8 Q0 = some [Y8, H1, Q0] := by kernel_rfl
theorem zI9 : zAy smithsX 0 = [115, 105, 46] := by kernel_rfl
theorem zJA : zAx smithsX 0 = 0 := by kernel_rfl
theorem zI5 : zNm smithsX 0 4 = [115, 105, 104, 46] := by kernel_rfl
theorem zI6 : zAH smithsX 0 4 = 0 := by kernel_rfl
end Go.Abs

namespace Go.Abs
open Go
theorem zF9 {α : Type} [Inhabited α] (cf : α → α → Int) (x : α) (S : List α) : ∃ A B, S = A ++ B ∧ zMu cf S x = A ++ x :: B ∧ (∀ y, y ∈ B → cf x y < 0) ∧ ∀ y, A.getLast? = some y → ¬ cf x y < 0 := by
 have key : ∀ R : List α, ∃ A B, R.reverse = A ++ B ∧ zMu cf R.reverse x = A ++ x :: B ∧ (∀ y, y ∈ B → cf x y < 0) ∧ ∀ y, A.getLast? = some y → ¬ cf x y < 0 := by
  intro R
  induction R with
  | nil => exact ⟨[], [], rfl, rfl, (fun y h => nomatch h), (fun y h => by simp at h)⟩
  | cons y R ih =>
   rw [List.reverse_cons]
   by_cases h : cf x y < 0
   ·obtain ⟨A, B, h1, h2, h3, h4⟩ := ih
    refine ⟨A, B ++ [y], by rw [h1]; simp, by rw [zCK cf _ _ _ h, h2]; simp, fun z hz => ?_, h4⟩
    rcases List.mem_append.1 hz with hz | hz
    ·exact h3 z hz
    ·rw [List.mem_singleton.1 hz]; exact h
   ·refine ⟨R.reverse ++ [y], [], by simp, by rw [zCJ cf _ _ _ h], (fun z hz => nomatch hz), fun z hz => ?_⟩
    simp at hz
    subst hz; exact h
 have := key S.reverse
 rwa [List.reverse_reverse] at this
section
variable (l : List Str)
def cfI (a b : Nat) : Int := x9 (l.getD a []) (l.getD b [])
def Prec (a b : Nat) : Prop := cfI l a b < 0 ∨ (¬ cfI l b a < 0 ∧ a < b)
theorem J0 (a b : Nat) : cfI l b a = -cfI l a b := zBh _ _
theorem F5 {a b c : Nat} (h1 : ¬ cfI l a b < 0) (h2 : ¬ cfI l b c < 0) : ¬ cfI l a c < 0 := zFg h1 h2
theorem Prec.trans {a b c : Nat} (h1 : Prec l a b) (h2 : Prec l b c) : Prec l a c := by
 have ab := J0 l a b
 have bc := J0 l b c
 have ac := J0 l a c
 unfold Prec at *
 have g1 : ¬ cfI l b a < 0 := by rcases h1 with h1 | h1 <;> omega
 have g2 : ¬ cfI l c b < 0 := by rcases h2 with h2 | h2 <;> omega
 have g3 : ¬ cfI l c a < 0 := F5 l g2 g1
 by_cases e : cfI l a c < 0
 ·exact .inl e
 ·refine .inr ⟨g3, ?_⟩
  -- all three are alike
  have e1 : ¬ cfI l a b < 0 := fun h => by
   have : ¬ cfI l a b < 0 := F5 l (b := c) e g2
   exact this h
  have e2 : ¬ cfI l b c < 0 := fun h => by
   have : ¬ cfI l b c < 0 := F5 l (b := a) g1 e
   exact this h
  rcases h1 with h1 | h1
  ·exact absurd h1 e1
  ·rcases h2 with h2 | h2
   ·exact absurd h2 e2
   ·omega
theorem Prec.irrefl (a : Nat) : ¬ Prec l a a := by
 have := J0 l a a
 unfold Prec; omega
theorem zGB {S : List Nat} {x : Nat} (hs : S.Pairwise (Prec l)) (hx : ∀ y, y ∈ S → y < x) : (zMu (cfI l) S x).Pairwise (Prec l) := by
 obtain ⟨A, B, rfl, h2, h3, h4⟩ := zF9 (cfI l) x S
 rw [h2]
 obtain ⟨hA, hB, hAB⟩ := List.pairwise_append.1 hs
 have hAx : ∀ y, y ∈ A → Prec l y x := fun y hy => by
  refine .inr ⟨?_, hx y (by simp [hy])⟩
  obtain ⟨A', z, rfl⟩ : ∃ A' z, A = A' ++ [z] := by
   have hne : A ≠ [] := fun e => by rw [e] at hy; cases hy
   exact ⟨A.dropLast, A.getLast hne, (List.dropLast_concat_getLast hne).symm⟩
  have hz := h4 z (by simp)
  rcases List.mem_append.1 hy with hy | hy
  ·have hyz := (List.pairwise_append.1 hA).2.2 y hy z (by simp)
   have hz2 : ¬ cfI l z y < 0 := by
    have := J0 l y z
    rcases hyz with h | h <;> omega
   exact F5 l hz hz2
  ·rw [List.mem_singleton.1 hy]; exact hz
 refine List.pairwise_append.2 ⟨hA, List.pairwise_cons.2 ⟨fun y hy => .inl (h3 y hy), hB⟩, fun a ha b hb => ?_⟩
 rcases List.mem_cons.1 hb with rfl | hb
 ·exact hAx a ha
 ·exact hAB a ha b hb
theorem zCS : ∀ n : Nat, (l5 (cfI l) (List.range n)).Pairwise (Prec l)
 | 0 => .nil
 | n + 1 => by
  rw [List.range_succ, zCT]
  refine zGB l (zCS n) (fun y hy => ?_)
  have := (E4 (cfI l) (List.range n)).mem_iff.1 hy
  simpa using this
theorem zHd : (r6 l).Pairwise (Prec l) := zCS l l.length
theorem G3 : (r6 l).Perm (List.range l.length) := E4 _ _
theorem C8 : (r6 l).length = l.length := by rw [(G3 l).length_eq, List.length_range]
def zAp (i : Nat) : Nat := (List.range l.length).countP fun k => V6 (l.getD k []) (l.getD i []) || (decide (k < i) && !V6 (l.getD i []) (l.getD k []))
theorem zEn {α : Type} (p : α → Bool) {a b : List α} (h : a.Perm b) : a.countP p = b.countP p := h.countP_eq p
theorem zC6 {R : Nat → Nat → Prop} (irr : ∀ a, ¬ R a a) (tr : ∀ {a b c}, R a b → R b c → R a c) (p : Nat → Nat → Bool) (hp : ∀ a b, p a b = true ↔ R a b) : ∀ (S : List Nat), S.Pairwise R → ∀ j (h : j < S.length), S.countP (fun k => p k S[j]) = j
 | [], _, j, h => by simp at h
 | x :: r, hs, j, h => by
  obtain ⟨h1, h2⟩ := List.pairwise_cons.1 hs
  cases j with
  | zero =>
   simp only [List.getElem_cons_zero]
   rw [List.countP_eq_zero]
   intro k hk
   rw [hp]
   rcases List.mem_cons.1 hk with rfl | hk
   ·exact irr _
   ·exact fun e => irr _ (tr (h1 k hk) e)
  | succ j =>
   simp only [List.getElem_cons_succ]
   have hj : j < r.length := by simpa using h
   have e : p x r[j] = true := (hp _ _).2 (h1 _ (List.getElem_mem hj))
   rw [List.countP_cons, zC6 irr tr p hp r h2 j hj]
   simp [e]
theorem zLt (hv : ∀ s, s ∈ l → ValidN s) {j : Nat} (h : j < (r6 l).length) : zAp l (r6 l)[j] = j := by
 have hin : ∀ i, i ∈ r6 l → i < l.length := fun i hi => by simpa using (G3 l).mem_iff.1 hi
 have hvi : ∀ i, i < l.length → ValidN (l.getD i []) := fun i hi => hv _ (by simp [List.getD, hi])
 have hn : zAp l (r6 l)[j] = (r6 l).countP (fun k => decide (cfI l k (r6 l)[j] < 0) || (decide (k < (r6 l)[j]) && !decide (cfI l (r6 l)[j] k < 0))) := by
  unfold zAp
  rw [← zEn _ (G3 l)]
  refine List.countP_congr (fun k hk => ?_)
  have vk := hvi k (hin k hk)
  have vj := hvi _ (hin _ (List.getElem_mem h))
  have a1 : V6 (l.getD k []) (l.getD (r6 l)[j] []) = decide (cfI l k (r6 l)[j] < 0) := by
   apply Bool.eq_iff_iff.2
   rw [decide_eq_true_eq]; exact (A8 vk vj).symm
  have a2 : V6 (l.getD (r6 l)[j] []) (l.getD k []) = decide (cfI l (r6 l)[j] k < 0) := by
   apply Bool.eq_iff_iff.2
   rw [decide_eq_true_eq]; exact (A8 vj vk).symm
  rw [a1, a2]
 rw [hn]
 exact zC6 (R := Prec l) (Prec.irrefl l) (Prec.trans l) (fun a b => decide (cfI l a b < 0) || (decide (a < b) && !decide (cfI l b a < 0))) (fun a b => by
  unfold Prec
  rw [Bool.or_eq_true, Bool.and_eq_true, decide_eq_true_eq, decide_eq_true_eq, Bool.not_eq_true', decide_eq_false_iff_not]
  constructor
  ·rintro (h | h)
   ·exact .inl h
   ·exact .inr ⟨h.2, h.1⟩
  ·rintro (h | h)
   ·exact .inl h
   ·exact .inr ⟨h.2, h.1⟩) (r6 l) (zHd l) j h
end
end Go.Abs

namespace Go.Proofs
open Go.Shelf
def Tryz.lays159_ren : Go.Shelf.Ren := ⟨fun | 159 => 143 | 165 => 163 | 166 => 164 | 167 => 165 | 169 => 166 | 230 => 167 | 204 => 168 | 240 => 182 | 241 => 183 | 197 => 184 | 118 => 185 | 168 => 186 | 270 => 187 | 262 => 188 | 276 => 194 | 277 => 195 | 260 => 196 | 242 => 197 | 313 => 198 | 278 => 200 | 274 => 201 | 275 => 202 | n => n, fun | 9 => 9 | 4 => 4 | 3 => 3 | 5 => 5 | 72 => 180 | 0 => 0 | 76 => 182 | 75 => 147 | 107 => 187 | 70 => 178 | 20 => 20 | 37 => 141 | 127 => 207 | 21 => 21 | 105 => 208 | 164 => 165 | 162 => 219 | 203 => 217 | 119 => 220 | 46 => 89 | 139 => 223 | 138 => 222 | 51 => 224 | 160 => 225 | 208 => 231 | 206 => 229 | 80 => 185 | n => n, fun | 13 => 2 | 3 => 3 | 4 => 4 | n => n⟩
theorem Tryz.lays159 : Go.Proofs.Lays.n159 Tryz.prog Tryz.lays159_ren := {
 mixed := by kernel_rfl
 f118 := Tryz.func185.trans (congrArg some (by kernel_rfl))
 f159 := Tryz.func143.trans (congrArg some (by kernel_rfl))
 f165 := Tryz.func163.trans (congrArg some (by kernel_rfl))
 f166 := Tryz.func164.trans (congrArg some (by kernel_rfl))
 f167 := Tryz.func165.trans (congrArg some (by kernel_rfl))
 f168 := Tryz.func186.trans (congrArg some (by kernel_rfl))
 f169 := Tryz.func166.trans (congrArg some (by kernel_rfl))
 f197 := Tryz.func184.trans (congrArg some (by kernel_rfl))
 f204 := Tryz.func168.trans (congrArg some (by kernel_rfl))
 f230 := Tryz.func167.trans (congrArg some (by kernel_rfl))
 f240 := Tryz.func182.trans (congrArg some (by kernel_rfl))
 f241 := Tryz.func183.trans (congrArg some (by kernel_rfl))
 f242 := Tryz.func197.trans (congrArg some (by kernel_rfl))
 f260 := Tryz.func196.trans (congrArg some (by kernel_rfl))
 f262 := Tryz.func188.trans (congrArg some (by kernel_rfl))
 f270 := Tryz.func187.trans (congrArg some (by kernel_rfl))
 f274 := Tryz.func201.trans (congrArg some (by kernel_rfl))
 f275 := Tryz.func202.trans (congrArg some (by kernel_rfl))
 f276 := Tryz.func194.trans (congrArg some (by kernel_rfl))
 f277 := Tryz.func195.trans (congrArg some (by kernel_rfl))
 f278 := Tryz.func200.trans (congrArg some (by kernel_rfl))
 f313 := Tryz.func198.trans (congrArg some (by kernel_rfl))
 t0 := Tryz.underlying0
 a0 := Tryz.isAgg0
 z0 := Tryz.sizeOf0
 v0 := Tryz.zeroValue0
 t3 := Tryz.underlying3
 a3 := Tryz.isAgg3
 z3 := Tryz.sizeOf3
 v3 := Tryz.zeroValue3
 t4 := Tryz.underlying4
 a4 := Tryz.isAgg4
 z4 := Tryz.sizeOf4
 v4 := Tryz.zeroValue4
 t5 := Tryz.underlying5
 a5 := Tryz.isAgg5
 z5 := Tryz.sizeOf5
 v5 := Tryz.zeroValue5
 t9 := Tryz.underlying9
 a9 := Tryz.isAgg9
 z9 := Tryz.sizeOf9
 v9 := Tryz.zeroValue9
 t20 := Tryz.underlying20
 a20 := Tryz.isAgg20
 z20 := Tryz.sizeOf20
 v20 := Tryz.zeroValue20
 t21 := Tryz.underlying21
 a21 := Tryz.isAgg21
 z21 := Tryz.sizeOf21
 v21 := Tryz.zeroValue21
 t37 := Tryz.underlying141
 a37 := Tryz.isAgg141
 z37 := Tryz.sizeOf141
 v37 := Tryz.zeroValue141
 t46 := Tryz.underlying89
 a46 := Tryz.isAgg89
 z46 := Tryz.sizeOf89
 v46 := Tryz.zeroValue89
 t51 := Tryz.underlying224
 a51 := Tryz.isAgg224
 z51 := Tryz.sizeOf224
 v51 := Tryz.zeroValue224
 t70 := Tryz.underlying178
 a70 := Tryz.isAgg178
 z70 := Tryz.sizeOf178
 v70 := Tryz.zeroValue178
 t72 := Tryz.underlying180
 a72 := Tryz.isAgg180
 z72 := Tryz.sizeOf180
 v72 := Tryz.zeroValue180
 t75 := Tryz.underlying147
 a75 := Tryz.isAgg147
 z75 := Tryz.sizeOf147
 v75 := Tryz.zeroValue147
 t76 := Tryz.underlying182
 a76 := Tryz.isAgg182
 z76 := Tryz.sizeOf182
 v76 := Tryz.zeroValue182
 t105 := Tryz.underlying208
 a105 := Tryz.isAgg208
 z105 := Tryz.sizeOf208
 v105 := Tryz.zeroValue208
 t107 := Tryz.underlying187
 a107 := Tryz.isAgg187
 z107 := Tryz.sizeOf187
 v107 := Tryz.zeroValue187
 t119 := Tryz.underlying220
 a119 := Tryz.isAgg220
 z119 := Tryz.sizeOf220
 t127 := Tryz.underlying207
 a127 := Tryz.isAgg207
 z127 := Tryz.sizeOf207
 v127 := Tryz.zeroValue207
 t138 := Tryz.underlying222
 a138 := Tryz.isAgg222
 z138 := Tryz.sizeOf222
 v138 := Tryz.zeroValue222
 t139 := Tryz.underlying223
 a139 := Tryz.isAgg223
 z139 := Tryz.sizeOf223
 v139 := Tryz.zeroValue223
 t160 := Tryz.underlying225
 a160 := Tryz.isAgg225
 z160 := Tryz.sizeOf225
 v160 := Tryz.zeroValue225
 t162 := Tryz.underlying219
 a162 := Tryz.isAgg219
 z162 := Tryz.sizeOf219
 v162 := Tryz.zeroValue219
 t164 := Tryz.underlying165
 a164 := Tryz.isAgg165
 z164 := Tryz.sizeOf165
 v164 := Tryz.zeroValue165
 t203 := Tryz.underlying217
 a203 := Tryz.isAgg217
 z203 := Tryz.sizeOf217
 v203 := Tryz.zeroValue217
 t206 := Tryz.underlying229
 a206 := Tryz.isAgg229
 z206 := Tryz.sizeOf229
 v206 := Tryz.zeroValue229
 t208 := Tryz.underlying231
 a208 := Tryz.isAgg231
 z208 := Tryz.sizeOf231
 v208 := Tryz.zeroValue231
 g3 := by kernel_rfl
 g4 := by kernel_rfl
 g13 := by kernel_rfl }
theorem Tryz.Builder_Extra_159 : Builder.Extra Tryz.prog Tryz.lays159_ren := {
 sizeBuilder := by kernel_rfl
 liesBuilder := by kernel_rfl
 t5 := Tryz.underlying5
 a5 := Tryz.isAgg5
 z5 := Tryz.sizeOf5
 v5 := Tryz.zeroValue5
 infoByte := by kernel_rfl
 cellsByte := by kernel_rfl
 sizeByte := by kernel_rfl
 neB5 := by decide }
open Go.RowKit in
theorem Tryz.strings_ToLower_ascii (s : ByteArray) (w : World) (hs : s.size ≤ 140737488355328) (hascii : ∀ (j : Nat) (b : UInt8), s.data.toList[j]? = some b → b.toNat < 128) :
  Calls Tryz.prog 143 #[.string s] w fun e w' => e = .returned (.string ⟨(Lib.toLowerA s.data.toList).toArray⟩) ∧ Below w.heap.size w w' := Any.strings_ToLower_ascii Tryz.lays159 Tryz.Builder_Extra_159 s w hs hascii
def Tryz.lays151_ren : Go.Shelf.Ren := ⟨fun | 151 => 128 | 152 => 152 | 137 => 173 | 119 => 174 | 224 => 175 | 225 => 176 | 217 => 191 | 266 => 199 | n => n, fun | 9 => 9 | 21 => 21 | 4 => 4 | 3 => 3 | 5 => 5 | 0 => 0 | 46 => 89 | n => n, fun | n => n⟩
theorem Tryz.lays151 : Go.Proofs.Lays.n151 Tryz.prog Tryz.lays151_ren := {
 mixed := by kernel_rfl
 f119 := Tryz.func174.trans (congrArg some (by kernel_rfl))
 f137 := Tryz.func173.trans (congrArg some (by kernel_rfl))
 f151 := Tryz.func128.trans (congrArg some (by kernel_rfl))
 f152 := Tryz.func152.trans (congrArg some (by kernel_rfl))
 f217 := Tryz.func191.trans (congrArg some (by kernel_rfl))
 f224 := Tryz.func175.trans (congrArg some (by kernel_rfl))
 f225 := Tryz.func176.trans (congrArg some (by kernel_rfl))
 f266 := Tryz.func199.trans (congrArg some (by kernel_rfl))
 t0 := Tryz.underlying0
 a0 := Tryz.isAgg0
 z0 := Tryz.sizeOf0
 v0 := Tryz.zeroValue0
 t3 := Tryz.underlying3
 a3 := Tryz.isAgg3
 z3 := Tryz.sizeOf3
 v3 := Tryz.zeroValue3
 t4 := Tryz.underlying4
 a4 := Tryz.isAgg4
 z4 := Tryz.sizeOf4
 v4 := Tryz.zeroValue4
 t5 := Tryz.underlying5
 a5 := Tryz.isAgg5
 z5 := Tryz.sizeOf5
 v5 := Tryz.zeroValue5
 t9 := Tryz.underlying9
 a9 := Tryz.isAgg9
 z9 := Tryz.sizeOf9
 v9 := Tryz.zeroValue9
 t21 := Tryz.underlying21
 a21 := Tryz.isAgg21
 z21 := Tryz.sizeOf21
 v21 := Tryz.zeroValue21
 t46 := Tryz.underlying89
 a46 := Tryz.isAgg89
 z46 := Tryz.sizeOf89
 v46 := Tryz.zeroValue89 }
open Go.RowKit Go.Lib in
theorem Tryz.strings_ContainsRune_ascii (s : ByteArray) (r : Int) (w : World) (h0 : 0 ≤ r) (h1 : r < 128) :
  Calls Tryz.prog 128 #[.string s, .int .i32 r] w fun e w' => e = .returned (.bool (decide (0 ≤ Lib.indexByte s.data.toList r.toNat.toUInt8))) ∧ w' = w := Any.strings_ContainsRune_ascii Tryz.lays151 s r w h0 h1
end Go.Proofs

namespace Go.Abs
open Go Go.Proofs Go.Proofs.YteehcinnfiaklaaGreatDoor
theorem zGL {P : Program} {w : World} {a b c : String × DataW Unit} (h : laidMet P [a, c, b] w) : laidMet P [a, b, c] w := by
 obtain ⟨ps, hv, hn, hr⟩ := h
 obtain ⟨n1, d1⟩ := a
 obtain ⟨n2, d2⟩ := b
 obtain ⟨n3, d3⟩ := c
 obtain ⟨g1, t1, c1, f1, p1, q1, a1, b1, v1, r1, ⟨g3, t3, c3, f3, p3, q3, a3, b3, v3, r3, ⟨g2, t2, c2, f2, p2, q2, a2, b2, v2, r2, e2, rfl⟩, rfl⟩, rfl⟩ := hv
 cases (show q2 = [] from e2)
 have hp : ((MemPlace.row ⟨g1, 0, none⟩ c1.size ++ p1) ++ ((MemPlace.row ⟨g3, 0, none⟩ c3.size ++ p3) ++ ((MemPlace.row ⟨g2, 0, none⟩ c2.size ++ p2) ++ []))).Perm ((MemPlace.row ⟨g1, 0, none⟩ c1.size ++ p1) ++ ((MemPlace.row ⟨g2, 0, none⟩ c2.size ++ p2) ++ ((MemPlace.row ⟨g3, 0, none⟩ c3.size ++ p3) ++ []))) := by
  simp only [List.append_nil]
  exact List.Perm.append_left _ List.perm_append_comm
 exact ⟨_, ⟨g1, t1, c1, f1, p1, _, a1, b1, v1, r1, ⟨g2, t2, c2, f2, p2, _, a2, b2, v2, r2, ⟨g3, t3, c3, f3, p3, [], a3, b3, v3, r3, rfl, rfl⟩, rfl⟩, rfl⟩, hp.nodup_iff.1 hn, fun b off hm => hr b off (hp.mem_iff.2 hm)⟩
noncomputable def zGM (os : Os) : World :=
 let N := (World.settled Tryz.prog os).heap.size
 let w0 := World.holding Tryz.prog os ⟨#[.cells Lib.caseCells5 (Tryz.lays159_ren.t 208)], #[], []⟩
 let put (h : Array Obj) (g : Nat) (cs : Array Value) : Array Obj := h.modify g fun
  | .cells _ t frozen => .cells cs t frozen
  | o => o
 let h1 := put w0.heap 3 (Lib.firstTab.map fun z => Value.int .u8 z).toArray
 let h2 := put h1 4 ((List.range 16).flatMap fun i => [Value.int .u8 (Lib.accLo i), Value.int .u8 (Lib.accHi i)]).toArray
 let h3 := put h2 2 #[.slice (some ⟨N, 0, none⟩) 336 336]
 { w0 with heap := h3 }
theorem zEB : (Rows.laid_unicode_utf8_acceptRanges : DataW Unit) = Lib.acceptData := by kernel_rfl
theorem zEY : Rows.laid_unicode_CaseRanges = Lib.caseData := by kernel_rfl
theorem zE9 : Rows.laid_unicode_utf8_first = Lib.firstData := by kernel_rfl
theorem zKv (os : Os) (args : Array Value) : laidMet Tryz.prog [("unicode/utf8.acceptRanges", Rows.laid_unicode_utf8_acceptRanges), ("unicode.CaseRanges", Rows.laid_unicode_CaseRanges), ("unicode/utf8.first", Rows.laid_unicode_utf8_first)] ((zGM os).forCall (fun _ _ => 0) ⟨#[], args, []⟩).memory := by
 rw [zEB, zEY, zE9]
 refine zGL ?_
 exact laidMet_with_case (ρ := Tryz.lays159_ren) { Tryz.lays159 with } Tryz.lays159.t206 ⟨by kernel_rfl, by kernel_rfl, by kernel_rfl, by kernel_rfl, by kernel_rfl, by kernel_rfl⟩
  (l := [("unicode/utf8.acceptRanges", Lib.acceptData), ("unicode/utf8.first", Lib.firstData)])
  10 (by kernel_rfl) (by kernel_rfl) (by kernel_rfl) ((World.settled Tryz.prog default).heap.size) (Tryz.lays159_ren.t 208) (of_decide_eq_true (by kernel_rfl)) (by kernel_rfl) (by kernel_rfl) (by kernel_rfl)
theorem zLh : laidOutB Tryz.pinned.checked.prog = true := by kernel_rfl
theorem zLj : mapsRowed Tryz.pinned.checked.prog = true := by kernel_rfl
theorem zLk : (Tryz.pinned.checked.prog.stops == []) = true := by kernel_rfl
theorem zLg : (Tryz.pinned.checked.prog.stopKnobs == []) = true := by kernel_rfl
theorem zLf : Tryz.pinned.checked.prog.stopsHeard = true := by kernel_rfl
theorem zLe : Tryz.pinned.checked.prog.mayEnter = true := by kernel_rfl
theorem zLi : true = Tryz.pinned.checked.prog.looks [] := by kernel_rfl
end Go.Abs

namespace Go.Abs
open Go Go.Proofs Tryz
attribute [local irreducible] y6 Hold x5
attribute [go_sem] u6 Nat.le_refl Nat.sub_zero Int.reduceGT Nat.reduceGT Int.reduceGE
@[go_sem ↓] theorem zKs (a b : Int) (K : Cont) : zNM .xor .u64 a b K = K (uV (Q9 a b)) [] [] := rfl
@[go_sem ↓] theorem zMB (a b : Int) (K : Cont) : P5 .shl .u64 a b K = (0 ≤ b ∧ K (uV (G1 a b.toNat)) [] []) := rfl
@[go_sem ↓] theorem zMC (a b : Int) (K : Cont) : P5 .shr .u64 a b K = (0 ≤ b ∧ K (uV (e7 a b.toNat)) [] []) := rfl
@[go_sem] theorem zKE (s : Int) : Q9 s (G1 s 13) = zNo s := rfl
@[go_sem] theorem zKF (s : Int) : Q9 s (e7 s 7) = zNp s := rfl
@[go_sem] theorem zKG (s : Int) : Q9 s (G1 s 17) = zNq s := rfl
@[go_sem] theorem zKH (s : Int) : zNq (zNp (zNo s)) = I9 s := rfl
@[go_sem] theorem zKI (n : Int) : IntKind.u64.wrap (Q9 n (e7 n 30) * 10723151780598845931) = zNZ n := rfl
theorem zIU (d : Dice) (h : d.list.length ≤ 4294967296) : zMf prog 77 [.ptr 0 0] [u6 d] (uV (zM7 d)) [u6 (zM5 d)] := by
 have e2 : (zM5 d).list = d.list := rfl
 have e4 : (zM5 d).seed = zNB d := rfl
 have e6 : zM7 d = Q9 (zNZ (zNB d)) (e7 (zNZ (zNB d)) 31) := rfl
 by_cases q : d.at_ < d.list.length
 ·have q2 : ((d.at_ : Int) < (d.list.length : Int)) := by omega
  have e1 : zNB d = IntKind.u64.wrap (I9 d.seed + IntKind.u64.wrap (IntKind.u64.wrap (d.list.getD d.at_ default) * 13787848793156543929)) := by unfold zNB; rw [if_pos q]
  have e3 : (zM5 d).at_ = d.at_ + 1 := by unfold zM5; simp only; rw [if_pos q]
  have e5 : IntKind.i64.wrap ((d.at_ : Int) + 1) = ((d.at_ + 1 : Nat) : Int) := r7 (by omega)
  generalize zM5 d = d' at *
  refine q9 func77 rfl (fun E hE => ?_); simp only [go_sem, ntmps77]
  repeat' (first | (refine Qr rfl ?_; try intro _ hK; try simp only [go_sem, *]) | refine Qh rfl ?_ | refine Qd rfl (by kernel_rfl) ?_ | (refine Qc rfl rfl ?_ ?_ <;> (intro hb; have hc := hb; try simp only [go_sem] at hc)) | refine q8 rfl ?_ | (refine Qb ?_ ?_; focus kernel_rfl) | ((with_reducible apply And.intro); focus omega) | (refine q7 hK ?_; clear hK; simp only [go_sem, *]) | simp only [q6, z8, go_sem, *])
  all_goals first | contradiction | omega | skip
  refine ⟨[_], [some 0], [], ⟨rfl, trivial⟩, ?_⟩
  simp only [go_sem, *]
 ·have q2 : ¬ ((d.at_ : Int) < (d.list.length : Int)) := by omega
  have e1 : zNB d = I9 d.seed := by unfold zNB; rw [if_neg q]
  have e3 : (zM5 d).at_ = d.at_ := by unfold zM5; simp only; rw [if_neg q]
  generalize zM5 d = d' at *
  refine q9 func77 rfl (fun E hE => ?_); simp only [go_sem, ntmps77]
  repeat' (first | (refine Qr rfl ?_; try intro _ hK; try simp only [go_sem, *]) | refine Qh rfl ?_ | refine Qd rfl (by kernel_rfl) ?_ | (refine Qc rfl rfl ?_ ?_ <;> (intro hb; have hc := hb; try simp only [go_sem] at hc)) | refine q8 rfl ?_ | (refine Qb ?_ ?_; focus kernel_rfl) | ((with_reducible apply And.intro); focus omega) | (refine q7 hK ?_; clear hK; simp only [go_sem, *]) | simp only [q6, z8, go_sem, *])
  all_goals first | contradiction | omega | skip
  refine ⟨[_], [some 0], [], ⟨rfl, trivial⟩, ?_⟩
  simp only [go_sem, *]
theorem X4 (d : Dice) (n : Int) (h : d.list.length ≤ 4294967296) (hn : n ≤ 4294967296) : zMf prog 26 [.ptr 0 0, iV n] [u6 d] (iV (toN n d)) [u6 (toD n d)] := by
 by_cases q : n < 1
 ·have e1 : toN n d = 0 := by unfold toN; rw [if_pos q]
  have e2 : toD n d = d := by unfold toD; rw [if_pos q]
  refine q9 func26 rfl (fun E hE => ?_); simp only [go_sem, ntmps26]
  repeat' (first | (refine Qr rfl ?_; try intro _ hK; try simp only [go_sem, *]) | refine Qh rfl ?_ | (refine Qc rfl rfl ?_ ?_ <;> (intro hb; have hc := hb; try simp only [go_sem] at hc)) | refine q8 rfl ?_ | ((with_reducible apply And.intro); focus omega) | (refine q7 hK ?_; clear hK; simp only [go_sem, *]) | simp only [q6, z8, go_sem, *])
  all_goals first | contradiction | omega | skip
  refine ⟨[_], [some 0], [], ⟨rfl, trivial⟩, ?_⟩
  simp only [go_sem, *]
 ·have e1 : toN n d = (e7 (zM7 d) 16).tmod (n + 1) := by unfold toN; rw [if_neg q]
  have e2 : toD n d = zM5 d := by unfold toD; rw [if_neg q]
  have hr := zDr n d
  rw [e1] at hr
  have e3 : IntKind.i64.wrap (n + 1) = n + 1 := wrap_i64 (by omega) (by omega)
  have e4 : IntKind.u64.wrap (n + 1) = n + 1 := by rw [IntKind.wrap_u64]; omega
  have e5 : IntKind.i64.wrap ((e7 (zM7 d) 16).tmod (n + 1)) = (e7 (zM7 d) 16).tmod (n + 1) := wrap_i64 (by omega) (by omega)
  have e6 : ¬ n + 1 = 0 := by omega
  have sr := zIU d h
  generalize zM7 d = r at *
  generalize zM5 d = d' at *
  clear hr
  refine q9 func26 rfl (fun E hE => ?_); simp only [go_sem, ntmps26]
  repeat' (first | (refine Qr rfl ?_; try intro _ hK; try simp only [go_sem, *]) | refine Qh rfl ?_ | (refine Qc rfl rfl ?_ ?_ <;> (intro hb; have hc := hb; try simp only [go_sem] at hc)) | refine q8 rfl ?_ | (refine t8 [0] (sr) ?_; simp only [go_sem, *]) | ((with_reducible apply And.intro); focus omega) | (refine q7 hK ?_; clear hK; simp only [go_sem, *]) | simp only [q6, z8, go_sem, *])
  all_goals first | contradiction | omega | skip
  refine ⟨[_], [some 0], [], ⟨rfl, trivial⟩, ?_⟩
  simp only [go_sem, *]
theorem zHs (d : Dice) (lo hi : Int) (h : d.list.length ≤ 4294967296) (hl : 0 ≤ lo ∧ lo ≤ hi) (hh : hi ≤ 4294967296) : zMf prog 27 [.ptr 0 0, iV lo, iV hi] [u6 d] (iV (Z9 lo hi d)) [u6 (W1 lo hi d)] := by
 have st := X4 d (hi - lo) h (by omega)
 have hf := zAJ hl.2 d
 have e1 : IntKind.i64.wrap (hi - lo) = hi - lo := wrap_i64 (by omega) (by omega)
 have e2 : IntKind.i64.wrap (lo + toN (hi - lo) d) = Z9 lo hi d := by
  have : lo + toN (hi - lo) d = Z9 lo hi d := rfl
  rw [this]; exact wrap_i64 (by omega) (by omega)
 have e3 : W1 lo hi d = toD (hi - lo) d := rfl
 rw [e3]
 generalize Z9 lo hi d = r at *
 clear e3 hf hl
 refine q9 func27 rfl (fun E hE => ?_); simp only [go_sem, ntmps27]
 repeat' (first | (refine Qr rfl ?_; try intro _ hK; try simp only [go_sem, *]) | refine Qh rfl ?_ | (refine Qc rfl rfl ?_ ?_ <;> (intro hb; have hc := hb; try simp only [go_sem] at hc)) | refine q8 rfl ?_ | (refine t8 [0] (st) ?_; simp only [go_sem, *]) | ((with_reducible apply And.intro); focus omega) | (refine q7 hK ?_; clear hK; simp only [go_sem, *]) | simp only [q6, z8, go_sem, *])
 refine ⟨[_], [some 0], [], ⟨rfl, trivial⟩, ?_⟩
 simp only [go_sem, *]
theorem zA0 (d : Dice) (k : Int) (h : d.list.length ≤ 4294967296) (hk : 0 ≤ k ∧ k ≤ 4294967296) : zMf prog 34 [.ptr 0 0, iV k] [u6 d] (bV (X0 k d)) [u6 (t7 k d)] := by
 have st := X4 d (k - 1) h (by omega)
 have e1 : IntKind.i64.wrap (k - 1) = k - 1 := wrap_i64 (by omega) (by omega)
 have e2 : X0 k d = (toN (k - 1) d == 0) := rfl
 have e3 : t7 k d = toD (k - 1) d := rfl
 rw [e3, e2]
 clear e2 e3 hk
 refine q9 func34 rfl (fun E hE => ?_); simp only [go_sem, ntmps34]
 repeat' (first | (refine Qr rfl ?_; try intro _ hK; try simp only [go_sem, *]) | refine Qh rfl ?_ | (refine Qc rfl rfl ?_ ?_ <;> (intro hb; have hc := hb; try simp only [go_sem] at hc)) | refine q8 rfl ?_ | (refine t8 [0] (st) ?_; simp only [go_sem, *]) | ((with_reducible apply And.intro); focus omega) | (refine q7 hK ?_; clear hK; simp only [go_sem, *]) | simp only [q6, z8, go_sem, *])
 refine ⟨[_], [some 0], [], ⟨rfl, trivial⟩, ?_⟩
 simp only [go_sem, *]
@[reducible] def R5 (l : List Int) : AV := .list (l.map iV)
def zCx (l : List Int) : Dice := ⟨l, 0, 11400714819323198485⟩
theorem zHz (l : List Int) : zMf prog 23 [R5 l] [] (.ptr 0 0) [u6 (zCx l)] := by
 refine q9 func23 rfl (fun E hE => ?_); simp only [go_sem, ntmps23]
 repeat' (first | (refine Qr rfl ?_; try intro _ hK; try simp only [go_sem, *]) | refine Qh rfl ?_ | (refine Qc rfl rfl ?_ ?_ <;> (intro hb; have hc := hb; try simp only [go_sem] at hc)) | refine q8 rfl ?_ | ((with_reducible apply And.intro); focus omega) | (refine q7 hK ?_; clear hK; simp only [go_sem, *]) | simp only [q6, z8, go_sem, *])
 refine ⟨[_], [some 0], [], ⟨rfl, trivial⟩, ?_⟩
 simp only [go_sem, zCx, *]
 try rfl
end Go.Abs

namespace Go.Abs
open Go
end Go.Abs

namespace Go.Abs
open Go
def zKq (x : Str) : Prop := x.head? ≠ some 104
end Go.Abs

namespace Go.Abs
open Go
theorem zBW (p : Nat → Bool) : ∀ n : Nat, ∃ set, set < 2 ^ n ∧ ∀ i, i < n → set.testBit i = p i
 | 0 => ⟨0, by simp, fun i h => by omega⟩
 | n + 1 => by
  obtain ⟨s, h1, h2⟩ := zBW p n
  cases hp : p n with
  | false =>
   refine ⟨s, by rw [Nat.pow_succ]; omega, fun i hi => ?_⟩
   by_cases e : i = n
   ·subst e; rw [hp]; exact Nat.testBit_lt_two_pow h1
   ·exact h2 i (by omega)
  | true =>
   refine ⟨2 ^ n + s, by rw [Nat.pow_succ]; omega, fun i hi => ?_⟩
   by_cases e : i = n
   ·subst e; rw [hp, Nat.testBit_two_pow_add_eq, Nat.testBit_lt_two_pow h1]; rfl
   ·rw [Nat.testBit_two_pow_add_gt (by omega)]; exact h2 i (by omega)
def Asc (n : Nat) (c : List Nat) : Prop := c.Pairwise (· < ·) ∧ ∀ i, i ∈ c → i < n
def P7 (l : List Str) (c : List Nat) : List Str := ((List.range l.length).filter fun i => !decide (i ∈ c)).map fun i => l.getD i []
theorem zBS {n : Nat} {c d : List Nat} (hc : Asc n c) (hd : Asc n d) (h : ∀ i, i ∈ c ↔ i ∈ d) : c = d :=
 List.Perm.eq_of_pairwise (le := (· < ·)) (fun a b _ _ h1 h2 => by omega) hc.1 hd.1 ((List.perm_ext_iff_of_nodup (hc.1.imp (fun h => Nat.ne_of_lt h)) (hd.1.imp (fun h => Nat.ne_of_lt h))).2 h)
theorem zC2 (n set : Nat) : Asc n (M4 n set) := ⟨(List.pairwise_lt_range).filter _, fun i hi => by simpa using (List.mem_filter.1 hi).1⟩
theorem mem_rightSets {l : List Str} {c : List Nat} : c ∈ D6 l ↔ Asc l.length c ∧ i9 (P7 l c) = true := by
 unfold D6
 rw [List.mem_filterMap]
 have hrest : ∀ set, zAq l set = P7 l (M4 l.length set) := fun set => by
  unfold zAq P7 M4
  congr 1
  refine List.filter_congr (fun i hi => ?_)
  have hi' : i < l.length := by simpa using hi
  simp [hi']
 constructor
 ·rintro ⟨set, _, h⟩
  split at h
  ·rename_i ho
   cases h
   exact ⟨zC2 _ _, by rw [← hrest]; exact ho⟩
  ·cases h
 ·rintro ⟨h1, h2⟩
  obtain ⟨set, hs, hb⟩ := zBW (fun i => decide (i ∈ c)) l.length
  have e : M4 l.length set = c := zBS (zC2 _ _) h1 (fun i => by
   unfold M4
   rw [List.mem_filter]
   constructor
   ·rintro ⟨h3, h4⟩
    rw [hb i (by simpa using h3)] at h4
    simpa using h4
   ·intro h3
    exact ⟨by simpa using h1.2 i h3, by rw [hb i (h1.2 i h3)]; simpa using h3⟩)
  refine ⟨set, by simpa using hs, ?_⟩
  rw [hrest, e, if_pos h2]
theorem J1 : ∀ x y : List Nat, l3 y x = -l3 x y
 | [], [] => rfl
 | [], _ :: _ => rfl
 | _ :: _, [] => rfl
 | a :: x, b :: y => by
  rw [l3, l3, zBf a b]
  by_cases h : zMm a b = 0
  ·rw [if_pos h, if_pos (by omega), J1 x y]
  ·rw [if_neg h, if_neg (by omega)]
theorem cmpN_zero {a b : Int} : zMm a b = 0 ↔ a = b := by
 unfold zMm
 repeat' split
 all_goals omega
theorem zBg : ∀ {x y : List Nat}, l3 x y = 0 → x = y
 | [], [], _ => rfl
 | [], _ :: _, h => by cases h
 | _ :: _, [], h => by cases h
 | a :: x, b :: y, h => by
  rw [l3] at h
  split at h
  ·rename_i e
   have := cmpN_zero.1 e
   rw [show a = b by omega, zBg h]
  ·rename_i e; exact absurd h e
theorem zB6 : ∀ {x y z : List Nat}, ¬ l3 x y < 0 → ¬ l3 y z < 0 → ¬ l3 x z < 0
 | [], [], _, _, h => h
 | [], _ :: _, _, h, _ => absurd (by rw [l3]; decide) h
 | _ :: _, [], [], _, _ => by rw [l3]; decide
 | _ :: _, [], _ :: _, _, h => absurd (by rw [l3]; decide) h
 | _ :: _, _ :: _, [], _, _ => by rw [l3]; decide
 | a :: x, b :: y, c :: z, h1, h2 => by
  rw [l3] at *
  have rc := fun p q => zB6 (x := x) (y := y) (z := z) p q
  by_cases e1 : zMm a b = 0
  ·rw [if_pos e1] at h1
   rw [cmpN_zero.1 e1]
   by_cases e2 : zMm b c = 0
   ·rw [if_pos e2] at h2 ⊢
    exact rc h1 h2
   ·rw [if_neg e2] at h2 ⊢
    exact h2
  ·rw [if_neg e1] at h1
   by_cases e2 : zMm b c = 0
   ·rw [if_pos e2] at h2
    rw [← cmpN_zero.1 e2, if_neg e1]; exact h1
   ·rw [if_neg e2] at h2
    have : ¬ zMm a c = 0 ∧ ¬ zMm a c < 0 := by
     unfold zMm at *
     repeat' split at h1
     all_goals repeat' split at h2
     all_goals repeat' split
     all_goals omega
    rw [if_neg this.1]; exact this.2
theorem shorter_neg {a b : List Nat} : Q2 a b < 0 ↔ a.length < b.length ∨ (a.length = b.length ∧ l3 a b < 0) := by
 unfold Q2 orI
 by_cases h : zMm a.length b.length = 0
 ·rw [if_pos h]
  have := cmpN_zero.1 h
  constructor
  ·intro k; exact .inr ⟨by omega, k⟩
  ·rintro (k | k)
   ·omega
   ·exact k.2
 ·rw [if_neg h]
  have hne : ¬ (a.length : Int) = b.length := fun e => h (cmpN_zero.2 e)
  constructor
  ·intro k
   unfold zMm at k
   repeat' split at k
   all_goals omega
  ·rintro (k | k)
   ·unfold zMm; rw [if_pos (by omega)]; decide
   ·omega
theorem zFh {x y z : List Nat} (h1 : ¬ Q2 x y < 0) (h2 : ¬ Q2 y z < 0) : ¬ Q2 x z < 0 := by
 rw [shorter_neg, not_or, not_and] at *
 exact ⟨by omega, fun e => zB6 (h1.2 (by omega)) (h2.2 (by omega))⟩
theorem zEK (x y : List Nat) (h : Q2 x y < 0) : ¬ Q2 y x < 0 := by
 rw [shorter_neg] at *
 rw [not_or, not_and]
 rcases h with h | h
 ·exact ⟨by omega, fun e => by omega⟩
 ·have := J1 x y
  exact ⟨by omega, fun _ => by omega⟩
theorem zGP {S : List Nat → Prop} {a b : List Nat} (ha : j3 Q2 S a) (hb : j3 Q2 S b) : a = b := by
 have h1 := ha.2 b hb.1
 have h2 := hb.2 a ha.1
 rw [shorter_neg, not_or, not_and] at h1 h2
 have h3 := h1.2 (by omega)
 have h4 := h2.2 (by omega)
 have := J1 a b
 exact zBg (by omega)
def S6 (l : List Str) (c : List Nat) : Prop := Asc l.length c ∧ i9 (P7 l c) = true
theorem zI3 (l : List Str) : j3 Q2 (S6 l) (B5 l) := by
 have hne : D6 l ≠ [] := by
  have hall : S6 l (List.range l.length) := ⟨⟨List.pairwise_lt_range, fun i hi => by simpa using hi⟩, by
   have : P7 l (List.range l.length) = [] := by
    unfold P7
    rw [List.filter_eq_nil_iff.2 (fun i hi => by simpa using hi)]; rfl
   rw [this]; rfl⟩
  intro e
  have := mem_rightSets.2 hall
  rw [e] at this; cases this
 obtain ⟨b, h1, h2, h3⟩ := U7 (cmp := Q2) (fun _ _ _ => zFh) zEK hne
 unfold B5
 rw [h1]
 exact ⟨mem_rightSets.1 h2, fun x hx => h3 x (mem_rightSets.2 hx)⟩
def X2 (n : Nat) : Nat → Nat → List (List Nat)
 | 0, _ => [[]]
 | m + 1, lo => (List.range' lo (n - lo)).flatMap fun i => (X2 n m (i + 1)).map (i :: ·)
theorem mem_picksN {n : Nat} : ∀ {m lo : Nat} {c : List Nat}, c ∈ X2 n m lo ↔ c.length = m ∧ c.Pairwise (· < ·) ∧ ∀ i, i ∈ c → lo ≤ i ∧ i < n
 | 0, lo, c => by
  rw [X2, List.mem_singleton, List.length_eq_zero_iff]
  constructor
  ·rintro rfl; exact ⟨rfl, .nil, fun i h => nomatch h⟩
  ·rintro ⟨h, _⟩; exact h
 | m + 1, lo, c => by
  rw [X2, List.mem_flatMap]
  constructor
  ·rintro ⟨i, hi, h⟩
   obtain ⟨d, hd, rfl⟩ := List.mem_map.1 h
   rw [List.mem_range'_1] at hi
   obtain ⟨h1, h2, h3⟩ := mem_picksN.1 hd
   refine ⟨by simp [h1], List.pairwise_cons.2 ⟨fun j hj => by have := h3 j hj; omega, h2⟩, fun j hj => ?_⟩
   rcases List.mem_cons.1 hj with rfl | hj
   ·omega
   ·have := h3 j hj; omega
  ·rintro ⟨h1, h2, h3⟩
   cases c with
   | nil => cases h1
   | cons i d =>
    obtain ⟨g1, g2⟩ := List.pairwise_cons.1 h2
    have hi := h3 i (by simp)
    refine ⟨i, by rw [List.mem_range'_1]; omega, List.mem_map.2 ⟨d, mem_picksN.2 ⟨by simpa using h1, g2, fun j hj => ?_⟩, rfl⟩⟩
    have := g1 j hj
    have := h3 j (by simp [hj])
    omega
theorem pairwise_flatMap {α β : Type} {R : β → β → Prop} {f : α → List β} {L : List α} {S : α → α → Prop} (h1 : ∀ a, a ∈ L → (f a).Pairwise R) (h2 : L.Pairwise S) (h3 : ∀ a b, S a b → ∀ x, x ∈ f a → ∀ y, y ∈ f b → R x y) : (L.flatMap f).Pairwise R := by
 induction L with
 | nil => exact .nil
 | cons a L ih =>
  obtain ⟨g1, g2⟩ := List.pairwise_cons.1 h2
  rw [List.flatMap_cons]
  refine List.pairwise_append.2 ⟨h1 a (by simp), ih (fun b hb => h1 b (by simp [hb])) g2, fun x hx y hy => ?_⟩
  obtain ⟨b, hb, hy⟩ := List.mem_flatMap.1 hy
  exact h3 a b (g1 b hb) x hx y hy
theorem zC5 {n : Nat} : ∀ (m lo : Nat), (X2 n m lo).Pairwise (fun a b => l3 a b < 0)
 | 0, _ => by rw [X2]; exact List.pairwise_singleton _ _
 | m + 1, lo => by
  rw [X2]
  refine pairwise_flatMap (S := (· < ·)) (fun i _ => ?_) (List.pairwise_lt_range') (fun i j hij x hx y hy => ?_)
  ·rw [List.pairwise_map]
   refine (zC5 m (i + 1)).imp (fun {a b} h => ?_)
   rw [l3, if_pos (cmpN_zero.2 rfl)]; exact h
  ·obtain ⟨a, _, rfl⟩ := List.mem_map.1 hx
   obtain ⟨b, _, rfl⟩ := List.mem_map.1 hy
   have : zMm i j = -1 := by unfold zMm; rw [if_pos (by omega)]
   rw [l3, if_neg (by omega)]; omega
def B4 (l : List Str) (m : Nat) : Option (List Nat) := r8 (fun c => if i9 (P7 l c) = true then some c else none) (X2 l.length m 0)
theorem zMe (l : List Str) : r8 (B4 l) (List.range (l.length + 1)) = some (B5 l) := by
 obtain ⟨hw, hleast⟩ := zI3 l
 have hlen : ∀ c, S6 l c → c.length ≤ l.length := fun c hc => by
  have hsub : c.Sublist (List.range l.length) := by
   have : c = (List.range l.length).filter (fun i => decide (i ∈ c)) := zBS hc.1 ⟨(List.pairwise_lt_range).filter _, fun i hi => by simpa using (List.mem_filter.1 hi).1⟩ (fun i => by
    rw [List.mem_filter]
    exact ⟨fun h => ⟨by simpa using hc.1.2 i h, by simpa using h⟩, fun h => by simpa using h.2⟩)
   rw [this]; exact List.filter_sublist
  have := hsub.length_le
  simpa using this
 have hM : ∀ m c, B4 l m = some c → S6 l c ∧ c.length = m ∧ ∀ d, S6 l d → d.length = m → ¬ l3 d c < 0 := fun m c h => by
  obtain ⟨pre, x, post, hL, h1, h2⟩ := J6 h
  split at h1
  ·rename_i ho
   have hxc : x = c := Option.some.inj h1
   subst hxc
   have hx := mem_picksN.1 (by rw [hL]; simp : x ∈ X2 l.length m 0)
   refine ⟨⟨⟨hx.2.1, fun i hi => (hx.2.2 i hi).2⟩, ho⟩, hx.1, fun d hd hdl => ?_⟩
   have hdm : d ∈ X2 l.length m 0 := mem_picksN.2 ⟨hdl, hd.1.1, fun i hi => ⟨Nat.zero_le _, hd.1.2 i hi⟩⟩
   have hord := zC5 (n := l.length) m 0
   rw [hL] at hdm hord
   rcases List.mem_append.1 hdm with hdm | hdm
   ·have := h2 d hdm
    rw [if_pos hd.2] at this; cases this
   ·rcases List.mem_cons.1 hdm with rfl | hdm
    ·have := J1 d d; omega
    ·have := (List.pairwise_cons.1 (List.pairwise_append.1 hord).2.1).1 d hdm
     have := J1 x d
     omega
  ·cases h1
 have hN : ∀ m, B4 l m = none → ∀ d, S6 l d → d.length ≠ m := fun m h d hd e => by
  have := E0 h d (mem_picksN.2 ⟨e, hd.1.1, fun i hi => ⟨Nat.zero_le _, hd.1.2 i hi⟩⟩)
  rw [if_pos hd.2] at this; cases this
 cases h : r8 (B4 l) (List.range (l.length + 1)) with
 | none =>
  have := E0 h (B5 l).length (by have := hlen _ hw; simp; omega)
  exact absurd rfl (hN _ this _ hw)
 | some c =>
  obtain ⟨pre, m, post, hL, h1, h2⟩ := J6 h
  obtain ⟨g1, g2, g3⟩ := hM m c h1
  refine congrArg some (zGP (S := S6 l) ⟨g1, fun d hd => ?_⟩ ⟨hw, hleast⟩)
  rw [shorter_neg, not_or, not_and]
  have hdm : d.length ∈ pre ++ m :: post := by rw [← hL]; have := hlen d hd; simp; omega
  have hord : (pre ++ m :: post).Pairwise (· < ·) := by rw [← hL]; exact List.pairwise_lt_range
  rcases List.mem_append.1 hdm with hdm | hdm
  ·exact absurd rfl (hN _ (h2 _ hdm) d hd)
  ·rcases List.mem_cons.1 hdm with e | hdm
   ·exact ⟨by omega, fun _ => g3 d hd e⟩
   ·have := (List.pairwise_cons.1 (List.pairwise_append.1 hord).2.1).1 _ hdm
    exact ⟨by omega, fun e => by omega⟩
end Go.Abs

namespace Go.Abs
open Go
def Y5 (r : Int) : Int := if 97 ≤ r ∧ r ≤ 122 then 1 else if 65 ≤ r ∧ r ≤ 90 ∧ ¬ (r = 72 ∨ r = 81 ∨ r = 87) then 2 else 0
theorem zGJ : ((List.range 256).all fun n => decide (Y5 n = v7 (UInt8.ofNat n))) = true := by kernel_rfl
theorem zAX (c : UInt8) : Y5 (c.toNat : Int) = v7 c := by
 have := List.all_eq_true.1 zGJ c.toNat (List.mem_range.2 c.toNat_lt)
 rw [decide_eq_true_eq, UInt8.ofNat_toNat] at this
 exact this
theorem zCZ {r : Int} (h : 128 ≤ r) : Y5 r = 0 := by
 unfold Y5
 rw [if_neg (by omega), if_neg (by omega)]
theorem zCY {c : UInt8} (h : 128 ≤ c.toNat) : v7 c = 0 := by rw [← zAX, zCZ (by omega)]
theorem zGH {c : UInt8} (h : v7 c ≠ 0) : c.toNat < 128 := by
 apply Decidable.of_not_not
 intro hn
 exact h (zCY (by omega))
theorem zGK : ((List.range 256).all fun n => (y9 (UInt8.ofNat n) == decide (v7 (UInt8.ofNat n) = 1)) && (u9 (UInt8.ofNat n) == decide (v7 (UInt8.ofNat n) = 2))) = true := by kernel_rfl
theorem zCa (c : UInt8) : y9 c = decide (v7 c = 1) ∧ u9 c = decide (v7 c = 2) := by
 have := List.all_eq_true.1 zGK c.toNat (List.mem_range.2 c.toNat_lt)
 rw [UInt8.ofNat_toNat, Bool.and_eq_true, beq_iff_eq, beq_iff_eq] at this
 exact this
theorem latin_kind {c : UInt8} : y9 c = true ↔ v7 c = 1 := by rw [(zCa c).1, decide_eq_true_eq]
theorem other_kind {c : UInt8} : u9 c = true ↔ v7 c = 2 := by rw [(zCa c).2, decide_eq_true_eq]
def FormTo (s : Str) (i : Nat) (k : Int) : Prop := (i = 0 ∧ k = 0) ∨ (0 < i ∧ k ≠ 0 ∧ ∀ j, j < i → v7 (s.getD j 0) = k)
theorem zGI (c : UInt8) : v7 c = 0 ∨ v7 c = 1 ∨ v7 c = 2 := by
 unfold v7
 repeat' split
 all_goals simp
theorem FormTo.end {s : Str} {i : Nat} {k : Int} (h : FormTo s i k) (hi : i = s.length) (h0 : 0 < s.length) : l7 s = true := by
 rcases h with h | ⟨_, hk, h⟩
 ·omega
 ·unfold l7
  rw [Bool.or_eq_true, List.all_eq_true, List.all_eq_true]
  have hm : ∀ c, c ∈ s → v7 c = k := fun c hc => by
   obtain ⟨j, hj, rfl⟩ := List.getElem_of_mem hc
   have := h j (by omega)
   simpa [List.getD, hj] using this
  have hr : k = 1 ∨ k = 2 := by
   cases s with
   | nil => simp at h0
   | cons c r =>
    have h1 := hm c (by simp)
    rcases zGI c with h2 | h2 | h2 <;> omega
  rcases hr with rfl | rfl
  ·exact .inl (fun c hc => latin_kind.2 (hm c hc))
  ·exact .inr (fun c hc => other_kind.2 (hm c hc))
theorem FormTo.next {s : Str} {i : Nat} {k : Int} (h : FormTo s i k) (hk : v7 (s.getD i 0) ≠ 0) (he : k = 0 ∨ v7 (s.getD i 0) = k) : FormTo s (i + 1) (v7 (s.getD i 0)) := by
 refine .inr ⟨by omega, hk, fun j hj => ?_⟩
 by_cases e : j = i
 ·rw [e]
 ·rcases h with ⟨rfl, rfl⟩ | ⟨h0, h1, h⟩
  ·omega
  ·rw [h j (by omega)]
   rcases he with he | he
   ·exact absurd he h1
   ·exact he.symm
theorem FormTo.bad {s : Str} {i : Nat} {k : Int} (h : FormTo s i k) (hi : i < s.length) (hb : v7 (s.getD i 0) = 0 ∨ (k ≠ 0 ∧ v7 (s.getD i 0) ≠ k)) : l7 s = false := by
 have hm : s.getD i 0 ∈ s := by simp [List.getD, hi]
 cases hf : l7 s with
 | false => rfl
 | true =>
  exfalso
  unfold l7 at hf
  rw [Bool.or_eq_true, List.all_eq_true, List.all_eq_true] at hf
  have hall : ∃ q, q ≠ 0 ∧ ∀ c, c ∈ s → v7 c = q := by
   rcases hf with hf | hf
   ·exact ⟨1, by decide, fun c hc => latin_kind.1 (hf c hc)⟩
   ·exact ⟨2, by decide, fun c hc => other_kind.1 (hf c hc)⟩
  obtain ⟨q, hq, hall⟩ := hall
  have h1 := hall _ hm
  rcases hb with hb | ⟨hb1, hb2⟩
  ·exact hq (h1.symm.trans hb)
  ·rcases h with ⟨_, h⟩ | ⟨h0, _, h⟩
   ·exact hb1 h
   ·have h2 := h 0 h0
    have h3 : s.getD 0 0 ∈ s := by
     have : 0 < s.length := by omega
     simp [List.getD, this]
    have := hall _ h3
    exact hb2 (by omega)
end Go.Abs

namespace Go.Abs
open Go Go.Proofs Tryz
attribute [local irreducible] y6 Hold x5
theorem zIL (n : Int) : zMf prog 153 [iV n] [] (bV false) [] := by
 refine q9 func153 rfl (fun E hE => ?_); simp only [go_sem, ntmps153]
 repeat' (first | (refine Qr rfl ?_; try intro _ hK; try simp only [go_sem, *]) | refine Qh rfl ?_ | (refine Qc rfl rfl ?_ ?_ <;> (intro hb; have hc := hb; try simp only [go_sem] at hc)) | refine q8 rfl ?_ | ((with_reducible apply And.intro); focus omega) | (refine q7 hK ?_; clear hK; simp only [go_sem, *]) | simp only [q6, z8, go_sem, *])
 all_goals (refine ⟨[_], [], [], ⟨rfl, trivial⟩, ?_⟩; simp only [go_sem, *])
 all_goals simp_all
theorem zHk (a b : Int) : zMf prog 130 [iV a, iV b] [] (iV (zMm a b)) [] := by
 refine q9 func130 rfl (fun E hE => ?_); simp only [go_sem, ntmps130]
 repeat' (first | (refine Qr rfl ?_; try intro _ hK; try simp only [go_sem, *]) | refine Qh rfl ?_ | (refine Qc rfl rfl ?_ ?_ <;> (intro hb; have hc := hb; try simp only [go_sem] at hc)) | refine q8 rfl ?_ | (refine y5 (zIL _) ?_; simp only [go_sem, *]) | ((with_reducible apply And.intro); focus omega) | (refine q7 hK ?_; clear hK; simp only [go_sem, *]) | simp only [q6, z8, go_sem, *])
 all_goals (refine ⟨[_], [], [], ⟨rfl, trivial⟩, ?_⟩; simp only [go_sem, *])
 all_goals (refine I3 ?_; unfold zMm; repeat' split)
 all_goals omega
def orL : List Int → Int
 | [] => 0
 | x :: r => if x = 0 then orL r else x
theorem zDU (l : List Int) (hl : l.length ≤ 4294967296) : zMf prog 119 [.list (l.map iV)] [] (iV (orL l)) [] := by
 refine q9 func119 rfl (fun E hE => ?_); simp only [go_sem, ntmps119]
 repeat' (first | (refine Qr rfl ?_; try intro _ hK; try simp only [go_sem, *]) | refine Qh rfl ?_ | (refine Qc rfl rfl ?_ ?_ <;> (intro hb; have hc := hb; try simp only [go_sem] at hc)) | refine q8 rfl ?_ | ((with_reducible apply And.intro); focus omega) | (refine q7 hK ?_; clear hK; simp only [go_sem, *]) | simp only [q6, z8, go_sem, *])
 refine o9 rfl (l.length) (fun i => orL (l.drop i) = orL l) 18 (fun i => [(8, iV i), (7, iV l.length), (6, .list (l.map iV)), (3, iV 0)]) (fun i => []) [] [] (by simp) ?_; intro i hi hP
 repeat' (first | (refine Qr rfl ?_; try intro _ hK; try simp only [go_sem, *]) | refine Qh rfl ?_ | (refine Qc rfl rfl ?_ ?_ <;> (intro hb; have hc := hb; try simp only [go_sem] at hc)) | refine q8 rfl ?_ | ((with_reducible apply And.intro); focus omega) | (refine q7 hK ?_; clear hK; simp only [go_sem, *]) | simp only [q6, z8, go_sem, *])
 ·(refine ⟨[_], [], [], ⟨rfl, trivial⟩, ?_⟩; simp only [go_sem, *])
  rw [← hP, j4 ‹_›, orL, if_neg ‹_›]
 ·exact f8 (i' := i + 1) [] [] (by rw [← hP, j4 (i := i) ‹_›, orL, if_pos ‹_›])
 ·(refine ⟨[_], [], [], ⟨rfl, trivial⟩, ?_⟩; simp only [go_sem, *])
  rw [← hP, d7 (by omega), orL]
theorem zC0 (a b : Int) : orL [a, b] = orI a b := by
 simp only [orL, orI]; repeat' split
 all_goals omega
theorem zIM (s : Str) : zMf prog 142 [sV s] [] (bV false) [] := by
 refine q9 func142 rfl (fun E hE => ?_); simp only [go_sem, ntmps142]
 repeat' (first | (refine Qr rfl ?_; try intro _ hK; try simp only [go_sem, *]) | refine Qh rfl ?_ | (refine Qc rfl rfl ?_ ?_ <;> (intro hb; have hc := hb; try simp only [go_sem] at hc)) | refine q8 rfl ?_ | ((with_reducible apply And.intro); focus omega) | (refine q7 hK ?_; clear hK; simp only [go_sem, *]) | simp only [q6, z8, go_sem, *])
 all_goals (refine ⟨[_], [], [], ⟨rfl, trivial⟩, ?_⟩; simp only [go_sem, *])
 all_goals simp_all
theorem zIN (s : Str) : zMf prog 172 [sV s] [] (bV false) [] := by
 refine q9 func172 rfl (fun E hE => ?_); simp only [go_sem, ntmps172]
 repeat' (first | (refine Qr rfl ?_; try intro _ hK; try simp only [go_sem, *]) | refine Qh rfl ?_ | (refine Qc rfl rfl ?_ ?_ <;> (intro hb; have hc := hb; try simp only [go_sem] at hc)) | refine q8 rfl ?_ | ((with_reducible apply And.intro); focus omega) | (refine q7 hK ?_; clear hK; simp only [go_sem, *]) | simp only [q6, z8, go_sem, *])
 all_goals (refine ⟨[_], [], [], ⟨rfl, trivial⟩, ?_⟩; simp only [go_sem, *])
 all_goals simp_all
theorem zDR (a b : Str) : zMf prog 120 [sV a, sV b] [] (iV (zMj a b)) [] := by
 refine q9 func120 rfl (fun E hE => ?_); simp only [go_sem, ntmps120]
 repeat' (first | (refine Qr rfl ?_; try intro _ hK; try simp only [go_sem, *]) | refine Qh rfl ?_ | (refine Qc rfl rfl ?_ ?_ <;> (intro hb; have hc := hb; try simp only [go_sem] at hc)) | refine q8 rfl ?_ | (refine y5 (zIM _) ?_; simp only [go_sem, *]) | ((with_reducible apply And.intro); focus omega) | (refine q7 hK ?_; clear hK; simp only [go_sem, *]) | simp only [q6, z8, go_sem, *])
 all_goals (refine ⟨[_], [], [], ⟨rfl, trivial⟩, ?_⟩; simp only [go_sem, *])
 all_goals (refine I3 ?_; unfold zMj u0; simp_all)
 all_goals (apply Decidable.of_not_not; intro h; exact absurd (L8 (by assumption) (by simpa using h)) (by assumption))
theorem zHm (a b : Str) : zMf prog 150 [sV a, sV b] [] (iV (zMj a b)) [] := by
 refine q9 func150 rfl (fun E hE => ?_); simp only [go_sem, ntmps150]
 repeat' (first | (refine Qr rfl ?_; try intro _ hK; try simp only [go_sem, *]) | refine Qh rfl ?_ | (refine Qc rfl rfl ?_ ?_ <;> (intro hb; have hc := hb; try simp only [go_sem] at hc)) | refine q8 rfl ?_ | (refine y5 (zIN _) ?_; simp only [go_sem, *]) | ((with_reducible apply And.intro); focus omega) | (refine q7 hK ?_; clear hK; simp only [go_sem, *]) | simp only [q6, z8, go_sem, *])
 all_goals (refine ⟨[_], [], [], ⟨rfl, trivial⟩, ?_⟩; simp only [go_sem, *])
 all_goals (refine I3 ?_; unfold zMj u0; simp_all)
 all_goals (apply Decidable.of_not_not; intro h; exact absurd (L8 (by assumption) (by simpa using h)) (by assumption))
end Go.Abs

namespace Go.Abs
open Go Go.Proofs Tryz
attribute [local irreducible] y6 Hold x5
theorem zGq : ¬ S1 := fun h => h
def hqw (r : Int) : Bool := decide (0 ≤ Lib.indexByte [72, 81, 87] r.toNat.toUInt8)
theorem zF5 : ((List.range 128).all fun n => hqw n == (n == 72 || n == 81 || n == 87)) = true := by kernel_rfl
theorem zF6 {r : Int} (h0 : 0 ≤ r) (h1 : r < 128) : hqw r = decide (r = 72 ∨ r = 81 ∨ r = 87) := by
 obtain ⟨n, rfl⟩ := Int.eq_ofNat_of_zero_le h0
 have := List.all_eq_true.1 zF5 n (List.mem_range.2 (by omega))
 rw [beq_iff_eq] at this
 rw [this, Bool.eq_iff_iff]
 simp
 omega
theorem zII (r : Int) (h0 : 0 ≤ r) (h1 : r < 128) : zMf prog 128 [sV [72, 81, 87], .raw (.int .i32 r)] [] (bV (hqw r)) [] :=
 zIj [.string ⟨[72, 81, 87].toArray⟩, .int .i32 r] (.bool (hqw r)) rfl (fun w => Tryz.strings_ContainsRune_ascii _ r w h0 h1)
theorem zA2 (r : Int) : zMf prog 92 [.raw (.int .i32 r)] [] (iV (Y5 r)) [] := by
 by_cases q : 65 ≤ r ∧ r ≤ 90
 ·have sh := zII r (by omega) (by omega)
  have e := zF6 (r := r) (by omega) (by omega)
  generalize hqw r = b at *
  have e0 : b = decide (r = 72 ∨ r = 81 ∨ r = 87) := e
  clear e
  refine q9 func92 rfl (fun E hE => ?_); simp only [go_sem, ntmps92]
  repeat' (first | (refine Qr rfl ?_; try intro _ hK; try simp only [go_sem, *]) | (refine Qi rfl rfl rfl rfl ?_ ?_ <;> (intro hb; (try intro _ hK); have hc := hb; try simp only [go_sem] at hc; simp only [go_sem, *])) | refine Qh rfl ?_ | (refine Qc rfl rfl ?_ ?_ <;> (intro hb; have hc := hb; try simp only [go_sem] at hc)) | refine q8 rfl ?_ | (refine y5 (sh) ?_; simp only [go_sem, *]) | ((with_reducible apply And.intro); focus omega) | (refine q7 hK ?_; clear hK; simp only [go_sem, *]) | simp only [q6, z8, go_sem, *])
  all_goals (refine ⟨[_], [], [], ⟨rfl, trivial⟩, ?_⟩; simp only [go_sem, *])
  all_goals (refine I3 ?_; unfold Y5; simp_all)
  all_goals omega
 ·refine q9 func92 rfl (fun E hE => ?_); simp only [go_sem, ntmps92]
  repeat' (first | (refine Qr rfl ?_; try intro _ hK; try simp only [go_sem, *]) | (refine Qi rfl rfl rfl rfl ?_ ?_ <;> (intro hb; (try intro _ hK); have hc := hb; try simp only [go_sem] at hc; simp only [go_sem, *])) | refine Qh rfl ?_ | (refine Qc rfl rfl ?_ ?_ <;> (intro hb; have hc := hb; try simp only [go_sem] at hc)) | refine q8 rfl ?_ | ((with_reducible apply And.intro); focus omega) | (refine q7 hK ?_; clear hK; simp only [go_sem, *]) | simp only [q6, z8, go_sem, *])
  all_goals try omega
  all_goals (refine ⟨[_], [], [], ⟨rfl, trivial⟩, ?_⟩; simp only [go_sem, *])
  all_goals (refine I3 ?_; unfold Y5; simp_all)
  all_goals omega
end Go.Abs

namespace Go.Abs
open Go Go.Proofs Tryz
attribute [local irreducible] y6 Hold x5
theorem zGW : ((List.range 128).all fun n => n == 67 || n == 74 || n == 88 || n == 89 || decide (Lib.toLowerA [UInt8.ofNat n] = w8 (UInt8.ofNat n))) = true := by kernel_rfl
theorem zGX {c : UInt8} (h : c.toNat < 128) (h1 : ¬ c.toNat = 67) (h2 : ¬ c.toNat = 74) (h3 : ¬ c.toNat = 88) (h4 : ¬ c.toNat = 89) : Lib.toLowerA [c] = w8 c := by
 have := List.all_eq_true.1 zGW c.toNat (List.mem_range.2 h)
 simpa [h1, h2, h3, h4] using this
theorem zIP (c : UInt8) (h : c.toNat < 128) : zMf prog 143 [sV [c]] [] (sV (Lib.toLowerA [c])) [] :=
 zIg zGq [.string ⟨[c].toArray⟩] (.string ⟨(Lib.toLowerA [c]).toArray⟩) rfl (fun w => Tryz.strings_ToLower_ascii ⟨[c].toArray⟩ w (by simp) (fun j b hb => by
  cases j with
  | zero => simp at hb; subst hb; exact h
  | succ j => simp at hb))
theorem zHg : w8 67 = [99, 104] := by decide
theorem zHh : w8 74 = [106, 117] := by decide
theorem zHi : w8 88 = [115, 104] := by decide
theorem zHj : w8 89 = [106, 97] := by decide
theorem zIa (c : UInt8) (h : c.toNat < 128) : zMf prog 122 [.raw (.int .i32 (c.toNat : Int))] [] (sV (w8 c)) [] := by
 have sl := zIP c h
 have ee := zBn (n := (c.toNat : Int)) (by omega) (by omega)
 rw [Int.toNat_natCast, UInt8.ofNat_toNat] at ee
 have hl := zGX h
 have k1 : c.toNat = 67 → w8 c = [99, 104] := fun e => by rw [UInt8.toNat_inj.1 (show c.toNat = (67 : UInt8).toNat from e), zHg]
 have k2 : c.toNat = 74 → w8 c = [106, 117] := fun e => by rw [UInt8.toNat_inj.1 (show c.toNat = (74 : UInt8).toNat from e), zHh]
 have k3 : c.toNat = 88 → w8 c = [115, 104] := fun e => by rw [UInt8.toNat_inj.1 (show c.toNat = (88 : UInt8).toNat from e), zHi]
 have k4 : c.toNat = 89 → w8 c = [106, 97] := fun e => by rw [UInt8.toNat_inj.1 (show c.toNat = (89 : UInt8).toNat from e), zHj]
 generalize c.toNat = n at *
 generalize w8 c = sb at *
 have fin : n < 128 → ¬ n = 67 → ¬ n = 74 → ¬ n = 88 → ¬ n = 89 → Lib.toLowerA [c] = sb := fun _ => hl
 clear hl
 generalize Lib.toLowerA [c] = lb at *
 generalize he : Utf8.encode (n : Int) = eb at *
 obtain ⟨ev, hev⟩ : ∃ v, v = Value.string eb := ⟨_, rfl⟩
 have sl2 : zMf prog 143 [.raw (.string eb)] [] (sV lb) [] := by rw [ee]; exact sl
 clear ee sl hev ev
 refine q9 func122 rfl (fun E hE => ?_); simp only [go_sem, ntmps122]
 repeat' (first | (refine Qr rfl ?_; try intro _ hK; try simp only [go_sem, *]) | refine Qh rfl ?_ | (refine Qc rfl rfl ?_ ?_ <;> (intro hb; have hc := hb; try simp only [go_sem] at hc)) | refine q8 rfl ?_ | (refine y5 (sl2) ?_; simp only [go_sem, *]) | ((with_reducible apply And.intro); focus omega) | (refine q7 hK ?_; clear hK; simp only [go_sem, *]) | simp only [q6, z8, go_sem, *])
 all_goals (refine ⟨[_], [], [], ⟨rfl, trivial⟩, ?_⟩; simp only [go_sem, *])
 ·rw [k1 (by omega)]
 ·rw [k2 (by omega)]
 ·rw [k4 (by omega)]
 ·rw [k3 (by omega)]
 ·rw [fin (by omega) (by omega) (by omega) (by omega) (by omega)]
end Go.Abs

namespace Go.Abs
open Go Go.Proofs Tryz
attribute [local irreducible] y6 Hold x5
theorem zDN (s : Str) {i : Nat} (h : i < s.length) : Y5 ((Utf8.decode ⟨s.toArray⟩ i).1 : Int) = v7 (s.getD i 0) ∧ (v7 (s.getD i 0) ≠ 0 → (Utf8.decode ⟨s.toArray⟩ i).2 = 1) := by
 by_cases q : (s.getD i 0).toNat < 128
 ·rw [A9 h q]
  exact ⟨zAX _, fun _ => rfl⟩
 ·have := zEv h (by omega)
  rw [zCY (by omega), zCZ (by omega)]
  exact ⟨rfl, fun h => absurd rfl h⟩
def NoQ (_ : Nat) : Prop := True
theorem G5 (s : Str) : zMf prog 44 [sV s] [] (iV (x6 s)) [] := by
 have e0 : s.length = 0 → x6 s = 7 := fun h => by unfold x6; rw [if_pos h]
 have e1 : 6 < s.length → x6 s = 10 := fun h => by unfold x6; rw [if_neg (by omega), if_pos h]
 have e2 : 0 < s.length → s.length ≤ 6 → x6 s = if l7 s = true then 0 else 2 := fun h h' => by unfold x6; rw [if_neg (by omega), if_neg (by omega)]
 refine q9 func44 rfl (fun E hE => ?_); simp only [go_sem, ntmps44]
 repeat' (first | (refine Qr rfl ?_; try intro _ hK; try simp only [go_sem, *]) | (refine Qi rfl rfl rfl rfl ?_ ?_ <;> (intro hb; (try intro _ hK); have hc := hb; try simp only [go_sem] at hc; simp only [go_sem, *])) | refine Qh rfl ?_ | (refine Qc rfl rfl ?_ ?_ <;> (intro hb; have hc := hb; try simp only [go_sem] at hc)) | refine q8 rfl ?_ | ((with_reducible apply And.intro); focus omega) | (refine q7 hK ?_; clear hK; simp only [go_sem, *]) | simp only [q6, z8, go_sem, *])
 ·(refine ⟨[_], [], [], ⟨rfl, trivial⟩, ?_⟩; simp only [go_sem, *])
  rw [e0 (by omega)]
 ·(refine ⟨[_], [], [], ⟨rfl, trivial⟩, ?_⟩; simp only [go_sem, *])
  rw [e1 (by omega)]
 ·have e3 := e2 (by omega) (by omega)
  have h0 : 0 < s.length := by omega
  have h6 : s.length ≤ 6 := by omega
  clear e0 e1 e2
  refine a7 rfl (s.length) (fun i (k : Int) => FormTo s i k) 30 (fun i k => [(14, .ptr 0 0), (3, iV k)]) (fun i k => [.siter ⟨s.toArray⟩ i]) [some 0] [] (0) (by exact .inl ⟨rfl, rfl⟩) ?_; intro i k hi hP
  by_cases hi2 : i < s.length
  ·obtain ⟨r1, r2⟩ := zDN s hi2
   have hbad := hP.bad hi2
   have hnext := hP.next
   have sk := zA2 ((Utf8.decode ⟨s.toArray⟩ i).1 : Int)
   rw [r1] at sk
   generalize hde : Utf8.decode ⟨s.toArray⟩ i = d at *
   obtain ⟨d1, d2⟩ := d
   simp only at r2 sk
   clear r1 hP
   generalize v7 (s.getD i 0) = kb at *
   repeat' (first | (refine Qr rfl ?_; try intro _ hK; try simp only [go_sem, *]) | (refine Qi rfl rfl rfl rfl ?_ ?_ <;> (intro hb; (try intro _ hK); have hc := hb; try simp only [go_sem] at hc; simp only [go_sem, *])) | refine Qh rfl ?_ | (refine Qc rfl rfl ?_ ?_ <;> (intro hb; have hc := hb; try simp only [go_sem] at hc)) | refine q8 rfl ?_ | (refine y5 (sk) ?_; simp only [go_sem, *]) | ((with_reducible apply And.intro); focus omega) | (refine q7 hK ?_; clear hK; simp only [go_sem, *]) | simp only [q6, z8, go_sem, *])
   all_goals first | (exact n0 (i' := i + 1) [some 0] [] (kb) (by exact hnext (by assumption) (by first | (left; assumption) | (right; omega)))) | (focus ((refine ⟨[_], [], [], ⟨rfl, trivial⟩, ?_⟩; simp only [go_sem, *]); done))
  ·have hf := hP.end (by omega) h0
   rw [if_pos hf] at e3
   clear hP
   repeat' (first | (refine Qr rfl ?_; try intro _ hK; try simp only [go_sem, *]) | (refine Qi rfl rfl rfl rfl ?_ ?_ <;> (intro hb; (try intro _ hK); have hc := hb; try simp only [go_sem] at hc; simp only [go_sem, *])) | refine Qh rfl ?_ | (refine Qc rfl rfl ?_ ?_ <;> (intro hb; have hc := hb; try simp only [go_sem] at hc)) | refine q8 rfl ?_ | ((with_reducible apply And.intro); focus omega) | (refine q7 hK ?_; clear hK; simp only [go_sem, *]) | simp only [q6, z8, go_sem, *])
   (refine ⟨[_], [], [], ⟨rfl, trivial⟩, ?_⟩; simp only [go_sem, *])
theorem zCW {s : Str} {i : Nat} (h : i < s.length) : zMh (s.take (i + 1)) = zMh (s.take i) ++ w8 (s.getD i 0) := by
 rw [List.take_succ_eq_append_getElem h, zMh, List.flatMap_append]
 simp [zMh, List.getD, h]
@[go_sem] theorem zKt : zMh [] = [] := rfl
theorem zCV (s : Str) (i : Nat) : (zMh (s.take i)).length ≤ 2 * s.length := by
 have h1 := (zAU (s.take i)).2
 simp at h1
 omega
theorem zGe {s : Str} (v : l7 s = true) {i : Nat} (h : i < s.length) : (s.getD i 0).toNat < 128 := by
 apply zGH
 have hm : s.getD i 0 ∈ s := by simp [List.getD, h]
 unfold l7 at v
 rw [Bool.or_eq_true, List.all_eq_true, List.all_eq_true] at v
 rcases v with v | v
 ·rw [latin_kind.1 (v _ hm)]; decide
 ·rw [other_kind.1 (v _ hm)]; decide
theorem P6 (s : Str) (v : l7 s = true) (hl : s.length ≤ 1000) : zMf prog 85 [sV s] [] (sV (zMh s)) [] := by
 refine q9 func85 rfl (fun E hE => ?_); simp only [go_sem, ntmps85]
 repeat' (first | (refine Qr rfl ?_; try intro _ hK; try simp only [go_sem, *]) | refine Qh rfl ?_ | (refine Qc rfl rfl ?_ ?_ <;> (intro hb; have hc := hb; try simp only [go_sem] at hc)) | refine q8 rfl ?_ | ((with_reducible apply And.intro); focus omega) | (refine q7 hK ?_; clear hK; simp only [go_sem, *]) | simp only [q6, z8, go_sem, *])
 refine o9 rfl (s.length) (fun i => NoQ i) 16 (fun i => [(7, .ptr 0 0), (3, sV (zMh (s.take i)))]) (fun i => [.siter ⟨s.toArray⟩ i]) [some 0] [] (by trivial) ?_; intro i hi hP
 have hk2 := zCV s i
 by_cases hi2 : i < s.length
 ·have ha := zGe v hi2
  have hd := A9 hi2 ha
  have ss := zIa _ ha
  have hs2 := (C9 (s.getD i 0)).2
  have hkt := zCW hi2
  generalize w8 (s.getD i 0) = sb at *
  generalize zMh (s.take i) = kt at *
  repeat' (first | (refine Qr rfl ?_; try intro _ hK; try simp only [go_sem, *]) | refine Qh rfl ?_ | (refine Qc rfl rfl ?_ ?_ <;> (intro hb; have hc := hb; try simp only [go_sem] at hc)) | refine q8 rfl ?_ | (refine y5 (ss) ?_; simp only [go_sem, *]) | ((with_reducible apply And.intro); focus omega) | (refine q7 hK ?_; clear hK; simp only [go_sem, *]) | simp only [q6, z8, go_sem, *])
  exact f8 (i' := i + 1) [some 0] [] (by trivial)
 ·have e : s.take i = s := List.take_of_length_le (by omega)
  rw [e]
  clear hk2
  repeat' (first | (refine Qr rfl ?_; try intro _ hK; try simp only [go_sem, *]) | refine Qh rfl ?_ | (refine Qc rfl rfl ?_ ?_ <;> (intro hb; have hc := hb; try simp only [go_sem] at hc)) | refine q8 rfl ?_ | ((with_reducible apply And.intro); focus omega) | (refine q7 hK ?_; clear hK; simp only [go_sem, *]) | simp only [q6, z8, go_sem, *])
  (refine ⟨[_], [], [], ⟨rfl, trivial⟩, ?_⟩; simp only [go_sem, *])
theorem zHx (s : Str) : zMf prog 37 [sV s] [] (.tup [sV (if x6 s = 0 then zMh s else []), iV (x6 s)]) [] := by
 have sc := G5 s
 by_cases q : x6 s = 0
 ·have v := checkN_zero.1 q
  have so := P6 s v.form (by have := v.len; omega)
  rw [if_pos q]
  rw [q] at sc ⊢
  refine q9 func37 rfl (fun E hE => ?_); simp only [go_sem, ntmps37]
  repeat' (first | (refine Qr rfl ?_; try intro _ hK; try simp only [go_sem, *]) | refine Qh rfl ?_ | (refine Qc rfl rfl ?_ ?_ <;> (intro hb; have hc := hb; try simp only [go_sem] at hc)) | refine q8 rfl ?_ | ((first | refine y5 (sc) ?_ | refine y5 (so) ?_); simp only [go_sem, *]) | ((with_reducible apply And.intro); focus omega) | (refine q7 hK ?_; clear hK; simp only [go_sem, *]) | simp only [q6, z8, go_sem, *])
  all_goals try contradiction
  (refine ⟨[_, _], [], [], ⟨rfl, rfl, trivial⟩, ?_⟩; simp only [go_sem, *])
 ·rw [if_neg q]
  generalize x6 s = e at *
  refine q9 func37 rfl (fun E hE => ?_); simp only [go_sem, ntmps37]
  repeat' (first | (refine Qr rfl ?_; try intro _ hK; try simp only [go_sem, *]) | refine Qh rfl ?_ | (refine Qc rfl rfl ?_ ?_ <;> (intro hb; have hc := hb; try simp only [go_sem] at hc)) | refine q8 rfl ?_ | (refine y5 (sc) ?_; simp only [go_sem, *]) | ((with_reducible apply And.intro); focus omega) | (refine q7 hK ?_; clear hK; simp only [go_sem, *]) | simp only [q6, z8, go_sem, *])
  all_goals try contradiction
  (refine ⟨[_, _], [], [], ⟨rfl, rfl, trivial⟩, ?_⟩; simp only [go_sem, *])
end Go.Abs

namespace Go.Abs
open Go Go.Proofs Tryz
attribute [local irreducible] y6 Hold x5
abbrev fnV (f : FuncId) : AV := .raw (.func (.func f) #[] #[])
abbrev y8 (l : List Str) : AV := .list (l.map sV)
theorem zGg {l : List Str} {i : Nat} (h : i < l.length) : u7 (l.drop i) = if x6 (l.getD i default) = 0 then u7 (l.drop (i + 1)) else x6 (l.getD i default) := by
 rw [j4 h, u7]
theorem zA1 (l : List Str) (hl : l.length ≤ 4294967296) : zMf prog 87 [y8 l] [] (iV (u7 l)) [] := by
 refine q9 func87 rfl (fun E hE => ?_); simp only [go_sem, ntmps87]
 repeat' (first | (refine Qr rfl ?_; try intro _ hK; try simp only [go_sem, *]) | refine Qh rfl ?_ | (refine Qc rfl rfl ?_ ?_ <;> (intro hb; have hc := hb; try simp only [go_sem] at hc)) | refine q8 rfl ?_ | ((with_reducible apply And.intro); focus omega) | (refine q7 hK ?_; clear hK; simp only [go_sem, *]) | simp only [q6, z8, go_sem, *])
 refine o9 rfl (l.length) (fun i => u7 (l.drop i) = u7 l) 18 (fun i => [(8, iV i), (7, iV l.length), (6, y8 l)]) (fun i => []) [] [] (by simp) ?_; intro i hi hP
 by_cases hi2 : i < l.length
 ·have hs := zGg hi2
  have sc := G5 (l.getD i default)
  by_cases q : x6 (l.getD i default) = 0
  ·rw [if_pos q] at hs
   rw [q] at sc
   repeat' (first | (refine Qr rfl ?_; try intro _ hK; try simp only [go_sem, *]) | refine Qh rfl ?_ | (refine Qc rfl rfl ?_ ?_ <;> (intro hb; have hc := hb; try simp only [go_sem] at hc)) | refine q8 rfl ?_ | (refine y5 (sc) ?_; simp only [go_sem, *]) | ((with_reducible apply And.intro); focus omega) | (refine q7 hK ?_; clear hK; simp only [go_sem, *]) | simp only [q6, z8, go_sem, *])
   all_goals try contradiction
   exact f8 (i' := i + 1) [] [] (by rw [← hP, hs])
  ·rw [if_neg q] at hs
   rw [hs] at hP
   generalize x6 (l.getD i default) = e at *
   subst hP
   repeat' (first | (refine Qr rfl ?_; try intro _ hK; try simp only [go_sem, *]) | refine Qh rfl ?_ | (refine Qc rfl rfl ?_ ?_ <;> (intro hb; have hc := hb; try simp only [go_sem] at hc)) | refine q8 rfl ?_ | (refine y5 (sc) ?_; simp only [go_sem, *]) | ((with_reducible apply And.intro); focus omega) | (refine q7 hK ?_; clear hK; simp only [go_sem, *]) | simp only [q6, z8, go_sem, *])
   all_goals try contradiction
   (refine ⟨[_], [], [], ⟨rfl, trivial⟩, ?_⟩; simp only [go_sem, *])
 ·have e : u7 l = 0 := by rw [← hP, d7 (by omega)]; rfl
  rw [e]
  repeat' (first | (refine Qr rfl ?_; try intro _ hK; try simp only [go_sem, *]) | refine Qh rfl ?_ | (refine Qc rfl rfl ?_ ?_ <;> (intro hb; have hc := hb; try simp only [go_sem] at hc)) | refine q8 rfl ?_ | ((with_reducible apply And.intro); focus omega) | (refine q7 hK ?_; clear hK; simp only [go_sem, *]) | simp only [q6, z8, go_sem, *])
  (refine ⟨[_], [], [], ⟨rfl, trivial⟩, ?_⟩; simp only [go_sem, *])
theorem L7 (l : List Str) (hl : l.length ≤ 4294967296) : zMf prog 95 [y8 l] [] (iV (v8 l)) [] := by
 have sc := zA1 l hl
 have e0 : 6 < l.length → v8 l = 6 := fun h => by unfold v8; rw [if_pos h]
 have e1 : l.length ≤ 6 → v8 l = u7 l := fun h => by unfold v8; rw [if_neg (by omega)]
 generalize u7 l = e at *
 generalize v8 l = r at *
 refine q9 func95 rfl (fun E hE => ?_); simp only [go_sem, ntmps95]
 repeat' (first | (refine Qr rfl ?_; try intro _ hK; try simp only [go_sem, *]) | refine Qh rfl ?_ | (refine Qc rfl rfl ?_ ?_ <;> (intro hb; have hc := hb; try simp only [go_sem] at hc)) | refine q8 rfl ?_ | (refine y5 (sc) ?_; simp only [go_sem, *]) | ((with_reducible apply And.intro); focus omega) | (refine q7 hK ?_; clear hK; simp only [go_sem, *]) | simp only [q6, z8, go_sem, *])
 ·(refine ⟨[_], [], [], ⟨rfl, trivial⟩, ?_⟩; simp only [go_sem, *])
  rw [e0 (by omega)]
 ·(refine ⟨[_], [], [], ⟨rfl, trivial⟩, ?_⟩; simp only [go_sem, *])
  rw [e1 (by omega)]
theorem zDe (s : Str) (h : 0 < s.length) : zMf prog 129 [sV s] [] (iV (l6 s)) [] := by
 have sk := zA2 ((s.getD 0 0).toNat : Int)
 rw [zAX] at sk
 have hw : IntKind.i32.wrap ((s.getD 0 0).toNat : Int) = ((s.getD 0 0).toNat : Int) := by
  have := (s.getD 0 0).toNat_lt
  rw [IntKind.wrap_i32]; omega
 have e : l6 s = v7 (s.getD 0 0) := rfl
 rw [e]
 generalize v7 (s.getD 0 0) = k at *
 refine q9 func129 rfl (fun E hE => ?_); simp only [go_sem, ntmps129]
 repeat' (first | (refine Qr rfl ?_; try intro _ hK; try simp only [go_sem, *]) | refine Qh rfl ?_ | (refine Qc rfl rfl ?_ ?_ <;> (intro hb; have hc := hb; try simp only [go_sem] at hc)) | refine q8 rfl ?_ | (refine y5 (sk) ?_; simp only [go_sem, *]) | ((with_reducible apply And.intro); focus omega) | (refine q7 hK ?_; clear hK; simp only [go_sem, *]) | simp only [q6, z8, go_sem, *])
 (refine ⟨[_], [], [], ⟨rfl, trivial⟩, ?_⟩; simp only [go_sem, *])
theorem B1 (a b : Str) (va : ValidN a) (vb : ValidN b) : zMf prog 96 [sV a, sV b] [] (iV (x9 a b)) [] := by
 have sa := P6 a va.form (by have := va.len; omega)
 have sb := P6 b vb.form (by have := vb.len; omega)
 have ta := zDe a va.ne
 have tb := zDe b vb.ne
 have e : x9 a b = orI (zMj (zMh a) (zMh b)) (zMm (l6 a) (l6 b)) := rfl
 have s1 := zDR (zMh a) (zMh b)
 have s2 := zHk (l6 a) (l6 b)
 have so := zDU [zMj (zMh a) (zMh b), zMm (l6 a) (l6 b)] (by simp)
 rw [zC0] at so
 rw [e]
 generalize orI (zMj (zMh a) (zMh b)) (zMm (l6 a) (l6 b)) = r at *
 generalize zMj (zMh a) (zMh b) = r1 at *
 generalize zMm (l6 a) (l6 b) = r2 at *
 generalize zMh a = ka at *
 generalize zMh b = kb at *
 generalize l6 a = ja at *
 generalize l6 b = jb at *
 clear e va vb
 refine q9 func96 rfl (fun E hE => ?_); simp only [go_sem, ntmps96]
 repeat' (first | (refine Qr rfl ?_; try intro _ hK; try simp only [go_sem, *]) | refine Qh rfl ?_ | (refine Qc rfl rfl ?_ ?_ <;> (intro hb; have hc := hb; try simp only [go_sem] at hc)) | refine q8 rfl ?_ | ((first | refine y5 (s1) ?_ | refine y5 (s2) ?_); simp only [go_sem, *]) | (refine p9 (sa) ?_ ?_; (focus (simp only [go_sem, *]; done)); simp only [go_sem, *]) | (refine p9 (sb) ?_ ?_; (focus (simp only [go_sem, *]; done)); simp only [go_sem, *]) | (refine p9 (ta) ?_ ?_; (focus (simp only [go_sem, *]; done)); simp only [go_sem, *]) | (refine p9 (tb) ?_ ?_; (focus (simp only [go_sem, *]; done)); simp only [go_sem, *]) | ((with_reducible apply And.intro); focus omega) | (refine q7 hK ?_; clear hK; simp only [go_sem, *]) | simp only [q6, z8, go_sem, *])
 (refine V9 [0] (so) (by simp only [go_sem, *]) (.raw _) ?_; simp only [go_sem, *])
 repeat' (first | (refine Qr rfl ?_; try intro _ hK; try simp only [go_sem, *]) | refine Qh rfl ?_ | (refine Qc rfl rfl ?_ ?_ <;> (intro hb; have hc := hb; try simp only [go_sem] at hc)) | refine q8 rfl ?_ | ((with_reducible apply And.intro); focus omega) | (refine q7 hK ?_; clear hK; simp only [go_sem, *]) | simp only [q6, z8, go_sem, *])
 (refine ⟨[_], [], [], ⟨rfl, trivial⟩, ?_⟩; simp only [go_sem, *])
theorem D2 (a b : Str) : u7 [a, b] = if x6 a = 0 then x6 b else x6 a := by
 unfold u7
 split
 ·unfold u7
  split
  ·rename_i h; rw [h]; rfl
  ·rfl
 ·rfl
def X9 (a b : Str) : Int := u7 [a, b]
theorem zML (a b : Str) : zMf prog 48 [sV a, sV b] [] (.tup [iV (if X9 a b = 0 then x9 a b else 0), iV (X9 a b)]) [] := by
  have sc : zMf prog 87 [.list [sV a, sV b]] [] (iV (X9 a b)) [] := zA1 [a, b] (by simp)
  by_cases q : X9 a b = 0
  · have hv : ValidN a ∧ ValidN b := by
      unfold X9 at q
      rw [D2] at q
      by_cases h : x6 a = 0
      · rw [if_pos h] at q; exact ⟨checkN_zero.1 h, checkN_zero.1 q⟩
      · rw [if_neg h] at q; exact absurd q h
    have s1 := B1 a b hv.1 hv.2
    rw [if_pos q]
    rw [q] at sc ⊢
    clear hv q
    generalize x9 a b = r at *
    refine q9 func48 rfl (fun E hE => ?_); simp only [go_sem, ntmps48]
    repeat' (first | (refine Qr rfl ?_; try intro _ hK; try simp only [go_sem, *]) | refine Qh rfl ?_ | (refine Qc rfl rfl ?_ ?_ <;> (intro hb; have hc := hb; try simp only [go_sem] at hc)) | refine q8 rfl ?_ | ((with_reducible apply And.intro); focus omega) | (refine q7 hK ?_; clear hK; simp only [go_sem, *]) | simp only [q6, z8, go_sem, *])
    (refine V9 [0] (sc) (by simp only [go_sem, *]) (.raw _) ?_; simp only [go_sem, *])
    repeat' (first | (refine Qr rfl ?_; try intro _ hK; try simp only [go_sem, *]) | refine Qh rfl ?_ | (refine Qc rfl rfl ?_ ?_ <;> (intro hb; have hc := hb; try simp only [go_sem] at hc)) | refine q8 rfl ?_ | (refine y5 (s1) ?_; simp only [go_sem, *]) | ((with_reducible apply And.intro); focus omega) | (refine q7 hK ?_; clear hK; simp only [go_sem, *]) | simp only [q6, z8, go_sem, *])
    all_goals try contradiction
    (refine ⟨[_, _], [], [], ⟨rfl, rfl, trivial⟩, ?_⟩; simp only [go_sem, *])
  · rw [if_neg q]
    generalize X9 a b = e at *
    refine q9 func48 rfl (fun E hE => ?_); simp only [go_sem, ntmps48]
    repeat' (first | (refine Qr rfl ?_; try intro _ hK; try simp only [go_sem, *]) | refine Qh rfl ?_ | (refine Qc rfl rfl ?_ ?_ <;> (intro hb; have hc := hb; try simp only [go_sem] at hc)) | refine q8 rfl ?_ | ((with_reducible apply And.intro); focus omega) | (refine q7 hK ?_; clear hK; simp only [go_sem, *]) | simp only [q6, z8, go_sem, *])
    (refine V9 [0] (sc) (by simp only [go_sem, *]) (.raw _) ?_; simp only [go_sem, *])
    repeat' (first | (refine Qr rfl ?_; try intro _ hK; try simp only [go_sem, *]) | refine Qh rfl ?_ | (refine Qc rfl rfl ?_ ?_ <;> (intro hb; have hc := hb; try simp only [go_sem] at hc)) | refine q8 rfl ?_ | ((with_reducible apply And.intro); focus omega) | (refine q7 hK ?_; clear hK; simp only [go_sem, *]) | simp only [q6, z8, go_sem, *])
    all_goals try contradiction
    (refine ⟨[_, _], [], [], ⟨rfl, rfl, trivial⟩, ?_⟩; simp only [go_sem, *])
def S5 (l : List Str) (i : Nat) : Prop := ∀ j, i ≤ j → j + 1 < l.length → ¬ x9 (l.getD (j + 1) []) (l.getD j []) < 0
theorem orderedB_iff : ∀ {l : List Str}, i9 l = true ↔ S5 l 0
 | [] => by simp [i9, S5]
 | [a] => by simp [i9, S5]
 | a :: b :: r => by
  rw [i9, Bool.and_eq_true, Bool.not_eq_true', decide_eq_false_iff_not, orderedB_iff (l := b :: r)]
  unfold S5
  constructor
  ·rintro ⟨h1, h2⟩ j _ hj
   cases j with
   | zero => simpa using h1
   | succ j =>
    have := h2 j (Nat.zero_le _) (by simpa using hj)
    simpa using this
  ·intro h
   refine ⟨by simpa using h 0 (Nat.le_refl _) (by simp), fun j _ hj => ?_⟩
   have := h (j + 1) (by omega) (by simpa using hj)
   simpa using this
theorem zHw (l : List Str) (hv : ∀ s, s ∈ l → ValidN s) (hl : l.length ≤ 1000) : zMf prog 101 [y8 l, fnV 96] [] (bV (i9 l)) [] := by
  have hca : p7 prog 96 = true := by kernel_rfl
  have hs : ∀ a b : Str, ValidN a → ValidN b → zMf prog 96 [sV a, sV b] [] (iV (x9 a b)) [] := B1
  by_cases h0 : l.length = 0
  · have e : l = [] := List.eq_nil_of_length_eq_zero h0
    subst e
    have hw0 : IntKind.i64.wrap (-1) = (-1 : Int) := by decide
    have er : i9 [] = true := rfl
    rw [er]
    clear hs
    refine q9 func101 rfl (fun E hE => ?_); simp only [go_sem, ntmps101]
    repeat' (first | (refine Qr rfl ?_; try intro _ hK; try simp only [go_sem, *]) | refine Qh rfl ?_ | refine Qd rfl (by kernel_rfl) ?_ | (refine Qc rfl rfl ?_ ?_ <;> (intro hb; have hc := hb; try simp only [go_sem] at hc)) | refine q8 rfl ?_ | (refine Qb ?_ ?_; focus kernel_rfl) | ((with_reducible apply And.intro); focus omega) | (refine q7 hK ?_; clear hK; simp only [go_sem, *]) | simp only [q6, z8, go_sem, *])
    refine o9 rfl (1) (fun i => NoQ i) 25 (fun i => [(5, iV (-1)), (0, y8 []), (1, fnV 96)]) (fun i => []) [] [] (by trivial) ?_; intro i hi hP
    repeat' (first | (refine Qr rfl ?_; try intro _ hK; try simp only [go_sem, *]) | refine Qh rfl ?_ | refine Qd rfl (by kernel_rfl) ?_ | (refine Qc rfl rfl ?_ ?_ <;> (intro hb; have hc := hb; try simp only [go_sem] at hc)) | refine q8 rfl ?_ | (refine Qb ?_ ?_; focus kernel_rfl) | ((with_reducible apply And.intro); focus omega) | (refine q7 hK ?_; clear hK; simp only [go_sem, *]) | simp only [q6, z8, go_sem, *])
    all_goals try contradiction
    (refine ⟨[_], [], [], ⟨rfl, trivial⟩, ?_⟩; simp only [go_sem, *])
  have hw0 : IntKind.i64.wrap ((l.length : Int) - 1) = ((l.length - 1 : Nat) : Int) := by rw [wrap_i64 (by omega) (by omega)]; omega
  refine q9 func101 rfl (fun E hE => ?_); simp only [go_sem, ntmps101]
  repeat' (first | (refine Qr rfl ?_; try intro _ hK; try simp only [go_sem, *]) | refine Qh rfl ?_ | refine Qd rfl (by kernel_rfl) ?_ | (refine Qc rfl rfl ?_ ?_ <;> (intro hb; have hc := hb; try simp only [go_sem] at hc)) | refine q8 rfl ?_ | (refine Qb ?_ ?_; focus kernel_rfl) | ((with_reducible apply And.intro); focus omega) | (refine q7 hK ?_; clear hK; simp only [go_sem, *]) | simp only [q6, z8, go_sem, *])
  refine o9 rfl (l.length) (fun i => i + 1 ≤ l.length ∧ S5 l (l.length - 1 - i)) 25 (fun i => [(5, iV ((l.length - 1 - i : Nat) : Int)), (0, y8 l), (1, fnV 96)]) (fun i => []) [] [] (by exact ⟨by omega, fun j h1 h2 => by omega⟩) ?_; intro i hi hP
  obtain ⟨hi3, hP⟩ := hP
  generalize hk : l.length - 1 - i = k at *
  by_cases hi2 : 0 < k
  · have hw1 : IntKind.i64.wrap ((k : Int) - 1) = ((k - 1 : Nat) : Int) := by rw [wrap_i64 (by omega) (by omega)]; omega
    have hk1 : k < l.length := by omega
    have hk2 : k - 1 < l.length := by omega
    have m1 : l.getD k default ∈ l := j9 hk1
    have m2 : l.getD (k - 1) default ∈ l := j9 hk2
    have sc := hs _ _ (hv _ m1) (hv _ m2)
    have hstep : ¬ x9 (l.getD k default) (l.getD (k - 1) default) < 0 → S5 l (k - 1) := fun h j h1 h2 => by
      by_cases e : j = k - 1
      · subst e
        rw [show k - 1 + 1 = k by omega]; exact h
      · exact hP j (by omega) h2
    have hbad : x9 (l.getD k default) (l.getD (k - 1) default) < 0 → i9 l = false := fun h => by
      cases e : i9 l with
      | false => rfl
      | true =>
        have := orderedB_iff.1 e (k - 1) (by omega) (by omega)
        rw [show k - 1 + 1 = k by omega] at this
        exact absurd h this
    clear hs hP
    have hnx : l.length - 1 - (i + 1) = k - 1 := by omega
    generalize x9 (l.getD k default) (l.getD (k - 1) default) = c at *
    repeat' (first | (refine Qr rfl ?_; try intro _ hK; try simp only [go_sem, *]) | refine Qh rfl ?_ | refine Qd rfl (by kernel_rfl) ?_ | (refine Qc rfl rfl ?_ ?_ <;> (intro hb; have hc := hb; try simp only [go_sem] at hc)) | refine q8 rfl ?_ | (refine Qb ?_ ?_; focus kernel_rfl) | (refine y5 (sc) ?_; simp only [go_sem, *]) | ((with_reducible apply And.intro); focus omega) | (refine q7 hK ?_; clear hK; simp only [go_sem, *]) | simp only [q6, z8, go_sem, *])
    · (refine ⟨[_], [], [], ⟨rfl, trivial⟩, ?_⟩; simp only [go_sem, *])
    · exact f8 (i' := i + 1) [] [] (by rw [hnx]; exact ⟨by omega, hstep (by omega)⟩)
  · have hf : S5 l 0 := by
      have : k = 0 := by omega
      rw [this] at hP; exact hP
    rw [orderedB_iff.2 hf]
    clear hs hP hf
    repeat' (first | (refine Qr rfl ?_; try intro _ hK; try simp only [go_sem, *]) | refine Qh rfl ?_ | refine Qd rfl (by kernel_rfl) ?_ | (refine Qc rfl rfl ?_ ?_ <;> (intro hb; have hc := hb; try simp only [go_sem] at hc)) | refine q8 rfl ?_ | (refine Qb ?_ ?_; focus kernel_rfl) | ((with_reducible apply And.intro); focus omega) | (refine q7 hK ?_; clear hK; simp only [go_sem, *]) | simp only [q6, z8, go_sem, *])
    all_goals first | contradiction | omega | skip
    (refine ⟨[_], [], [], ⟨rfl, trivial⟩, ?_⟩; simp only [go_sem, *])
end Go.Abs

namespace Go.Abs
open Go Go.Proofs Tryz
attribute [local irreducible] y6 Hold x5
theorem zCv : ∀ {l : List Str}, u7 l = 0 → ∀ s, s ∈ l → ValidN s
 | [], _, s, h => by cases h
 | a :: r, e, s, h => by
  rw [u7] at e
  split at e
  ·rename_i ha
   rcases List.mem_cons.1 h with rfl | h
   ·exact checkN_zero.1 ha
   ·exact zCv e s h
  ·rename_i ha; exact absurd e ha
theorem E6 {l : List Str} (h : v8 l = 0) : l.length ≤ 6 := by
 unfold v8 at h
 split at h
 ·cases h
 ·omega
theorem E7 {l : List Str} (h : v8 l = 0) : ∀ s, s ∈ l → ValidN s := by
 unfold v8 at h
 split at h
 ·cases h
 ·exact zCv h
theorem zMO (l : List Str) (s : Str) (hl : l.length ≤ 4294967296) : zMf prog 63 [y8 l, sV s] [] (.tup [iV (W6 l s), iV (X3 l s)]) [] := by
 have s1 := L7 l hl
 have s2 := G5 s
 by_cases q1 : v8 l = 0
 ·by_cases q2 : x6 s = 0
  ·have hv := E7 q1
   have hl6 := E6 q1
   have s3 := zHw l hv (by omega)
   by_cases q3 : i9 l = true
   ·have e1 : X3 l s = 0 := by unfold X3; rw [if_pos q1, if_pos q2, if_pos q3]
    have e2 : W6 l s = ((l.countP fun x => decide (x9 x s < 0) : Nat) : Int) := by unfold W6; rw [if_pos e1]
    rw [e1, e2]
    rw [q1] at s1
    rw [q2] at s2
    rw [q3] at s3
    have vs := checkN_zero.1 q2
    have s4 : ∀ i, i < l.length → zMf prog 96 [sV (l.getD i default), sV s] [] (iV (x9 (l.getD i default) s)) [] := fun i hi => B1 _ _ (hv _ (j9 hi)) vs
    clear q1 q2 q3 e1 e2 hv vs
    refine q9 func63 rfl (fun E hE => ?_); simp only [go_sem, ntmps63]
    repeat' (first | (refine Qr rfl ?_; try intro _ hK; try simp only [go_sem, *]) | refine Qh rfl ?_ | (refine Qc rfl rfl ?_ ?_ <;> (intro hb; have hc := hb; try simp only [go_sem] at hc)) | refine q8 rfl ?_ | ((first | refine y5 (s1) ?_ | refine y5 (s2) ?_ | refine y5 (s3) ?_); simp only [go_sem, *]) | ((with_reducible apply And.intro); focus omega) | (refine q7 hK ?_; clear hK; simp only [go_sem, *]) | simp only [q6, z8, go_sem, *])
    all_goals try contradiction
    refine a7 rfl (l.length) (fun i (n : Nat) => n = (l.take i).countP fun x => decide (x9 x s < 0)) 38 (fun i n => [(26, iV i), (25, iV l.length), (24, y8 l), (8, iV n), (1, sV s)]) (fun i n => []) [] [] (0) (by simp) ?_; intro i n hi hP
    by_cases hi2 : i < l.length
    ·have sc := s4 i hi2
     have hn : (l.take (i + 1)).countP (fun x => decide (x9 x s < 0)) = n + if x9 (l.getD i default) s < 0 then 1 else 0 := by
      rw [zDn hi2, List.countP_append, ← hP]; simp [List.countP_cons]
     have hw : IntKind.i64.wrap ((n : Int) + 1) = ((n + 1 : Nat) : Int) := r7 (by have := List.countP_le_length (p := fun x => decide (x9 x s < 0)) (l := l.take i); simp at this; omega)
     clear hP
     generalize x9 (l.getD i default) s = c at *
     repeat' (first | (refine Qr rfl ?_; try intro _ hK; try simp only [go_sem, *]) | refine Qh rfl ?_ | (refine Qc rfl rfl ?_ ?_ <;> (intro hb; have hc := hb; try simp only [go_sem] at hc)) | refine q8 rfl ?_ | (refine y5 (sc) ?_; simp only [go_sem, *]) | ((with_reducible apply And.intro); focus omega) | (refine q7 hK ?_; clear hK; simp only [go_sem, *]) | simp only [q6, z8, go_sem, *])
     ·rw [if_pos (by assumption)] at hn
      exact n0 (i' := i + 1) [] [] (n + 1) (by exact hn.symm)
     ·rw [if_neg (by omega)] at hn
      exact n0 (i' := i + 1) [] [] (n) (by exact hn.symm)
    ·rw [List.take_of_length_le (by omega)] at hP
     rw [← hP]
     clear hP
     repeat' (first | (refine Qr rfl ?_; try intro _ hK; try simp only [go_sem, *]) | refine Qh rfl ?_ | (refine Qc rfl rfl ?_ ?_ <;> (intro hb; have hc := hb; try simp only [go_sem] at hc)) | refine q8 rfl ?_ | ((with_reducible apply And.intro); focus omega) | (refine q7 hK ?_; clear hK; simp only [go_sem, *]) | simp only [q6, z8, go_sem, *])
     (refine ⟨[_, _], [], [], ⟨rfl, rfl, trivial⟩, ?_⟩; simp only [go_sem, *])
   ·have q4 : i9 l = false := by simpa using q3
    have e1 : X3 l s = 5 := by unfold X3; rw [if_pos q1, if_pos q2, if_neg q3]
    have e2 : W6 l s = 0 := by unfold W6; rw [e1]; rfl
    rw [e1, e2]
    rw [q1] at s1
    rw [q2] at s2
    rw [q4] at s3
    clear q1 q2 q3 q4 e1 e2 hv
    refine q9 func63 rfl (fun E hE => ?_); simp only [go_sem, ntmps63]
    repeat' (first | (refine Qr rfl ?_; try intro _ hK; try simp only [go_sem, *]) | refine Qh rfl ?_ | (refine Qc rfl rfl ?_ ?_ <;> (intro hb; have hc := hb; try simp only [go_sem] at hc)) | refine q8 rfl ?_ | ((first | refine y5 (s1) ?_ | refine y5 (s2) ?_ | refine y5 (s3) ?_); simp only [go_sem, *]) | ((with_reducible apply And.intro); focus omega) | (refine q7 hK ?_; clear hK; simp only [go_sem, *]) | simp only [q6, z8, go_sem, *])
    all_goals try contradiction
    (refine ⟨[_, _], [], [], ⟨rfl, rfl, trivial⟩, ?_⟩; simp only [go_sem, *])
  ·have e1 : X3 l s = x6 s := by unfold X3; rw [if_pos q1, if_neg q2]
   have e2 : W6 l s = 0 := by unfold W6; rw [e1, if_neg q2]
   rw [e1, e2]
   rw [q1] at s1
   clear q1 e1 e2
   generalize x6 s = e at *
   refine q9 func63 rfl (fun E hE => ?_); simp only [go_sem, ntmps63]
   repeat' (first | (refine Qr rfl ?_; try intro _ hK; try simp only [go_sem, *]) | refine Qh rfl ?_ | (refine Qc rfl rfl ?_ ?_ <;> (intro hb; have hc := hb; try simp only [go_sem] at hc)) | refine q8 rfl ?_ | ((first | refine y5 (s1) ?_ | refine y5 (s2) ?_); simp only [go_sem, *]) | ((with_reducible apply And.intro); focus omega) | (refine q7 hK ?_; clear hK; simp only [go_sem, *]) | simp only [q6, z8, go_sem, *])
   all_goals try contradiction
   (refine ⟨[_, _], [], [], ⟨rfl, rfl, trivial⟩, ?_⟩; simp only [go_sem, *])
 ·have e1 : X3 l s = v8 l := by unfold X3; rw [if_neg q1]
  have e2 : W6 l s = 0 := by unfold W6; rw [e1, if_neg q1]
  rw [e1, e2]
  clear s2 e1 e2
  generalize v8 l = e at *
  refine q9 func63 rfl (fun E hE => ?_); simp only [go_sem, ntmps63]
  repeat' (first | (refine Qr rfl ?_; try intro _ hK; try simp only [go_sem, *]) | refine Qh rfl ?_ | (refine Qc rfl rfl ?_ ?_ <;> (intro hb; have hc := hb; try simp only [go_sem] at hc)) | refine q8 rfl ?_ | (refine y5 (s1) ?_; simp only [go_sem, *]) | ((with_reducible apply And.intro); focus omega) | (refine q7 hK ?_; clear hK; simp only [go_sem, *]) | simp only [q6, z8, go_sem, *])
  all_goals try contradiction
  (refine ⟨[_, _], [], [], ⟨rfl, rfl, trivial⟩, ?_⟩; simp only [go_sem, *])
end Go.Abs

namespace Go.Abs
open Go Go.Proofs Tryz
attribute [local irreducible] y6 Hold x5
abbrev nV (n : Nat) : AV := iV (n : Int)
theorem zGx (cf : Nat → Nat → Int) (xs : List Nat) : xs = l5 cf (xs.take 1) ++ xs.drop 1 := by
 cases xs with
 | nil => rfl
 | cons x r => simp [l5, zMu, zNF]
def zNk (cf : Nat → Nat → Int) (xs cur : List Nat) (i : Nat) : Prop := cur = l5 cf (xs.take (i + 1)) ++ xs.drop (i + 1)
theorem zIZ (l : List Str) (hv : ∀ s, s ∈ l → ValidN s) (a b : Nat) (ha : a < l.length) (hb' : b < l.length) : zMf prog 107 [nV a, nV b, .ptr 0 0] [.box [y8 l]] (iV (x9 (l.getD a []) (l.getD b []))) [.box [y8 l]] := by
 have sc := B1 _ _ (hv _ (j9 ha)) (hv _ (j9 hb'))
 have e : x9 (l.getD a []) (l.getD b []) = x9 (l.getD a default) (l.getD b default) := rfl
 rw [e]
 clear e
 generalize x9 (l.getD a default) (l.getD b default) = r at *
 refine q9 func107 rfl (fun E hE => ?_); simp only [go_sem, ntmps107]
 repeat' (first | (refine Qr rfl ?_; try intro _ hK; try simp only [go_sem, *]) | refine Qh rfl ?_ | refine Qd rfl (by kernel_rfl) ?_ | (refine Qc rfl rfl ?_ ?_ <;> (intro hb; have hc := hb; try simp only [go_sem] at hc)) | refine q8 rfl ?_ | (refine Qb ?_ ?_; focus kernel_rfl) | (refine y5 (sc) ?_; simp only [go_sem, *]) | ((with_reducible apply And.intro); focus omega) | (refine q7 hK ?_; clear hK; simp only [go_sem, *]) | simp only [q6, z8, go_sem, *])
 refine ⟨[_], [some 0], [], ⟨rfl, trivial⟩, ?_⟩
 simp only [go_sem, *]
theorem zIK (l : List Str) (hv : ∀ s, s ∈ l → ValidN s) (xs : List Nat) (h1 : xs.length ≤ 20) (hx : ∀ x, x ∈ xs → x < l.length) :
  zMf prog 154 [.own 0 1 0 xs.length, iV 0, iV xs.length, .fn 107 [.ptr 1 0]] [.row 1 (xs.map nV), .box [y8 l]] (.tup []) [.row 1 ((l5 (cfI l) xs).map nV), .box [y8 l]] := by
 have hca : p7 prog 107 = true := by kernel_rfl
 have hf : ∀ a b : Nat, a < l.length → b < l.length → zMf prog 107 [nV a, nV b, .ptr 0 0] [.box [y8 l]] (iV (cfI l a b)) [.box [y8 l]] := fun a b h1 h2 => zIZ l hv a b h1 h2
 clear hv
 refine q9 func154 rfl (fun E hE => ?_); simp only [go_sem, ntmps154]
 have hw0 : IntKind.i64.wrap 1 = (1 : Int) := wrap_i64 (by omega) (by omega)
 repeat' (first | (refine Qr rfl ?_; try intro _ hK; try simp only [go_sem, *]) | (refine Qi rfl rfl rfl rfl ?_ ?_ <;> (intro hb; (try intro _ hK); have hc := hb; try simp only [go_sem] at hc; simp only [go_sem, *])) | refine Qh rfl ?_ | refine Qd rfl (by kernel_rfl) ?_ | (refine Qc rfl rfl ?_ ?_ <;> (intro hb; have hc := hb; try simp only [go_sem] at hc)) | refine q8 rfl ?_ | (refine Qb ?_ ?_; focus kernel_rfl) | ((with_reducible apply And.intro); focus omega) | (refine q7 hK ?_; clear hK; simp only [go_sem, *]) | simp only [q6, z8, go_sem, *])
 refine a7 rfl (xs.length) (fun i (cur : List Nat) => zNk (cfI l) xs cur i) 53 (fun i cur => [(8, iV ((i : Int) + 1)), (0, .own 0 1 0 xs.length), (1, iV 0), (2, iV xs.length), (3, .fn 107 [.ptr 1 0])]) (fun i cur => [.row 1 (cur.map nV), .box [y8 l]]) [some 0, some 1] [] (xs) (by exact zGx (cfI l) xs) ?_; intro i cur hi hP
 have hw : i < xs.length → IntKind.i64.wrap ((i : Int) + 1 + 1) = (((i + 1 : Nat) : Int) + 1) := fun h => by rw [wrap_i64 (by omega) (by omega)]; omega
 have hcm : ((i : Int) + 1 < (xs.length : Int)) = (i + 1 < xs.length) := by simp only [eq_iff_iff]; omega
 repeat' (first | (refine Qr rfl ?_; try intro _ hK; try simp only [go_sem, *]) | (refine Qi rfl rfl rfl rfl ?_ ?_ <;> (intro hb; (try intro _ hK); have hc := hb; try simp only [go_sem] at hc; simp only [go_sem, *])) | refine Qh rfl ?_ | refine Qd rfl (by kernel_rfl) ?_ | (refine Qc rfl rfl ?_ ?_ <;> (intro hb; have hc := hb; try simp only [go_sem] at hc)) | refine q8 rfl ?_ | (refine Qb ?_ ?_; focus kernel_rfl) | ((with_reducible apply And.intro); focus omega) | (refine q7 hK ?_; clear hK; simp only [go_sem, *]) | simp only [q6, z8, go_sem, *])
 ·have hlt : i + 1 < xs.length := by assumption
  have hlt' : i < xs.length := by omega
  obtain ⟨S, hS⟩ : ∃ S, S = l5 (cfI l) (xs.take (i + 1)) := ⟨_, rfl⟩
  have hSl : S.length = i + 1 := by rw [hS, zCR]; simp; try omega
  obtain ⟨x, hxx⟩ : ∃ x, x = xs.getD (i + 1) default := ⟨_, rfl⟩
  obtain ⟨R, hR⟩ : ∃ R, R = xs.drop (i + 1 + 1) := ⟨_, rfl⟩
  have hxl : x < l.length := by rw [hxx]; exact hx _ (j9 hlt)
  have hSm : ∀ k, k < S.length → S.getD k default < l.length := fun k hk => by
   have h2 : S.getD k default ∈ S := j9 hk
   rw [hS] at h2
   have h3 := (E4 (cfI l) (xs.take (i + 1))).mem_iff.1 h2
   rw [← hS] at h3
   exact hx _ (List.mem_of_mem_take h3)
  have hcur : cur = S ++ x :: R := by
   unfold zNk at hP
   rw [hP, hS, hxx, hR, j4 hlt]
  have hfin : zMu (cfI l) S x ++ R = l5 (cfI l) (xs.take (i + 1 + 1)) ++ xs.drop (i + 1 + 1) := by
   rw [hS, hxx, hR, zDn hlt, zCT]
  have hst : InsP (cfI l) S x R cur 0 := by rw [hcur]; exact InsP.start (cfI l) S x R
  have hRl : R.length = xs.length - (i + 2) := by rw [hR]; simp; try omega
  clear hS hxx hR hcur hP
  refine a7 rfl (i + 1) (fun d (cur : List Nat) => InsP (cfI l) S x R cur d) 53 (fun d cur => [(9, iV (((i + 1) - d : Nat) : Int)), (8, iV ((i : Int) + 1)), (0, .own 0 1 0 xs.length), (1, iV 0), (2, iV xs.length), (3, .fn 107 [.ptr 1 0])]) (fun d cur => [.row 1 (cur.map nV), .box [y8 l]]) [some 0, some 1] [] (cur) (by exact hst) ?_; intro d cur hd hQ
  have hcl : cur.length = xs.length := by rw [hQ.1, zEo]; omega
  have gx : cur.getD (i + 1 - d) default = x := by rw [hQ.1, ← hSl]; exact zEq S x R (by omega)
  have gy : d < i + 1 → cur.getD (i + 1 - d - 1) default = S.getD (i + 1 - d - 1) default := fun h => by rw [hQ.1, ← hSl]; exact zEr S x R (by omega)
  have hwk : 0 < i + 1 - d → IntKind.i64.wrap (((i + 1 - d : Nat) : Int) - 1) = ((i + 1 - d - 1 : Nat) : Int) := fun h => by rw [wrap_i64 (by omega) (by omega)]; omega
  have hnx : i + 1 - (d + 1) = i + 1 - d - 1 := by omega
  have hkl : i + 1 - d < xs.length := by omega
  have hkl1 : i + 1 - d - 1 < xs.length := by omega
  have hd1 : 0 < i + 1 - d → d < i + 1 := fun h => by omega
  by_cases hd2 : d < i + 1
  ·have sf := hf x (S.getD (i + 1 - d - 1) default) hxl (hSm _ (by omega))
   have gy2 := gy hd2
   clear hf gy
   repeat' (first | (refine Qr rfl ?_; try intro _ hK; try simp only [go_sem, *]) | (refine Qi rfl rfl rfl rfl ?_ ?_ <;> (intro hb; (try intro _ hK); have hc := hb; try simp only [go_sem] at hc; simp only [go_sem, *])) | refine Qh rfl ?_ | refine Qd rfl (by kernel_rfl) ?_ | (refine Qc rfl rfl ?_ ?_ <;> (intro hb; have hc := hb; try simp only [go_sem] at hc)) | refine q8 rfl ?_ | (refine Qb ?_ ?_; focus kernel_rfl) | (refine t8 [1] (sf) ?_; simp only [go_sem, *]) | ((with_reducible apply And.intro); focus omega) | (refine q7 hK ?_; clear hK; simp only [go_sem, *]) | simp only [q6, z8, go_sem, *])
   all_goals try (exfalso; omega)
   ·exact n0 (i' := d + 1) [some 0, some 1] [] ((cur.set (i + 1 - d) (S.getD (i + 1 - d - 1) default)).set (i + 1 - d - 1) x) (by have := InsP.next (cfI l) hQ (by omega) (by rw [hSl]; assumption); rwa [hSl] at this)
   ·have hs := InsP.stop (cfI l) hQ (by omega) (fun _ => by rw [hSl]; omega)
    exact n0 (i' := i + 1) [some 0, some 1] [] (cur) (by rw [hs]; exact hfin)
  ·have hs := InsP.stop (cfI l) hQ (by omega) (fun h => by omega)
   clear hf gy
   repeat' (first | (refine Qr rfl ?_; try intro _ hK; try simp only [go_sem, *]) | (refine Qi rfl rfl rfl rfl ?_ ?_ <;> (intro hb; (try intro _ hK); have hc := hb; try simp only [go_sem] at hc; simp only [go_sem, *])) | refine Qh rfl ?_ | refine Qd rfl (by kernel_rfl) ?_ | (refine Qc rfl rfl ?_ ?_ <;> (intro hb; have hc := hb; try simp only [go_sem] at hc)) | refine q8 rfl ?_ | (refine Qb ?_ ?_; focus kernel_rfl) | ((with_reducible apply And.intro); focus omega) | (refine q7 hK ?_; clear hK; simp only [go_sem, *]) | simp only [q6, z8, go_sem, *])
   all_goals try (exfalso; omega)
   exact n0 (i' := i + 1) [some 0, some 1] [] (cur) (by rw [hs]; exact hfin)
 ·refine ⟨[], [some 0, some 1], [], trivial, ?_⟩
  have e1 : xs.take (i + 1) = xs := List.take_of_length_le (by omega)
  have e2 : xs.drop (i + 1) = [] := d7 (by omega)
  unfold zNk at hP
  rw [e1, e2, List.append_nil] at hP
  rw [hP]
  simp only [go_sem, f9, *]
end Go.Abs

namespace Go.Abs
open Go Go.Proofs Tryz
attribute [local irreducible] y6 Hold x5
attribute [go_sem] List.length_range
theorem zIb (l : List Str) (hv : ∀ s, s ∈ l → ValidN s) (xs : List Nat) (h1 : xs.length ≤ 6) (hx : ∀ x, x ∈ xs → x < l.length) :
  zMf prog 133 [.own 0 1 0 xs.length, iV xs.length, .fn 107 [.ptr 1 0]] [.row 1 (xs.map nV), .box [y8 l]] (.tup []) [.row 1 ((l5 (cfI l) xs).map nV), .box [y8 l]] := by
 have si := zIK l hv xs (by omega) hx
 have hli : ((l5 (cfI l) xs).map nV).length = xs.length := by simp [zCR]
 generalize l5 (cfI l) xs = ys at *
 clear hv hx
 have g1 : ¬ ((20 : Int) ≤ (xs.length : Int)) := by omega
 have g2 : ¬ ((20 : Int) < (xs.length : Int)) := by omega
 have g3 : IntKind.i64.wrap ((20 : Int) + 20) = 40 := by decide
 refine q9 func133 rfl (fun E hE => ?_); simp only [go_sem, ntmps133]
 repeat' (first | (refine Qr rfl ?_; try intro _ hK; try simp only [go_sem, *]) | refine Qh rfl ?_ | (refine Qc rfl rfl ?_ ?_ <;> (intro hb; have hc := hb; try simp only [go_sem] at hc)) | refine q8 rfl ?_ | ((with_reducible apply And.intro); focus omega) | (refine q7 hK ?_; clear hK; simp only [go_sem, *]) | simp only [q6, z8, go_sem, *])
 refine o9 rfl (1) (fun i => NoQ i) 63 (fun i => [(8, iV 20), (7, iV 0), (6, iV 20), (0, .own 0 1 0 xs.length), (1, iV xs.length), (2, .fn 107 [.ptr 1 0])]) (fun i => [.row 1 (xs.map nV), .box [y8 l]]) [some 0, some 1] [] (by trivial) ?_; intro i hi hP
 repeat' (first | (refine Qr rfl ?_; try intro _ hK; try simp only [go_sem, *]) | refine Qh rfl ?_ | (refine Qc rfl rfl ?_ ?_ <;> (intro hb; have hc := hb; try simp only [go_sem] at hc)) | refine q8 rfl ?_ | (refine t8 [0, 1] (si) ?_; simp only [go_sem, *]) | ((with_reducible apply And.intro); focus omega) | (refine q7 hK ?_; clear hK; simp only [go_sem, *]) | simp only [q6, z8, go_sem, *])
 all_goals try (exfalso; omega)
 refine o9 rfl (1) (fun i => NoQ i) 63 (fun i => [(6, iV 20), (0, .own 0 1 0 xs.length), (1, iV xs.length), (2, .fn 107 [.ptr 1 0])]) (fun i => [.row 1 (ys.map nV), .box [y8 l]]) [some 0, some 1] [] (by trivial) ?_; intro i hi hP
 repeat' (first | (refine Qr rfl ?_; try intro _ hK; try simp only [go_sem, *]) | refine Qh rfl ?_ | (refine Qc rfl rfl ?_ ?_ <;> (intro hb; have hc := hb; try simp only [go_sem] at hc)) | refine q8 rfl ?_ | ((with_reducible apply And.intro); focus omega) | (refine q7 hK ?_; clear hK; simp only [go_sem, *]) | simp only [q6, z8, go_sem, *])
 all_goals try (exfalso; omega)
 refine ⟨[], [some 0, some 1], [], trivial, ?_⟩
 simp only [go_sem, f9, *]
theorem zH2 (l : List Str) (hv : ∀ s, s ∈ l → ValidN s) (xs : List Nat) (h1 : xs.length ≤ 6) (hx : ∀ x, x ∈ xs → x < l.length) :
  zMf prog 106 [.own 0 1 0 xs.length, .fn 107 [.ptr 1 0]] [.row 1 (xs.map nV), .box [y8 l]] (.tup []) [.row 1 ((l5 (cfI l) xs).map nV), .box [y8 l]] := by
 have si := zIb l hv xs h1 hx
 generalize l5 (cfI l) xs = ys at *
 clear hv hx
 refine q9 func106 rfl (fun E hE => ?_); simp only [go_sem, ntmps106]
 repeat' (first | (refine Qr rfl ?_; try intro _ hK; try simp only [go_sem, *]) | refine Qh rfl ?_ | (refine Qc rfl rfl ?_ ?_ <;> (intro hb; have hc := hb; try simp only [go_sem] at hc)) | refine q8 rfl ?_ | (refine t8 [0, 1] (si) ?_; simp only [go_sem, *]) | ((with_reducible apply And.intro); focus omega) | (refine q7 hK ?_; clear hK; simp only [go_sem, *]) | simp only [q6, z8, go_sem, *])
 refine ⟨[], [some 0, some 1], [], trivial, ?_⟩
 simp only [go_sem, f9, *]
theorem zH3 (l : List Str) (q : v8 l = 0) : zMf prog 62 [y8 l] [] (.tup [.own 0 1 0 l.length, iV 0]) [.row 1 ((r6 l).map nV)] := by
 have hv := E7 q
 have h6 := E6 q
 have s1 := L7 l (by omega)
 rw [q] at s1
 have ss := zH2 l hv (List.range l.length) (by simpa using h6) (fun x hx => List.mem_range.1 hx)
 rw [List.length_range] at ss
 have e : l5 (cfI l) (List.range l.length) = r6 l := rfl
 rw [e] at ss
 have hsl := C8 l
 generalize r6 l = ys at *
 clear hv q e
 refine q9 func62 rfl (fun E hE => ?_); simp only [go_sem, ntmps62]
 repeat' (first | (refine Qr rfl ?_; try intro _ hK; try simp only [go_sem, *]) | refine Qh rfl ?_ | (refine Qc rfl rfl ?_ ?_ <;> (intro hb; have hc := hb; try simp only [go_sem] at hc)) | refine q8 rfl ?_ | (refine y5 (s1) ?_; simp only [go_sem, *]) | ((with_reducible apply And.intro); focus omega) | (refine q7 hK ?_; clear hK; simp only [go_sem, *]) | simp only [q6, z8, go_sem, *])
 all_goals try contradiction
 refine o9 rfl (l.length) (fun i => NoQ i) 26 (fun i => [(14, iV i), (13, iV l.length), (5, .own 1 1 0 i), (1, .ptr 0 0)]) (fun i => [.box [y8 l], .row 1 ((List.range i).map nV)]) [some 0, none] [] (by trivial) ?_; intro i hi hP
 by_cases hi2 : i < l.length
 ·clear ss
  repeat' (first | (refine Qr rfl ?_; try intro _ hK; try simp only [go_sem, *]) | refine Qh rfl ?_ | (refine Qc rfl rfl ?_ ?_ <;> (intro hb; have hc := hb; try simp only [go_sem] at hc)) | refine q8 rfl ?_ | ((with_reducible apply And.intro); focus omega) | (refine q7 hK ?_; clear hK; simp only [go_sem, *]) | simp only [q6, z8, go_sem, *])
  exact f8 (i' := i + 1) [some 0, some 3] [] (by trivial)
 ·have e : i = l.length := by omega
  subst e
  repeat' (first | (refine Qr rfl ?_; try intro _ hK; try simp only [go_sem, *]) | refine Qh rfl ?_ | (refine Qc rfl rfl ?_ ?_ <;> (intro hb; have hc := hb; try simp only [go_sem] at hc)) | refine q8 rfl ?_ | (refine t8 [1, 0] (ss) ?_; simp only [go_sem, *]) | ((with_reducible apply And.intro); focus omega) | (refine q7 hK ?_; clear hK; simp only [go_sem, *]) | simp only [q6, z8, go_sem, *])
  refine ⟨[_, _], [some 1], [], ⟨rfl, rfl, trivial⟩, ?_⟩
  simp only [go_sem, *]
theorem zMP (l : List Str) (hl : l.length ≤ 4294967296) (q : ¬ v8 l = 0) : zMf prog 62 [y8 l] [] (.tup [.raw (.slice none 0 0), iV (v8 l)]) [] := by
 have s1 := L7 l hl
 generalize v8 l = e at *
 refine q9 func62 rfl (fun E hE => ?_); simp only [go_sem, ntmps62]
 repeat' (first | (refine Qr rfl ?_; try intro _ hK; try simp only [go_sem, *]) | refine Qh rfl ?_ | (refine Qc rfl rfl ?_ ?_ <;> (intro hb; have hc := hb; try simp only [go_sem] at hc)) | refine q8 rfl ?_ | (refine y5 (s1) ?_; simp only [go_sem, *]) | ((with_reducible apply And.intro); focus omega) | (refine q7 hK ?_; clear hK; simp only [go_sem, *]) | simp only [q6, z8, go_sem, *])
 all_goals try contradiction
 (refine ⟨[_, _], [], [], ⟨rfl, rfl, trivial⟩, ?_⟩; simp only [go_sem, *])
end Go.Abs

namespace Go.Abs
open Go Go.Proofs Tryz
attribute [local irreducible] y6 Hold x5
theorem zIO (r : Int) : zMf prog 145 [.raw (.int .i32 r)] [] (bV (Y5 r != 1)) [] := by
 have sk := zA2 r
 generalize Y5 r = k at *
 refine q9 func145 rfl (fun E hE => ?_); simp only [go_sem, ntmps145]
 repeat' (first | (refine Qr rfl ?_; try intro _ hK; try simp only [go_sem, *]) | refine Qh rfl ?_ | (refine Qc rfl rfl ?_ ?_ <;> (intro hb; have hc := hb; try simp only [go_sem] at hc)) | refine q8 rfl ?_ | (refine y5 (sk) ?_; simp only [go_sem, *]) | ((with_reducible apply And.intro); focus omega) | (refine q7 hK ?_; clear hK; simp only [go_sem, *]) | simp only [q6, z8, go_sem, *])
 (refine ⟨[_], [], [], ⟨rfl, trivial⟩, ?_⟩; simp only [go_sem, *])
theorem zIJ (s : Str) (hl : s.length ≤ 4294967296) : ∃ n : Int, (0 ≤ n ↔ s.all y9 = false) ∧ zMf prog 189 [sV s, fnV 145, bV true] [] (iV n) [] := by
  have hca : p7 prog 145 = true := by kernel_rfl
  obtain ⟨k, hk⟩ : ∃ k : Nat, k = (s.takeWhile y9).length := ⟨_, rfl⟩
  have hkl : k ≤ s.length := by rw [hk]; exact (List.takeWhile_sublist _).length_le
  have hin : ∀ i, i < k → y9 (s.getD i 0) = true := fun i hi => by
    have h1 : i < (s.takeWhile y9).length := by omega
    have h2 := List.all_eq_true.1 (List.all_takeWhile (p := y9) (l := s)) _ (List.getElem_mem h1)
    have h3 : (s.takeWhile y9)[i] = s[i]'(by omega) := List.IsPrefix.getElem (List.takeWhile_prefix _) h1
    rw [h3] at h2
    simpa [List.getD, show i < s.length by omega] using h2
  have hout : k < s.length → y9 (s.getD k 0) = false := fun h => by
    have h1 : s.dropWhile y9 ≠ [] := fun e => by
      have := congrArg List.length (List.takeWhile_append_dropWhile (p := y9) (l := s))
      rw [List.length_append, e] at this
      simp at this; omega
    have h2 := List.head_dropWhile_not (p := y9) h1
    have h3 : (s.dropWhile y9).head h1 = s.getD k 0 := by
      have h4 : s = s.takeWhile y9 ++ s.dropWhile y9 := (List.takeWhile_append_dropWhile).symm
      have h5 : s.getD k 0 = (s.takeWhile y9 ++ s.dropWhile y9).getD k 0 := by rw [← h4]
      rw [h5, hk]
      generalize s.takeWhile y9 = tw
      generalize s.dropWhile y9 = dw at h1
      cases dw with
      | nil => exact absurd rfl h1
      | cons a r => simp
    rw [h3] at h2
    exact h2
  refine ⟨if k < s.length then (k : Int) else -1, ?_, ?_⟩
  · by_cases h : k < s.length
    · rw [if_pos h]
      refine ⟨fun _ => ?_, fun _ => by omega⟩
      rw [List.all_eq_false]
      refine ⟨s.getD k 0, ?_, by rw [hout h]; simp⟩
      simp [List.getD, h]
    · rw [if_neg h]
      refine ⟨fun h => by omega, fun hf => ?_⟩
      rw [List.all_eq_false] at hf
      obtain ⟨x, hx, hn⟩ := hf
      obtain ⟨i, hi, rfl⟩ := List.getElem_of_mem hx
      have := hin i (by omega)
      rw [show s.getD i 0 = s[i] by simp [List.getD, hi]] at this
      exact absurd this hn
  · have hwv : ∀ i, i < s.length → (i < k → v7 (s.getD i 0) = 1) ∧ (i = k → v7 (s.getD i 0) ≠ 1) := fun i hi => ⟨fun h => latin_kind.1 (hin i h), fun h => by
      subst h
      intro e
      have := latin_kind.2 e
      rw [hout hi] at this; cases this⟩
    clear hk hin hout
    refine q9 func189 rfl (fun E hE => ?_); simp only [go_sem, ntmps189]
    repeat' (first | (refine Qr rfl ?_; try intro _ hK; try simp only [go_sem, *]) | refine Qh rfl ?_ | (refine Qc rfl rfl ?_ ?_ <;> (intro hb; have hc := hb; try simp only [go_sem] at hc)) | refine q8 rfl ?_ | ((with_reducible apply And.intro); focus omega) | (refine q7 hK ?_; clear hK; simp only [go_sem, *]) | simp only [q6, z8, go_sem, *])
    refine o9 rfl (s.length) (fun i => i ≤ k) 21 (fun i => [(10, .ptr 0 0), (1, fnV 145), (2, bV true)]) (fun i => [.siter ⟨s.toArray⟩ i]) [some 0] [] (by omega) ?_; intro i hi hP
    by_cases hi2 : i < s.length
    · obtain ⟨r1, r2⟩ := zDN s hi2
      obtain ⟨w1, w2⟩ := hwv i hi2
      have sk := zIO ((Utf8.decode ⟨s.toArray⟩ i).1 : Int)
      rw [r1] at sk
      generalize hde : Utf8.decode ⟨s.toArray⟩ i = d at *
      obtain ⟨d1, d2⟩ := d
      simp only at r2 sk
      clear r1 hwv
      by_cases hik : i < k
      · have e1 := w1 hik
        rw [e1] at sk r2
        have e2 := r2 (by decide)
        subst e2
        have e3 : ((1 : Int) != 1) = false := by decide
        rw [e3] at sk
        clear r2 w1 w2 e1 e3
        repeat' (first | (refine Qr rfl ?_; try intro _ hK; try simp only [go_sem, *]) | refine Qh rfl ?_ | (refine Qc rfl rfl ?_ ?_ <;> (intro hb; have hc := hb; try simp only [go_sem] at hc)) | refine q8 rfl ?_ | (refine y5 (sk) ?_; simp only [go_sem, *]) | ((with_reducible apply And.intro); focus omega) | (refine q7 hK ?_; clear hK; simp only [go_sem, *]) | simp only [q6, z8, go_sem, *])
        all_goals try contradiction
        exact f8 (i' := i + 1) [some 0] [] (by omega)
      · have e1 := w2 (by omega)
        have e3 : (v7 (s.getD i 0) != 1) = true := by simpa using e1
        rw [e3] at sk
        have e4 : k < s.length := by omega
        have e5 : i = k := by omega
        rw [if_pos e4]
        subst e5
        clear r2 w1 w2 e1 e3
        repeat' (first | (refine Qr rfl ?_; try intro _ hK; try simp only [go_sem, *]) | refine Qh rfl ?_ | (refine Qc rfl rfl ?_ ?_ <;> (intro hb; have hc := hb; try simp only [go_sem] at hc)) | refine q8 rfl ?_ | (refine y5 (sk) ?_; simp only [go_sem, *]) | ((with_reducible apply And.intro); focus omega) | (refine q7 hK ?_; clear hK; simp only [go_sem, *]) | simp only [q6, z8, go_sem, *])
        all_goals try contradiction
        (refine ⟨[_], [], [], ⟨rfl, trivial⟩, ?_⟩; simp only [go_sem, *])
    · have e4 : ¬ k < s.length := by omega
      rw [if_neg e4]
      clear hwv
      repeat' (first | (refine Qr rfl ?_; try intro _ hK; try simp only [go_sem, *]) | refine Qh rfl ?_ | (refine Qc rfl rfl ?_ ?_ <;> (intro hb; have hc := hb; try simp only [go_sem] at hc)) | refine q8 rfl ?_ | ((with_reducible apply And.intro); focus omega) | (refine q7 hK ?_; clear hK; simp only [go_sem, *]) | simp only [q6, z8, go_sem, *])
      (refine ⟨[_], [], [], ⟨rfl, trivial⟩, ?_⟩; simp only [go_sem, *])
theorem zHu (s : Str) (hl : s.length ≤ 4294967296) : ∃ n : Int, (0 ≤ n ↔ s.all y9 = false) ∧ zMf prog 169 [sV s, fnV 145] [] (iV n) [] := by
 obtain ⟨n, hn, si⟩ := zIJ s hl
 refine ⟨n, hn, ?_⟩
 clear hn
 refine q9 func169 rfl (fun E hE => ?_); simp only [go_sem, ntmps169]
 repeat' (first | (refine Qr rfl ?_; try intro _ hK; try simp only [go_sem, *]) | refine Qh rfl ?_ | (refine Qc rfl rfl ?_ ?_ <;> (intro hb; have hc := hb; try simp only [go_sem] at hc)) | refine q8 rfl ?_ | (refine y5 (si) ?_; simp only [go_sem, *]) | ((with_reducible apply And.intro); focus omega) | (refine q7 hK ?_; clear hK; simp only [go_sem, *]) | simp only [q6, z8, go_sem, *])
 (refine ⟨[_], [], [], ⟨rfl, trivial⟩, ?_⟩; simp only [go_sem, *])
theorem zHn (s : Str) (hl : s.length ≤ 4294967296) : zMf prog 144 [sV s, fnV 145] [] (bV (!s.all y9)) [] := by
 obtain ⟨n, hn, si⟩ := zHu s hl
 have e : (!s.all y9) = decide (n ≥ 0) := by
  rw [Bool.eq_iff_iff, Bool.not_eq_true', decide_eq_true_eq]; exact hn.symm
 rw [e]
 clear hn e
 refine q9 func144 rfl (fun E hE => ?_); simp only [go_sem, ntmps144]
 repeat' (first | (refine Qr rfl ?_; try intro _ hK; try simp only [go_sem, *]) | refine Qh rfl ?_ | (refine Qc rfl rfl ?_ ?_ <;> (intro hb; have hc := hb; try simp only [go_sem] at hc)) | refine q8 rfl ?_ | (refine y5 (si) ?_; simp only [go_sem, *]) | ((with_reducible apply And.intro); focus omega) | (refine q7 hK ?_; clear hK; simp only [go_sem, *]) | simp only [q6, z8, go_sem, *])
 (refine ⟨[_], [], [], ⟨rfl, trivial⟩, ?_⟩; simp only [go_sem, *])
theorem zA3 (s : Str) (lo hi : Nat) (hl : s.length ≤ 4294967296) : zMf prog 123 [sV s, iV lo, iV hi] [] (bV (w5 s lo hi)) [] := by
 have sc := zHn s hl
 have e : w5 s lo hi = (decide ((lo : Int) ≤ s.length) && (decide ((s.length : Int) ≤ hi) && s.all y9)) := by unfold w5; simp
 rw [e]
 generalize s.all y9 = b at *
 clear e
 refine q9 func123 rfl (fun E hE => ?_); simp only [go_sem, ntmps123]
 repeat' (first | (refine Qr rfl ?_; try intro _ hK; try simp only [go_sem, *]) | (refine Qi rfl rfl rfl rfl ?_ ?_ <;> (intro hb; (try intro _ hK); have hc := hb; try simp only [go_sem] at hc; simp only [go_sem, *])) | refine Qh rfl ?_ | (refine Qc rfl rfl ?_ ?_ <;> (intro hb; have hc := hb; try simp only [go_sem] at hc)) | refine q8 rfl ?_ | (refine y5 (sc) ?_; simp only [go_sem, *]) | ((with_reducible apply And.intro); focus omega) | (refine q7 hK ?_; clear hK; simp only [go_sem, *]) | simp only [q6, z8, go_sem, *])
 all_goals try contradiction
 all_goals (refine ⟨[_], [], [], ⟨rfl, trivial⟩, ?_⟩; simp only [go_sem, *])
 all_goals simp_all
end Go.Abs

namespace Go.Abs
open Go Go.Proofs Tryz
attribute [local irreducible] y6 Hold x5
abbrev w6 (l : List Rule) : AV := .list (l.map Rule.enc)
attribute [go_sem] Rule.enc
theorem zHK {l : List Rule} {i : Nat} (h : i < l.length) : (l.drop i).all Rule.ok = ((l.getD i default).ok && (l.drop (i + 1)).all Rule.ok) := by
 rw [j4 h, List.all_cons]
theorem zHH (r : Rule) : r.ok = (w5 r.src 1 2 && (w5 r.dst 0 2 && !(r.src == r.dst))) := by
 unfold Rule.ok
 rw [Bool.eq_iff_iff]
 simp
theorem zA6 (l : List Rule) (hl : l.length ≤ 4294967296) (hr : ∀ r, r ∈ l → r.src.length ≤ 4294967296 ∧ r.dst.length ≤ 4294967296) : zMf prog 86 [w6 l] [] (iV (o5 l)) [] := by
 have e0 : 4 < l.length → o5 l = 6 := fun h => by unfold o5; rw [if_pos h]
 have e1 : l.length ≤ 4 → o5 l = if l.all Rule.ok = true then 0 else 2 := fun h => by unfold o5; rw [if_neg (by omega)]
 generalize o5 l = re at *
 refine q9 func86 rfl (fun E hE => ?_); simp only [go_sem, ntmps86]
 repeat' (first | (refine Qr rfl ?_; try intro _ hK; try simp only [go_sem, *]) | (refine Qi rfl rfl rfl rfl ?_ ?_ <;> (intro hb; (try intro _ hK); have hc := hb; try simp only [go_sem] at hc; simp only [go_sem, *])) | refine Qh rfl ?_ | (refine Qc rfl rfl ?_ ?_ <;> (intro hb; have hc := hb; try simp only [go_sem] at hc)) | refine q8 rfl ?_ | ((with_reducible apply And.intro); focus omega) | (refine q7 hK ?_; clear hK; simp only [go_sem, *]) | simp only [q6, z8, go_sem, *])
 ·(refine ⟨[_], [], [], ⟨rfl, trivial⟩, ?_⟩; simp only [go_sem, *])
  rw [e0 (by omega)]
 ·have e2 := e1 (by omega)
  rw [e2]
  clear e0 e1 e2
  refine o9 rfl (l.length) (fun i => (l.drop i).all Rule.ok = l.all Rule.ok) 32 (fun i => [(10, iV i), (9, iV l.length), (8, w6 l)]) (fun i => []) [] [] (by simp) ?_; intro i hi hP
  by_cases hi2 : i < l.length
  ·have hs := zHK hi2
   rw [zHH] at hs
   have hrl := hr _ (j9 hi2)
   have s1 := zA3 (l.getD i default).src 1 2 hrl.1
   have s2 := zA3 (l.getD i default).dst 0 2 hrl.2
   generalize w5 (l.getD i default).src 1 2 = b1 at *
   generalize w5 (l.getD i default).dst 0 2 = b2 at *
   clear hrl hr
   rw [hs] at hP
   cases b1 with
   | false =>
    rw [← hP]
    clear hP hs s2
    repeat' (first | (refine Qr rfl ?_; try intro _ hK; try simp only [go_sem, *]) | (refine Qi rfl rfl rfl rfl ?_ ?_ <;> (intro hb; (try intro _ hK); have hc := hb; try simp only [go_sem] at hc; simp only [go_sem, *])) | refine Qh rfl ?_ | (refine Qc rfl rfl ?_ ?_ <;> (intro hb; have hc := hb; try simp only [go_sem] at hc)) | refine q8 rfl ?_ | (refine p9 (s1) ?_ ?_; (focus (simp only [go_sem, *]; done)); simp only [go_sem, *]) | ((with_reducible apply And.intro); focus omega) | (refine q7 hK ?_; clear hK; simp only [go_sem, *]) | simp only [q6, z8, go_sem, *])
    all_goals try contradiction
    (refine ⟨[_], [], [], ⟨rfl, trivial⟩, ?_⟩; simp only [go_sem, *])
   | true =>
    cases b2 with
    | false =>
     rw [← hP]
     clear hP hs
     repeat' (first | (refine Qr rfl ?_; try intro _ hK; try simp only [go_sem, *]) | (refine Qi rfl rfl rfl rfl ?_ ?_ <;> (intro hb; (try intro _ hK); have hc := hb; try simp only [go_sem] at hc; simp only [go_sem, *])) | refine Qh rfl ?_ | (refine Qc rfl rfl ?_ ?_ <;> (intro hb; have hc := hb; try simp only [go_sem] at hc)) | refine q8 rfl ?_ | (refine p9 (s1) ?_ ?_; (focus (simp only [go_sem, *]; done)); simp only [go_sem, *]) | (refine p9 (s2) ?_ ?_; (focus (simp only [go_sem, *]; done)); simp only [go_sem, *]) | ((with_reducible apply And.intro); focus omega) | (refine q7 hK ?_; clear hK; simp only [go_sem, *]) | simp only [q6, z8, go_sem, *])
     all_goals try contradiction
     (refine ⟨[_], [], [], ⟨rfl, trivial⟩, ?_⟩; simp only [go_sem, *])
    | true =>
     generalize hb3 : ((l.getD i default).src == (l.getD i default).dst) = b3 at *
     cases b3 with
     | true =>
      rw [← hP]
      clear hP hs
      repeat' (first | (refine Qr rfl ?_; try intro _ hK; try simp only [go_sem, *]) | (refine Qi rfl rfl rfl rfl ?_ ?_ <;> (intro hb; (try intro _ hK); have hc := hb; try simp only [go_sem] at hc; simp only [go_sem, *])) | refine Qh rfl ?_ | (refine Qc rfl rfl ?_ ?_ <;> (intro hb; have hc := hb; try simp only [go_sem] at hc)) | refine q8 rfl ?_ | (refine p9 (s1) ?_ ?_; (focus (simp only [go_sem, *]; done)); simp only [go_sem, *]) | (refine p9 (s2) ?_ ?_; (focus (simp only [go_sem, *]; done)); simp only [go_sem, *]) | ((with_reducible apply And.intro); focus omega) | (refine q7 hK ?_; clear hK; simp only [go_sem, *]) | simp only [q6, z8, go_sem, *])
      all_goals try contradiction
      (refine ⟨[_], [], [], ⟨rfl, trivial⟩, ?_⟩; simp only [go_sem, *])
     | false =>
      simp only [Bool.true_and, Bool.not_false] at hP
      clear hs
      repeat' (first | (refine Qr rfl ?_; try intro _ hK; try simp only [go_sem, *]) | (refine Qi rfl rfl rfl rfl ?_ ?_ <;> (intro hb; (try intro _ hK); have hc := hb; try simp only [go_sem] at hc; simp only [go_sem, *])) | refine Qh rfl ?_ | (refine Qc rfl rfl ?_ ?_ <;> (intro hb; have hc := hb; try simp only [go_sem] at hc)) | refine q8 rfl ?_ | (refine p9 (s1) ?_ ?_; (focus (simp only [go_sem, *]; done)); simp only [go_sem, *]) | (refine p9 (s2) ?_ ?_; (focus (simp only [go_sem, *]; done)); simp only [go_sem, *]) | ((with_reducible apply And.intro); focus omega) | (refine q7 hK ?_; clear hK; simp only [go_sem, *]) | simp only [q6, z8, go_sem, *])
      all_goals try contradiction
      exact f8 (i' := i + 1) [] [] (by exact hP)
  ·have e : l.all Rule.ok = true := by rw [← hP, d7 (by omega)]; rfl
   rw [if_pos e]
   clear hP e
   repeat' (first | (refine Qr rfl ?_; try intro _ hK; try simp only [go_sem, *]) | (refine Qi rfl rfl rfl rfl ?_ ?_ <;> (intro hb; (try intro _ hK); have hc := hb; try simp only [go_sem] at hc; simp only [go_sem, *])) | refine Qh rfl ?_ | (refine Qc rfl rfl ?_ ?_ <;> (intro hb; have hc := hb; try simp only [go_sem] at hc)) | refine q8 rfl ?_ | ((with_reducible apply And.intro); focus omega) | (refine q7 hK ?_; clear hK; simp only [go_sem, *]) | simp only [q6, z8, go_sem, *])
   (refine ⟨[_], [], [], ⟨rfl, trivial⟩, ?_⟩; simp only [go_sem, *])
theorem zDS (s p : Str) (h1 : s.length ≤ 4294967296) (h2 : p.length ≤ 4294967296) : zMf prog 151 [sV s, sV p] [] (bV (p.isPrefixOf s)) [] := by
 have e : p.isPrefixOf s = (decide (p.length ≤ s.length) && (s.take p.length == p)) := by
  rw [Bool.eq_iff_iff, List.isPrefixOf_iff_prefix, Bool.and_eq_true, decide_eq_true_eq, beq_iff_eq, List.prefix_iff_eq_take]
  constructor
  ·intro h
   refine ⟨?_, h.symm⟩
   have := congrArg List.length h
   simp at this; omega
  ·rintro ⟨_, h⟩; exact h.symm
 rw [e]
 clear e
 refine q9 func151 rfl (fun E hE => ?_); simp only [go_sem, ntmps151]
 repeat' (first | (refine Qr rfl ?_; try intro _ hK; try simp only [go_sem, *]) | (refine Qi rfl rfl rfl rfl ?_ ?_ <;> (intro hb; (try intro _ hK); have hc := hb; try simp only [go_sem] at hc; simp only [go_sem, *])) | refine Qh rfl ?_ | (refine Qc rfl rfl ?_ ?_ <;> (intro hb; have hc := hb; try simp only [go_sem] at hc)) | refine q8 rfl ?_ | ((with_reducible apply And.intro); focus omega) | (refine q7 hK ?_; clear hK; simp only [go_sem, *]) | simp only [q6, z8, go_sem, *])
 all_goals (refine ⟨[_], [], [], ⟨rfl, trivial⟩, ?_⟩; simp only [go_sem, *])
 all_goals simp_all
theorem zHt (s p : Str) (h1 : s.length ≤ 4294967296) (h2 : p.length ≤ 4294967296) : zMf prog 127 [sV s, sV p] [] (bV (p.isPrefixOf s)) [] := by
 have s1 := zDS s p h1 h2
 generalize p.isPrefixOf s = b at *
 refine q9 func127 rfl (fun E hE => ?_); simp only [go_sem, ntmps127]
 repeat' (first | (refine Qr rfl ?_; try intro _ hK; try simp only [go_sem, *]) | refine Qh rfl ?_ | (refine Qc rfl rfl ?_ ?_ <;> (intro hb; have hc := hb; try simp only [go_sem] at hc)) | refine q8 rfl ?_ | (refine y5 (s1) ?_; simp only [go_sem, *]) | ((with_reducible apply And.intro); focus omega) | (refine q7 hK ?_; clear hK; simp only [go_sem, *]) | simp only [q6, z8, go_sem, *])
 (refine ⟨[_], [], [], ⟨rfl, trivial⟩, ?_⟩; simp only [go_sem, *])
theorem zEk {x y : List Str} {i : Nat} (h1 : i < x.length) (h2 : i < y.length) : zMi (x.drop i) (y.drop i) = if zMj (x.getD i default) (y.getD i default) = 0 then zMi (x.drop (i + 1)) (y.drop (i + 1)) else zMj (x.getD i default) (y.getD i default) := by
 rw [j4 h1, j4 h2, zMi]
theorem zEj {x y : List Str} {i : Nat} (h1 : i < x.length) (h2 : y.length ≤ i) : zMi (x.drop i) (y.drop i) = 1 := by
 rw [j4 h1, d7 h2, zMi]
theorem zEi {x y : List Str} {i : Nat} (h1 : x.length ≤ i) : zMi (x.drop i) (y.drop i) = if i < y.length then -1 else 0 := by
 rw [d7 h1]
 by_cases h2 : i < y.length
 ·rw [j4 h2, zMi, if_pos h2]
 ·rw [d7 (by omega), zMi, if_neg h2]
theorem zHl (x y : List Str) (h1 : x.length ≤ 4294967296) (h2 : y.length ≤ 4294967296) : zMf prog 126 [y8 x, y8 y] [] (iV (zMi x y)) [] := by
 refine q9 func126 rfl (fun E hE => ?_); simp only [go_sem, ntmps126]
 repeat' (first | (refine Qr rfl ?_; try intro _ hK; try simp only [go_sem, *]) | refine Qh rfl ?_ | (refine Qc rfl rfl ?_ ?_ <;> (intro hb; have hc := hb; try simp only [go_sem] at hc)) | refine q8 rfl ?_ | ((with_reducible apply And.intro); focus omega) | (refine q7 hK ?_; clear hK; simp only [go_sem, *]) | simp only [q6, z8, go_sem, *])
 refine o9 rfl (x.length) (fun i => zMi (x.drop i) (y.drop i) = zMi x y ∧ i ≤ y.length) 36 (fun i => [(11, iV i), (10, iV x.length), (9, y8 x), (0, y8 x), (1, y8 y)]) (fun i => []) [] [] (by simp) ?_; intro i hi hP
 obtain ⟨hP, hiy⟩ := hP
 by_cases hi2 : i < x.length
 ·by_cases hi3 : i < y.length
  ·have hs := zEk hi2 hi3
   have sc := zHm (x.getD i default) (y.getD i default)
   rw [hs] at hP
   clear hs
   have gi : ¬ ((i : Int) ≥ (y.length : Int)) := by omega
   by_cases q : zMj (x.getD i default) (y.getD i default) = 0
   ·rw [if_pos q] at hP
    rw [q] at sc
    repeat' (first | (refine Qr rfl ?_; try intro _ hK; try simp only [go_sem, *]) | refine Qh rfl ?_ | (refine Qc rfl rfl ?_ ?_ <;> (intro hb; have hc := hb; try simp only [go_sem] at hc)) | refine q8 rfl ?_ | (refine y5 (sc) ?_; simp only [go_sem, *]) | ((with_reducible apply And.intro); focus omega) | (refine q7 hK ?_; clear hK; simp only [go_sem, *]) | simp only [q6, z8, go_sem, *])
    all_goals first | contradiction | omega | skip
    exact f8 (i' := i + 1) [] [] (by exact ⟨hP, by omega⟩)
   ·rw [if_neg q] at hP
    generalize zMj (x.getD i default) (y.getD i default) = c at *
    rw [← hP]
    clear hP
    repeat' (first | (refine Qr rfl ?_; try intro _ hK; try simp only [go_sem, *]) | refine Qh rfl ?_ | (refine Qc rfl rfl ?_ ?_ <;> (intro hb; have hc := hb; try simp only [go_sem] at hc)) | refine q8 rfl ?_ | (refine y5 (sc) ?_; simp only [go_sem, *]) | ((with_reducible apply And.intro); focus omega) | (refine q7 hK ?_; clear hK; simp only [go_sem, *]) | simp only [q6, z8, go_sem, *])
    all_goals first | contradiction | omega | skip
    (refine ⟨[_], [], [], ⟨rfl, trivial⟩, ?_⟩; simp only [go_sem, *])
  ·rw [zEj hi2 (by omega)] at hP
   rw [← hP]
   clear hP
   repeat' (first | (refine Qr rfl ?_; try intro _ hK; try simp only [go_sem, *]) | refine Qh rfl ?_ | (refine Qc rfl rfl ?_ ?_ <;> (intro hb; have hc := hb; try simp only [go_sem] at hc)) | refine q8 rfl ?_ | ((with_reducible apply And.intro); focus omega) | (refine q7 hK ?_; clear hK; simp only [go_sem, *]) | simp only [q6, z8, go_sem, *])
   all_goals first | contradiction | omega | skip
   (refine ⟨[_], [], [], ⟨rfl, trivial⟩, ?_⟩; simp only [go_sem, *])
 ·have hix : i = x.length := by omega
  subst hix
  rw [zEi (Nat.le_refl _)] at hP
  by_cases hxy : x.length < y.length
  ·rw [if_pos hxy] at hP
   rw [← hP]
   clear hP
   repeat' (first | (refine Qr rfl ?_; try intro _ hK; try simp only [go_sem, *]) | refine Qh rfl ?_ | (refine Qc rfl rfl ?_ ?_ <;> (intro hb; have hc := hb; try simp only [go_sem] at hc)) | refine q8 rfl ?_ | ((with_reducible apply And.intro); focus omega) | (refine q7 hK ?_; clear hK; simp only [go_sem, *]) | simp only [q6, z8, go_sem, *])
   all_goals first | contradiction | omega | skip
   (refine ⟨[_], [], [], ⟨rfl, trivial⟩, ?_⟩; simp only [go_sem, *])
  ·rw [if_neg hxy] at hP
   rw [← hP]
   clear hP
   repeat' (first | (refine Qr rfl ?_; try intro _ hK; try simp only [go_sem, *]) | refine Qh rfl ?_ | (refine Qc rfl rfl ?_ ?_ <;> (intro hb; have hc := hb; try simp only [go_sem] at hc)) | refine q8 rfl ?_ | ((with_reducible apply And.intro); focus omega) | (refine q7 hK ?_; clear hK; simp only [go_sem, *]) | simp only [q6, z8, go_sem, *])
   all_goals first | contradiction | omega | skip
   (refine ⟨[_], [], [], ⟨rfl, trivial⟩, ?_⟩; simp only [go_sem, *])
end Go.Abs

namespace Go.Abs
open Go Go.Proofs Go.Proofs.YteehcinnfiaklaaGreatDoor Go.ChangeShapes Go.WideShapes Go.ChangeAt Go.RowKit
noncomputable def Sh.okB : Sh → TypeId ⊕ (List Field × Nat) → Bool
 | .int, .inl t => match Tryz.prog.underlying t with
  | some (.int .i64) => true
  | _ => false
 | .str, .inl t => match Tryz.prog.underlying t with
  | some .string => true
  | _ => false
 | .sl b e, .inl t => match Tryz.prog.underlying t with
  | some (.slice u) => Tryz.prog.cellsOf u == e.n && (decide (0 < e.n) && ((!b || e.n == 1) && e.okB (.inl u)))
  | _ => false
 | .st b, .inl t => match Tryz.prog.underlying t with
  | some (.struct fs) => Tryz.prog.cellsOf t == b.n && b.okB (.inr (fs.toList, 0))
  | _ => false
 | .emp, .inr (l, _) => l.isEmpty
 | .cat x y, .inr (l, off) => match l with
  | f :: r => f.offset == off && (Tryz.prog.cellsOf f.type == x.n && (x.okB (.inl f.type) && y.okB (.inr (r, off + x.n))))
  | [] => false
 | _, _ => false
theorem Sh.ok_of : ∀ (s : Sh) (z : TypeId ⊕ (List Field × Nat)), s.okB z = true → s.ok z
 | .int, .inl t, h => by
  simp only [Sh.okB] at h
  split at h
  ·assumption
  ·cases h
 | .str, .inl t, h => by
  simp only [Sh.okB] at h
  split at h
  ·assumption
  ·cases h
 | .sl b e, .inl t, h => by
  simp only [Sh.okB] at h
  split at h
  ·rename_i u hu
   simp only [Bool.and_eq_true, beq_iff_eq, decide_eq_true_eq, Bool.or_eq_true, Bool.not_eq_true'] at h
   exact ⟨u, hu, h.1, h.2.1, fun hb => h.2.2.1.resolve_left (by rw [hb]; decide), Sh.ok_of e _ h.2.2.2⟩
  ·cases h
 | .st b, .inl t, h => by
  simp only [Sh.okB] at h
  split at h
  ·rename_i fs hu
   simp only [Bool.and_eq_true, beq_iff_eq] at h
   exact ⟨fs, hu, h.1, Sh.ok_of b _ h.2⟩
  ·cases h
 | .emp, .inr (l, off), h => by
  simp only [Sh.okB, List.isEmpty_iff] at h
  exact h
 | .cat x y, .inr (l, off), h => by
  simp only [Sh.okB] at h
  split at h
  ·rename_i f r
   simp only [Bool.and_eq_true, beq_iff_eq] at h
   exact ⟨f, r, rfl, h.1, h.2.1, Sh.ok_of x _ h.2.2.1, Sh.ok_of y _ h.2.2.2⟩
  ·cases h
 | .int, .inr _, h => by simp [Sh.okB] at h
 | .str, .inr _, h => by simp [Sh.okB] at h
 | .sl _ _, .inr _, h => by simp [Sh.okB] at h
 | .st _, .inr _, h => by simp [Sh.okB] at h
 | .emp, .inl _, h => by simp [Sh.okB] at h
 | .cat _ _, .inl _, h => by simp [Sh.okB] at h
theorem zCh {α : Type} {f : α → AV} : ∀ {xs : List AV}, (∀ x, x ∈ xs → ∃ a, x = f a) → ∃ l : List α, xs = l.map f
 | [], _ => ⟨[], rfl⟩
 | x :: r, h => by
  obtain ⟨a, rfl⟩ := h x (by simp)
  obtain ⟨l, rfl⟩ := zCh (xs := r) (fun y hy => h y (by simp [hy]))
  exact ⟨a :: l, rfl⟩
theorem zCi {α : Type} {f : α → AV} {q : α → Prop} {xs : List AV} (h : ∀ x, x ∈ xs → ∃ a, x = f a ∧ q a) : ∃ l : List α, xs = l.map f ∧ ∀ a, a ∈ l → q a := by
 obtain ⟨l, rfl⟩ := zCh (f := fun a : {a : α // q a} => f a.1) (xs := xs) (fun x hx => by
  obtain ⟨a, e, ha⟩ := h x hx
  exact ⟨⟨a, ha⟩, e⟩)
 exact ⟨l.map (·.1), by rw [List.map_map]; rfl, fun a ha => by obtain ⟨b, _, rfl⟩ := List.mem_map.1 ha; exact b.2⟩
theorem zJQ {H : Type} {enc : TypeId × Value → H} {W : World} {v : Value} {d : DataW H} {ps : List MemPlace} (hval : Value.okWide Tryz.prog W .any 0 9 v ∨ ∃ base, Value.okWide Tryz.prog W .any base 9 v)
  (h : DataW.Trod enc Tryz.prog W 0 (fun _ => true) true 9 v d ps) (hk : Rows.uptoBulk d ≤ 1048576) : ∃ s : Str, PR W (zM1 W) (sV s) v ∧ s.length ≤ 1048576 := by
 have : ∃ b : ByteArray, v = .string b := by
  rcases hval with hval | ⟨base, hval⟩
  ·exact okWide_string Tryz.underlying9 hval
  ·exact okWide_string Tryz.underlying9 hval
 obtain ⟨b, rfl⟩ := this
 obtain ⟨fuel, hf⟩ := h
 obtain ⟨c, ⟨s, h1, rfl⟩, h2⟩ := zDD (N := 1048576) (ht := Tryz.underlying9) hf hk
 refine ⟨s, ?_, h1⟩
 have := h2.2 0 (by simp) (by simp [Value.cells])
 simpa [Value.cells] using this
theorem zJR {H : Type} {enc : TypeId × Value → H} {W : World} {v : Value} {d : DataW H} {ps : List MemPlace} (hval : Value.okWide Tryz.prog W .any 0 22 v ∨ ∃ base, Value.okWide Tryz.prog W .any base 22 v)
  (h : DataW.Trod enc Tryz.prog W 0 (fun _ => true) true 22 v d ps) (hk : Rows.uptoBulk d ≤ 1048576) : ∃ l : List Str, PR W (zM1 W) (y8 l) v ∧ l.length ≤ 1048576 ∧ ∀ s, s ∈ l → s.length ≤ 1048576 := by
 have hsl : ∃ a len cap, v = .slice a len cap := by
  rcases hval with hval | ⟨base, hval⟩
  ·exact okWide_slice Tryz.underlying22 hval
  ·exact okWide_slice Tryz.underlying22 hval
 obtain ⟨a, len, cap, rfl⟩ := hsl
 obtain ⟨fuel, hf⟩ := h
 obtain ⟨c, ⟨xs, rfl, hl, hx⟩, h2⟩ := (zDC (N := 1048576) (.sl true .str)).1 22 fuel _ _ (Sh.ok_of _ _ (by kernel_rfl)) hf hk
 obtain ⟨l, rfl, w⟩ := zCi (f := fun s : Str => sV s) (q := fun s => s.length ≤ 1048576) (xs := xs) (fun x hm => by
  obtain ⟨d, ⟨s, h1, rfl⟩, rfl⟩ := hx x hm
  exact ⟨s, rfl, h1⟩)
 refine ⟨l, ?_, by simpa using hl, w⟩
 have := h2.2 0 (by simp) (by simp [Value.cells])
 simpa [Value.cells] using this
theorem zJN {H : Type} {enc : TypeId × Value → H} {W : World} {v : Value} {d : DataW H} {ps : List MemPlace} (hval : Value.okWide Tryz.prog W .any 0 3 v ∨ ∃ base, Value.okWide Tryz.prog W .any base 3 v)
  (h : DataW.Trod enc Tryz.prog W 0 (fun _ => true) true 3 v d ps) (_ : Rows.uptoBulk d ≤ 1048576) : ∃ n : Int, PR W (zM1 W) (iV n) v ∧ (Lit.int .i64 n).wf = true := by
 have : ∃ n, v = .int .i64 n ∧ (Lit.int .i64 n).wf = true := by
  rcases hval with hval | ⟨base, hval⟩
  ·obtain ⟨n, h1, _, _, h2⟩ := open_int Tryz.underlying3 hval h; exact ⟨n, h1, h2⟩
  ·obtain ⟨n, h1, _, _, h2⟩ := open_int Tryz.underlying3 hval h; exact ⟨n, h1, h2⟩
 obtain ⟨n, rfl, hw⟩ := this
 exact ⟨n, .raw _ rfl, hw⟩
abbrev zBK : Sh := .cat .str (.cat .str .emp)
theorem zHG {N : Nat} {d : List AV} (h : TyC N zBK d) : ∃ x : Rule, AV.agg d = x.enc ∧ x.src.length ≤ N ∧ x.dst.length ≤ N := by
 obtain ⟨c1, c2, rfl, ⟨n, w1, rfl⟩, ⟨c3, c4, rfl, ⟨l, w2, rfl⟩, h4⟩⟩ := h
 cases (show c4 = [] from h4)
 exact ⟨⟨n, l⟩, rfl, w1, w2⟩
theorem zJP {H : Type} {enc : TypeId × Value → H} {W : World} {v : Value} {d : DataW H} {ps : List MemPlace} (hval : Value.okWide Tryz.prog W .any 0 42 v ∨ ∃ base, Value.okWide Tryz.prog W .any base 42 v)
  (h : DataW.Trod enc Tryz.prog W 0 (fun _ => true) true 42 v d ps) (hk : Rows.uptoBulk d ≤ 1048576) : ∃ l : List Rule, PR W (zM1 W) (w6 l) v ∧ l.length ≤ 1048576 ∧ ∀ x, x ∈ l → x.src.length ≤ 1048576 ∧ x.dst.length ≤ 1048576 := by
 have hsl : ∃ a len cap, v = .slice a len cap := by
  rcases hval with hval | ⟨base, hval⟩
  ·exact okWide_slice Tryz.underlying42 hval
  ·exact okWide_slice Tryz.underlying42 hval
 obtain ⟨a, len, cap, rfl⟩ := hsl
 obtain ⟨fuel, hf⟩ := h
 obtain ⟨c, ⟨xs, rfl, hl, hx⟩, h2⟩ := (zDC (N := 1048576) (.sl false (.st zBK))).1 42 fuel _ _ (Sh.ok_of _ _ (by kernel_rfl)) hf hk
 obtain ⟨l, rfl, w⟩ := zCi (f := Rule.enc) (q := fun x => x.src.length ≤ 1048576 ∧ x.dst.length ≤ 1048576) (xs := xs) (fun x hm => by
  obtain ⟨d, hd, rfl⟩ := hx x hm
  obtain ⟨y, e, w⟩ := zHG (d := d) hd
  exact ⟨y, e, w⟩)
 refine ⟨l, ?_, by simpa using hl, w⟩
 have := h2.2 0 (by simp) (by simp [Value.cells])
 simpa [Value.cells] using this
end Go.Abs

namespace Go.Abs
open Go Go.Proofs Tryz
attribute [local irreducible] y6 Hold x5
section
variable {α : Type} {a b : List α} {i : Nat}
theorem zDo (ha : a.length ≤ i) (hl : a.length = b.length) (h : a.take i = b.take i) : a = b := by
 rwa [List.take_of_length_le ha, List.take_of_length_le (by omega)] at h
variable [Inhabited α]
theorem B2 {l : List α} (h : i < l.length) : l.take (i + 1) = l.take i ++ [l.getD i default] := by
 rw [List.take_add_one]; simp [List.getD, h]
theorem zDp (ha : i < a.length) (hb : i < b.length) (h : a.take i = b.take i) (e : a.getD i default = b.getD i default) : a.take (i + 1) = b.take (i + 1) := by
 rw [B2 ha, B2 hb, h, e]
theorem zDq (e : ¬ a.getD i default = b.getD i default) : ¬ a = b := fun h => e (by rw [h])
end
theorem zCd {α : Type} {a b : List α} (h : ¬ a.length = b.length) : ¬ a = b := fun e => h (by rw [e])
theorem zHp (a b : List Int) (h1 : a.length ≤ 4294967296) : zMf prog 54 [R5 a, R5 b] [] (bV (decide (a = b))) [] := by
 refine q9 func54 rfl (fun E hE => ?_); simp only [go_sem, ntmps54]
 repeat' (first | (refine Qr rfl ?_; try intro _ hK; try simp only [go_sem, *]) | refine Qh rfl ?_ | refine Qd rfl (by kernel_rfl) ?_ | (refine Qc rfl rfl ?_ ?_ <;> (intro hb; have hc := hb; try simp only [go_sem] at hc)) | refine q8 rfl ?_ | (refine Qb ?_ ?_; focus kernel_rfl) | ((with_reducible apply And.intro); focus omega) | (refine q7 hK ?_; clear hK; simp only [go_sem, *]) | simp only [q6, z8, go_sem, *])
 ·(refine ⟨[_], [], [], ⟨rfl, trivial⟩, ?_⟩; simp only [go_sem, *])
  simp [zCd (a := a) (b := b) (by omega)]
 ·have hlb : a.length = b.length := by omega
  refine o9 rfl (b.length) (fun i => a.take i = b.take i) 26 (fun i => [(5, iV i), (0, R5 a), (1, R5 b)]) (fun i => []) [] [] (by simp) ?_; intro i hi hP
  repeat' (first | (refine Qr rfl ?_; try intro _ hK; try simp only [go_sem, *]) | refine Qh rfl ?_ | refine Qd rfl (by kernel_rfl) ?_ | (refine Qc rfl rfl ?_ ?_ <;> (intro hb; have hc := hb; try simp only [go_sem] at hc)) | refine q8 rfl ?_ | (refine Qb ?_ ?_; focus kernel_rfl) | ((with_reducible apply And.intro); focus omega) | (refine q7 hK ?_; clear hK; simp only [go_sem, *]) | simp only [q6, z8, go_sem, *])
  ·(refine ⟨[_], [], [], ⟨rfl, trivial⟩, ?_⟩; simp only [go_sem, *])
   simp [zDq (a := a) (b := b) (i := i) (by assumption)]
  ·exact f8 (i' := i + 1) [] [] (by exact zDp (by omega) (by omega) hP (by assumption))
  ·(refine ⟨[_], [], [], ⟨rfl, trivial⟩, ?_⟩; simp only [go_sem, *])
   simp [zDo (by omega) hlb hP]
theorem zHq (a b : List Str) (h1 : a.length ≤ 4294967296) : zMf prog 33 [y8 a, y8 b] [] (bV (decide (a = b))) [] := by
 refine q9 func33 rfl (fun E hE => ?_); simp only [go_sem, ntmps33]
 repeat' (first | (refine Qr rfl ?_; try intro _ hK; try simp only [go_sem, *]) | refine Qh rfl ?_ | refine Qd rfl (by kernel_rfl) ?_ | (refine Qc rfl rfl ?_ ?_ <;> (intro hb; have hc := hb; try simp only [go_sem] at hc)) | refine q8 rfl ?_ | (refine Qb ?_ ?_; focus kernel_rfl) | ((with_reducible apply And.intro); focus omega) | (refine q7 hK ?_; clear hK; simp only [go_sem, *]) | simp only [q6, z8, go_sem, *])
 ·(refine ⟨[_], [], [], ⟨rfl, trivial⟩, ?_⟩; simp only [go_sem, *])
  simp [zCd (a := a) (b := b) (by omega)]
 ·have hlb : a.length = b.length := by omega
  refine o9 rfl (b.length) (fun i => a.take i = b.take i) 26 (fun i => [(5, iV i), (0, y8 a), (1, y8 b)]) (fun i => []) [] [] (by simp) ?_; intro i hi hP
  repeat' (first | (refine Qr rfl ?_; try intro _ hK; try simp only [go_sem, *]) | refine Qh rfl ?_ | refine Qd rfl (by kernel_rfl) ?_ | (refine Qc rfl rfl ?_ ?_ <;> (intro hb; have hc := hb; try simp only [go_sem] at hc)) | refine q8 rfl ?_ | (refine Qb ?_ ?_; focus kernel_rfl) | ((with_reducible apply And.intro); focus omega) | (refine q7 hK ?_; clear hK; simp only [go_sem, *]) | simp only [q6, z8, go_sem, *])
  ·(refine ⟨[_], [], [], ⟨rfl, trivial⟩, ?_⟩; simp only [go_sem, *])
   simp [zDq (a := a) (b := b) (i := i) (by assumption)]
  ·exact f8 (i' := i + 1) [] [] (by exact zDp (by omega) (by omega) hP (by assumption))
  ·(refine ⟨[_], [], [], ⟨rfl, trivial⟩, ?_⟩; simp only [go_sem, *])
   simp [zDo (by omega) hlb hP]
theorem zMK (l : List Str) (h1 : l.length ≤ 4294967296) : zMf prog 28 [y8 l] [] (.own 0 1 0 l.length) [.row 1 (l.map sV)] := by
 refine q9 func28 rfl (fun E hE => ?_); simp only [go_sem, ntmps28]
 repeat' (first | (refine Qr rfl ?_; try intro _ hK; try simp only [go_sem, *]) | refine Qh rfl ?_ | (refine Qc rfl rfl ?_ ?_ <;> (intro hb; have hc := hb; try simp only [go_sem] at hc)) | refine q8 rfl ?_ | (with_reducible (show (∀ _ : AV, _ → _) ∧ _); refine And.intro ?_ ?_; (focus (intro y hy; first | (obtain ⟨z, _, rfl⟩ := List.mem_map.1 (hy); simp [go_sem]; done) | (obtain ⟨z, _, rfl⟩ := List.mem_map.1 (List.mem_of_mem_take hy); simp [go_sem]; done) | (obtain ⟨z, _, rfl⟩ := List.mem_map.1 (List.mem_of_mem_drop hy); simp [go_sem]; done) | (obtain ⟨z, _, rfl⟩ := List.mem_map.1 (List.mem_of_mem_drop (List.mem_of_mem_take hy)); simp [go_sem]; done)))) | ((with_reducible apply And.intro); focus omega) | (refine q7 hK ?_; clear hK; simp only [go_sem, *]) | simp only [q6, z8, go_sem, *])
 refine ⟨[_], [some 1], [], ⟨rfl, trivial⟩, ?_⟩
 simp only [go_sem, *]
theorem zIX : zMf prog 74 [] [] (.own 0 2 0 3) [.row 2 (rulesX.map Rule.enc)] := by
 refine q9 func74 rfl (fun E hE => ?_); simp only [go_sem, ntmps74]
 repeat' (first | (refine Qr rfl ?_; try intro _ hK; try simp only [go_sem, *]) | refine Qh rfl ?_ | (refine Qc rfl rfl ?_ ?_ <;> (intro hb; have hc := hb; try simp only [go_sem] at hc)) | refine q8 rfl ?_ | ((with_reducible apply And.intro); focus omega) | (refine q7 hK ?_; clear hK; simp only [go_sem, *]) | simp only [q6, z8, go_sem, *])
 refine ⟨[_], [some 0], [], ⟨rfl, trivial⟩, ?_⟩
 simp only [go_sem, rulesX, Rule.enc, *]
theorem zIY : zMf prog 75 [] [] (.own 0 1 0 3) [.row 1 (smithsX.map sV)] := by
 refine q9 func75 rfl (fun E hE => ?_); simp only [go_sem, ntmps75]
 repeat' (first | (refine Qr rfl ?_; try intro _ hK; try simp only [go_sem, *]) | refine Qh rfl ?_ | (refine Qc rfl rfl ?_ ?_ <;> (intro hb; have hc := hb; try simp only [go_sem] at hc)) | refine q8 rfl ?_ | ((with_reducible apply And.intro); focus omega) | (refine q7 hK ?_; clear hK; simp only [go_sem, *]) | simp only [q6, z8, go_sem, *])
 refine ⟨[_], [some 0], [], ⟨rfl, trivial⟩, ?_⟩
 simp only [go_sem, smithsX, Q0, zAj, zNr, *]
theorem B0 (d : Dice) (ws : List Str) (h : d.list.length ≤ 4294967296) (h0 : 0 < ws.length) (h1 : ws.length ≤ 1000) : zMf prog 76 [.ptr 0 0, y8 ws] [u6 d] (sV (j5 ws d)) [u6 (w7 ws d)] := by
 have st := X4 d ((ws.length : Int) - 1) h (by omega)
 have hle := e8 (n := (ws.length : Int) - 1) (by omega) d
 have hw : IntKind.i64.wrap ((ws.length : Int) - 1) = (ws.length : Int) - 1 := wrap_i64 (by omega) (by omega)
 have e1 : j5 ws d = ws.getD (toN ((ws.length : Int) - 1) d).toNat default := rfl
 have e2 : w7 ws d = toD ((ws.length : Int) - 1) d := rfl
 rw [e1, e2]
 clear e1 e2
 obtain ⟨n, hn⟩ : ∃ n : Nat, toN ((ws.length : Int) - 1) d = n := ⟨_, (Int.toNat_of_nonneg hle.1).symm⟩
 rw [hn] at st hle ⊢
 rw [Int.toNat_natCast]
 have hlt : n < ws.length := by omega
 generalize toD ((ws.length : Int) - 1) d = d2 at *
 clear hn hle
 refine q9 func76 rfl (fun E hE => ?_); simp only [go_sem, ntmps76]
 repeat' (first | (refine Qr rfl ?_; try intro _ hK; try simp only [go_sem, *]) | refine Qh rfl ?_ | (refine Qc rfl rfl ?_ ?_ <;> (intro hb; have hc := hb; try simp only [go_sem] at hc)) | refine q8 rfl ?_ | (refine t8 [0] (st) ?_; simp only [go_sem, *]) | ((with_reducible apply And.intro); focus omega) | (refine q7 hK ?_; clear hK; simp only [go_sem, *]) | simp only [q6, z8, go_sem, *])
 refine ⟨[_], [some 0], [], ⟨rfl, trivial⟩, ?_⟩
 simp only [go_sem, *]
end Go.Abs

namespace Go.Abs
open Go Go.Proofs Tryz
attribute [local irreducible] y6 Hold x5
theorem zHZ (d : Dice) : (zM8 d).1.length ≤ 7 := by
 have k1 : (wordsU.all fun x => decide (x.length ≤ 7)) = true := by decide
 have k2 : (wordsL.all fun x => decide (x.length ≤ 7)) = true := by decide
 unfold zM8 zNj
 split
 ·exact of_decide_eq_true (List.all_eq_true.1 k1 _ (M9 (by decide) _))
 ·exact of_decide_eq_true (List.all_eq_true.1 k2 _ (M9 (by decide) _))
theorem zAA {s : Str} {k : Nat} (h : k < s.length) : List.drop k (List.take (k + 1) s) = [s.getD k 0] := by
 rw [B2 h, List.drop_append_of_le_length (by simp; omega), List.drop_of_length_le (by simp; omega)]; rfl
theorem zCg (set : Str) (n : Nat) (d : Dice) (s : Str) : d8 set (n + 1) d s = d8 set n (toD ((set.length : Int) - 1) d) (s ++ [set.getD (toN ((set.length : Int) - 1) d).toNat 0]) := rfl
theorem zDT (d : Dice) (most : Int) (h : d.list.length ≤ 4294967296) (hm : 1 ≤ most ∧ most ≤ 1000) : zMf prog 25 [.ptr 0 0, iV most] [u6 d] (sV (i8 d most).1) [u6 (i8 d most).2] := by
 have hd1 : (w7 wordsL d).list = d.list := o3 _ _
 have s1 := B0 d wordsL h (by decide) (by decide)
 have s2 := zA0 (w7 wordsL d) 3 (by rw [hd1]; exact h) (by omega)
 have hd2 : (t7 3 (w7 wordsL d)).list = d.list := (o3 _ _).trans hd1
 have s3 := B0 (t7 3 (w7 wordsL d)) wordsU (by rw [hd2]; exact h) (by decide) (by decide)
 have hset := zDP d
 have hset7 := zHZ d
 obtain ⟨p, hp⟩ : ∃ p, zM8 d = p := ⟨_, rfl⟩
 have hT : i8 d most = E9 most p := by unfold i8; rw [hp]
 rw [hT]
 rw [hp] at hset hset7
 unfold zM8 zNj at hp
 have hmin : 1 ≤ min most 6 ∧ min most 6 ≤ 6 := by omega
 have hq := zAJ (lo := 1) (hi := min most 6) hmin.1 p.2
 have s4 := zHs p.2 1 (min most 6) (by rw [hset.2.2]; exact h) (by omega) (by omega)
 have hT2 : E9 most p = d8 p.1 (Z9 1 (min most 6) p.2).toNat (W1 1 (min most 6) p.2) [] := rfl
 rw [hT2]
 have hd3 : (W1 1 (min most 6) p.2).list = d.list := (o3 _ _).trans hset.2.2
 obtain ⟨n, hn⟩ : ∃ n : Nat, Z9 1 (min most 6) p.2 = n := ⟨(Z9 1 (min most 6) p.2).toNat, by omega⟩
 rw [hn] at s4 hq ⊢
 rw [Int.toNat_natCast]
 have hn6 : n ≤ 6 := by omega
 generalize hT3 : d8 p.1 n (W1 1 (min most 6) p.2) [] = T at *
 obtain ⟨dd, hdd⟩ : ∃ dd, W1 1 (min most 6) p.2 = dd := ⟨_, rfl⟩
 rw [hdd] at s4 hT3 hd3
 have hdl : dd.list.length ≤ 4294967296 := by rw [hd3]; exact h
 obtain ⟨set, d4⟩ := p
 have hsl : 0 < set.length := hset.1
 have hsl2 : set.length ≤ 7 := hset7
 clear hn hT hT2 hq hd1 hd2 hd3 hset hdd
 simp only at s4 hT3
 generalize X0 3 (w7 wordsL d) = t at *
 generalize t7 3 (w7 wordsL d) = d2 at *
 generalize w7 wordsL d = d1 at *
 generalize j5 wordsL d = a at *
 generalize j5 wordsU d2 = b at *
 generalize w7 wordsU d2 = d3 at *
 generalize hmm : min most 6 = mm at *
 have hw0 : y8 wordsL = .list [sV [97, 101, 115], sV [115, 104, 101, 116, 97], sV [115, 109, 105, 116, 121, 104, 97], sV [99, 104, 106, 97], sV [97, 110, 110, 101]] := rfl
 have hw1 : y8 wordsU = .list [sV [65, 69, 83], sV [88, 69, 84, 65], sV [83, 77, 73, 84, 89, 65], sV [67, 74, 65, 88], sV [65, 78, 78, 69]] := rfl
 rw [hw0] at s1
 rw [hw1] at s3
 clear hw0 hw1 hset7
 have hmi : zNg most 6 = mm := by rw [← hmm]; unfold zNg; omega
 clear hmm
 cases t
 ·have hp : (a, d2) = (set, d4) := hp
  cases hp
  clear s3
  refine q9 func25 rfl (fun E hE => ?_); simp only [go_sem, ntmps25]
  repeat' (first | (refine Qr rfl ?_; try intro _ hK; try simp only [go_sem, *]) | refine Qh rfl ?_ | (refine Qc rfl rfl ?_ ?_ <;> (intro hb; have hc := hb; try simp only [go_sem] at hc)) | refine q8 rfl ?_ | ((with_reducible apply And.intro); focus omega) | (refine q7 hK ?_; clear hK; simp only [go_sem, *]) | simp only [q6, z8, go_sem, *])
  refine Z7 [0] [1] s1 rfl (by simp only [go_sem]) (by simp) ?_ ?_ (by simp [go_sem]) (by simp [go_sem]) ?_
  ·simp only [go_sem, *]
  ·simp only [go_sem, *]
  simp only [go_sem, u5, *]
  repeat' (first | (refine Qr rfl ?_; try intro _ hK; try simp only [go_sem, *]) | refine Qh rfl ?_ | (refine Qc rfl rfl ?_ ?_ <;> (intro hb; have hc := hb; try simp only [go_sem] at hc)) | refine q8 rfl ?_ | (refine t8 [0] (s2) ?_; simp only [go_sem, *]) | ((with_reducible apply And.intro); focus omega) | (refine q7 hK ?_; clear hK; simp only [go_sem, *]) | simp only [q6, z8, go_sem, *])
  all_goals try contradiction
  repeat' (first | (refine Qr rfl ?_; try intro _ hK; try simp only [go_sem, *]) | refine Qh rfl ?_ | (refine Qc rfl rfl ?_ ?_ <;> (intro hb; have hc := hb; try simp only [go_sem] at hc)) | refine q8 rfl ?_ | (refine t8 [0] (s4) ?_; simp only [go_sem, *]) | ((with_reducible apply And.intro); focus omega) | (refine q7 hK ?_; clear hK; simp only [go_sem, *]) | simp only [q6, z8, go_sem, *])
  all_goals try contradiction
  refine N7 rfl (n) (fun i (d' : Dice) (s : Str) => d8 set (n - i) d' s = T ∧ d'.list.length ≤ 4294967296 ∧ s.length ≤ i) 38 (fun i d' s => [(7, iV ((n - i : Nat) : Int)), (6, sV s), (5, sV set), (0, .ptr 0 0)]) (fun i d' s => [u6 d']) [some 0] [] (dd) ([]) (by exact ⟨hT3, hdl, by simp⟩) ?_; intro i d' s hi hP
  clear hT3 hdl s4 s2 s1
  obtain ⟨hP, hdl, hsi⟩ := hP
  by_cases hi2 : i < n
  ·rw [show n - i = (n - (i + 1)) + 1 by omega, zCg] at hP
   have st := X4 d' ((set.length : Int) - 1) hdl (by omega)
   have hle := e8 (n := (set.length : Int) - 1) (by omega) d'
   have hdl2 : (toD ((set.length : Int) - 1) d').list.length ≤ 4294967296 := by rw [o3]; exact hdl
   obtain ⟨k, hk0⟩ : ∃ k : Nat, toN ((set.length : Int) - 1) d' = k := ⟨_, (Int.toNat_of_nonneg hle.1).symm⟩
   rw [hk0] at st hle hP
   rw [Int.toNat_natCast] at hP
   have hkl : k < set.length := by omega
   have hw : IntKind.i64.wrap ((set.length : Int) - 1) = (set.length : Int) - 1 := wrap_i64 (by omega) (by omega)
   have hw1 : IntKind.i64.wrap ((k : Int) + 1) = ((k + 1 : Nat) : Int) := r7 (by omega)
   have hw2 : IntKind.i64.wrap (((n - i : Nat) : Int) - 1) = ((n - (i + 1) : Nat) : Int) := by rw [wrap_i64 (by omega) (by omega)]; omega
   have hj : (0 : Int) < ((n - i : Nat) : Int) := by omega
   have hdt := zAA hkl
   generalize toD ((set.length : Int) - 1) d' = d3 at *
   clear hk0 hle
   repeat' (first | (refine Qr rfl ?_; try intro _ hK; try simp only [go_sem, *]) | refine Qh rfl ?_ | (refine Qc rfl rfl ?_ ?_ <;> (intro hb; have hc := hb; try simp only [go_sem] at hc)) | refine q8 rfl ?_ | (refine t8 [0] (st) ?_; simp only [go_sem, *]) | ((with_reducible apply And.intro); focus omega) | (refine q7 hK ?_; clear hK; simp only [go_sem, *]) | simp only [q6, z8, go_sem, *])
   exact c6 (i' := i + 1) [some 0] [] (d3) (s ++ [set.getD k 0]) (by exact ⟨hP, hdl2, by simp; omega⟩)
  ·rw [show n - i = 0 by omega] at hP
   have hP : (s, d') = T := hP
   subst hP
   have hj : ¬ (0 : Int) < ((n - i : Nat) : Int) := by omega
   repeat' (first | (refine Qr rfl ?_; try intro _ hK; try simp only [go_sem, *]) | refine Qh rfl ?_ | (refine Qc rfl rfl ?_ ?_ <;> (intro hb; have hc := hb; try simp only [go_sem] at hc)) | refine q8 rfl ?_ | ((with_reducible apply And.intro); focus omega) | (refine q7 hK ?_; clear hK; simp only [go_sem, *]) | simp only [q6, z8, go_sem, *])
   all_goals first | contradiction | omega | skip
   refine ⟨[_], [some 0], [], ⟨rfl, trivial⟩, ?_⟩
   simp only [go_sem, *]
 ·have hp : (b, d3) = (set, d4) := hp
  cases hp
  refine q9 func25 rfl (fun E hE => ?_); simp only [go_sem, ntmps25]
  repeat' (first | (refine Qr rfl ?_; try intro _ hK; try simp only [go_sem, *]) | refine Qh rfl ?_ | (refine Qc rfl rfl ?_ ?_ <;> (intro hb; have hc := hb; try simp only [go_sem] at hc)) | refine q8 rfl ?_ | ((with_reducible apply And.intro); focus omega) | (refine q7 hK ?_; clear hK; simp only [go_sem, *]) | simp only [q6, z8, go_sem, *])
  refine Z7 [0] [1] s1 rfl (by simp only [go_sem]) (by simp) ?_ ?_ (by simp [go_sem]) (by simp [go_sem]) ?_
  ·simp only [go_sem, *]
  ·simp only [go_sem, *]
  simp only [go_sem, u5, *]
  repeat' (first | (refine Qr rfl ?_; try intro _ hK; try simp only [go_sem, *]) | refine Qh rfl ?_ | (refine Qc rfl rfl ?_ ?_ <;> (intro hb; have hc := hb; try simp only [go_sem] at hc)) | refine q8 rfl ?_ | (refine t8 [0] (s2) ?_; simp only [go_sem, *]) | ((with_reducible apply And.intro); focus omega) | (refine q7 hK ?_; clear hK; simp only [go_sem, *]) | simp only [q6, z8, go_sem, *])
  all_goals try contradiction
  refine Z7 [0] [2] s3 rfl (by simp only [go_sem]) (by simp) ?_ ?_ (by simp [go_sem]) (by simp [go_sem]) ?_
  ·simp only [go_sem, *]
  ·simp only [go_sem, *]
  simp only [go_sem, u5, *]
  repeat' (first | (refine Qr rfl ?_; try intro _ hK; try simp only [go_sem, *]) | refine Qh rfl ?_ | (refine Qc rfl rfl ?_ ?_ <;> (intro hb; have hc := hb; try simp only [go_sem] at hc)) | refine q8 rfl ?_ | (refine t8 [0] (s4) ?_; simp only [go_sem, *]) | ((with_reducible apply And.intro); focus omega) | (refine q7 hK ?_; clear hK; simp only [go_sem, *]) | simp only [q6, z8, go_sem, *])
  all_goals try contradiction
  refine N7 rfl (n) (fun i (d' : Dice) (s : Str) => d8 set (n - i) d' s = T ∧ d'.list.length ≤ 4294967296 ∧ s.length ≤ i) 38 (fun i d' s => [(7, iV ((n - i : Nat) : Int)), (6, sV s), (5, sV set), (0, .ptr 0 0)]) (fun i d' s => [u6 d']) [some 0] [] (dd) ([]) (by exact ⟨hT3, hdl, by simp⟩) ?_; intro i d' s hi hP
  clear hT3 hdl s4 s3 s2 s1
  obtain ⟨hP, hdl, hsi⟩ := hP
  by_cases hi2 : i < n
  ·rw [show n - i = (n - (i + 1)) + 1 by omega, zCg] at hP
   have st := X4 d' ((set.length : Int) - 1) hdl (by omega)
   have hle := e8 (n := (set.length : Int) - 1) (by omega) d'
   have hdl2 : (toD ((set.length : Int) - 1) d').list.length ≤ 4294967296 := by rw [o3]; exact hdl
   obtain ⟨k, hk0⟩ : ∃ k : Nat, toN ((set.length : Int) - 1) d' = k := ⟨_, (Int.toNat_of_nonneg hle.1).symm⟩
   rw [hk0] at st hle hP
   rw [Int.toNat_natCast] at hP
   have hkl : k < set.length := by omega
   have hw : IntKind.i64.wrap ((set.length : Int) - 1) = (set.length : Int) - 1 := wrap_i64 (by omega) (by omega)
   have hw1 : IntKind.i64.wrap ((k : Int) + 1) = ((k + 1 : Nat) : Int) := r7 (by omega)
   have hw2 : IntKind.i64.wrap (((n - i : Nat) : Int) - 1) = ((n - (i + 1) : Nat) : Int) := by rw [wrap_i64 (by omega) (by omega)]; omega
   have hj : (0 : Int) < ((n - i : Nat) : Int) := by omega
   have hdt := zAA hkl
   generalize toD ((set.length : Int) - 1) d' = d3' at *
   clear hk0 hle
   repeat' (first | (refine Qr rfl ?_; try intro _ hK; try simp only [go_sem, *]) | refine Qh rfl ?_ | (refine Qc rfl rfl ?_ ?_ <;> (intro hb; have hc := hb; try simp only [go_sem] at hc)) | refine q8 rfl ?_ | (refine t8 [0] (st) ?_; simp only [go_sem, *]) | ((with_reducible apply And.intro); focus omega) | (refine q7 hK ?_; clear hK; simp only [go_sem, *]) | simp only [q6, z8, go_sem, *])
   exact c6 (i' := i + 1) [some 0] [] (d3') (s ++ [set.getD k 0]) (by exact ⟨hP, hdl2, by simp; omega⟩)
  ·rw [show n - i = 0 by omega] at hP
   have hP : (s, d') = T := hP
   subst hP
   have hj : ¬ (0 : Int) < ((n - i : Nat) : Int) := by omega
   repeat' (first | (refine Qr rfl ?_; try intro _ hK; try simp only [go_sem, *]) | refine Qh rfl ?_ | (refine Qc rfl rfl ?_ ?_ <;> (intro hb; have hc := hb; try simp only [go_sem] at hc)) | refine q8 rfl ?_ | ((with_reducible apply And.intro); focus omega) | (refine q7 hK ?_; clear hK; simp only [go_sem, *]) | simp only [q6, z8, go_sem, *])
   all_goals first | contradiction | omega | skip
   refine ⟨[_], [some 0], [], ⟨rfl, trivial⟩, ?_⟩
   simp only [go_sem, *]
end Go.Abs

namespace Go.Abs
open Go Go.Proofs Tryz
attribute [local irreducible] y6 Hold x5
theorem zGh (most : Int) (n : Nat) (d : Dice) (out : List Str) : Q1 most (n + 1) d out = Q1 most n (Z5 out (i8 d most)).2 (out ++ [(Z5 out (i8 d most)).1]) := rfl
theorem zHy (d : Dice) (many most : Int) (h : d.list.length ≤ 4294967296) (hm : 0 ≤ many ∧ many ≤ 1000) (h1 : 1 ≤ most ∧ most ≤ 1000) :
  zMf prog 24 [.ptr 0 0, iV many, iV most] [u6 d] (.own 1 1 0 (T2 d many most).1.length) [u6 (T2 d many most).2, .row 1 ((T2 d many most).1.map sV)] := by
 have st := X4 d many h (by omega)
 have hle := e8 hm.1 d
 have hT : T2 d many most = Q1 most (toN many d).toNat (toD many d) [] := rfl
 rw [hT]
 clear hT
 obtain ⟨n, hn⟩ : ∃ n : Nat, toN many d = n := ⟨_, (Int.toNat_of_nonneg hle.1).symm⟩
 rw [hn] at st hle ⊢
 rw [Int.toNat_natCast]
 have hn6 : n ≤ 1000 := by omega
 generalize hT3 : Q1 most n (toD many d) [] = T at *
 have hdl : (toD many d).list.length ≤ 4294967296 := by rw [o3]; exact h
 generalize toD many d = dd at *
 clear hn hle h hm
 refine q9 func24 rfl (fun E hE => ?_); simp only [go_sem, ntmps24]
 repeat' (first | (refine Qr rfl ?_; try intro _ hK; try simp only [go_sem, *]) | (refine Qi rfl rfl rfl rfl ?_ ?_ <;> (intro hb; (try intro _ hK); have hc := hb; try simp only [go_sem] at hc; simp only [go_sem, *])) | refine Qh rfl ?_ | refine Qd rfl (by kernel_rfl) ?_ | (refine Qc rfl rfl ?_ ?_ <;> (intro hb; have hc := hb; try simp only [go_sem] at hc)) | refine q8 rfl ?_ | (refine Qb ?_ ?_; focus kernel_rfl) | (refine t8 [0] (st) ?_; simp only [go_sem, *]) | ((with_reducible apply And.intro); focus omega) | (refine q7 hK ?_; clear hK; simp only [go_sem, *]) | simp only [q6, z8, go_sem, *])
 all_goals try contradiction
 refine N7 rfl (n) (fun i (d' : Dice) (outs : List Str) => Q1 most (n - i) d' outs = T ∧ d'.list.length ≤ 4294967296 ∧ outs.length = i ∧ ∀ s, s ∈ outs → V5 most s) 66 (fun i d' outs => [(8, iV ((n - i : Nat) : Int)), (7, .own 1 1 0 i), (0, .ptr 0 0), (2, iV most)]) (fun i d' outs => [u6 d', .row 1 (outs.map sV)]) [some 0, none] [] (dd) ([]) (by exact ⟨hT3, hdl, rfl, fun s hs => by cases hs⟩) ?_; intro i d' outs hi hP
 clear hT3 hdl st
 obtain ⟨hP, hdl, hlen, hok⟩ := hP
 by_cases hi2 : i < n
 ·rw [show n - i = (n - (i + 1)) + 1 by omega, zGh] at hP
  have sN := zDT d' most hdl h1
  have hN := zAk h1.1 (d := d')
  obtain ⟨x, d1, hx⟩ : ∃ x d1, i8 d' most = (x, d1) := ⟨_, _, rfl⟩
  rw [hx] at sN hN hP
  have hA := zBN hok (p := (x, d1)) ⟨hN.1, hN.2.1⟩
  simp only at sN hN hA
  have hd1 : d1.list.length ≤ 4294967296 := by rw [hN.2.2]; exact hdl
  have hxl : x.length ≤ 6 := hN.1.len
  have hw2 : IntKind.i64.wrap (((n - i : Nat) : Int) - 1) = ((n - (i + 1) : Nat) : Int) := by rw [wrap_i64 (by omega) (by omega)]; omega
  have hj : (0 : Int) < ((n - i : Nat) : Int) := by omega
  obtain ⟨y, d9, hq⟩ : ∃ y d9, Z5 outs (x, d1) = (y, d9) := ⟨_, _, rfl⟩
  rw [hq] at hP hA
  have hnext : Q1 most (n - (i + 1)) d9 (outs ++ [y]) = T ∧ d9.list.length ≤ 4294967296 ∧ (outs ++ [y]).length = i + 1 ∧ ∀ s, s ∈ outs ++ [y] → V5 most s :=
   ⟨hP, by rw [hA.2]; exact hd1, by simp [hlen], fun s hs => by
    rcases List.mem_append.1 hs with hs | hs
    ·exact hok s hs
    ·rw [List.mem_singleton.1 hs]; exact hA.1⟩
  clear hP hA hN hx
  by_cases h0 : 0 < outs.length
  ·have so := zA0 d1 3 hd1 (by omega)
   have hd2 : (t7 3 d1).list.length ≤ 4294967296 := by unfold t7; rw [o3]; exact hd1
   unfold Z5 at hq
   rw [if_pos h0] at hq
   have hq : B9 outs (x, d1) (X0 3 d1) (t7 3 d1) = (y, d9) := hq
   have h0i : (0 : Int) < (i : Int) := by omega
   generalize t7 3 d1 = d2 at *
   generalize X0 3 d1 = t at *
   cases t
   ·have hq : (x, d2) = (y, d9) := hq
    obtain ⟨e1, e2⟩ := Prod.mk.inj hq
    clear hq
    subst e1 e2
    clear hok
    repeat' (first | (refine Qr rfl ?_; try intro _ hK; try simp only [go_sem, *]) | (refine Qi rfl rfl rfl rfl ?_ ?_ <;> (intro hb; (try intro _ hK); have hc := hb; try simp only [go_sem] at hc; simp only [go_sem, *])) | refine Qh rfl ?_ | refine Qd rfl (by kernel_rfl) ?_ | (refine Qc rfl rfl ?_ ?_ <;> (intro hb; have hc := hb; try simp only [go_sem] at hc)) | refine q8 rfl ?_ | (refine Qb ?_ ?_; focus kernel_rfl) | (refine p6 [0] [] (sN) (by simp) ?_ ?_ (by simp) (.inl rfl) ?_ ?_ ?_; (iterate 2 (focus (simp only [go_sem, *]; done))); (iterate 2 (focus (first | (simp; done) | (simp [go_sem]; done)))); simp only [go_sem, *]) | (refine p6 [0] [] (so) (by simp) ?_ ?_ (by simp) (.inl rfl) ?_ ?_ ?_; (iterate 2 (focus (simp only [go_sem, *]; done))); (iterate 2 (focus (first | (simp; done) | (simp [go_sem]; done)))); simp only [go_sem, *]) | ((with_reducible apply And.intro); focus omega) | (refine q7 hK ?_; clear hK; simp only [go_sem, *]) | simp only [q6, z8, go_sem, *])
    all_goals first | contradiction | omega | skip
    exact c6 (i' := i + 1) [some 0, some 3] [] (d2) (outs ++ [x]) (by exact hnext)
   ·have hq : T7 (M8 outs d2) (toD ((outs.length : Int) - 1) d2) = (y, d9) := hq
    have hpk0 : ∀ e : Int, M8 outs d2 = outs.getD (toN ((outs.length : Int) - 1) d2).toNat default := fun _ => rfl
    rw [hlen] at hq hpk0
    have st := X4 d2 ((i : Int) - 1) hd2 (by omega)
    have hle := e8 (n := (i : Int) - 1) (by omega) d2
    have hd3 : (toD ((i : Int) - 1) d2).list.length ≤ 4294967296 := by rw [o3]; exact hd2
    obtain ⟨k, hk0⟩ : ∃ k : Nat, toN ((i : Int) - 1) d2 = k := ⟨_, (Int.toNat_of_nonneg hle.1).symm⟩
    have hpk : M8 outs d2 = outs.getD k default := by rw [hpk0 0, hk0, Int.toNat_natCast]
    rw [hk0] at st hle
    rw [hpk] at hq
    have hkl : k < outs.length := by omega
    have hkli : k < i := by omega
    have hz := (hok _ (j9 hkl)).1
    have hw : IntKind.i64.wrap ((i : Int) - 1) = (i : Int) - 1 := wrap_i64 (by omega) (by omega)
    generalize toD ((i : Int) - 1) d2 = d3 at *
    have hz1 : 0 < (outs.getD k default).length := hz.ne
    have hz6 : (outs.getD k default).length ≤ 6 := hz.len
    clear hk0 hle hpk hpk0 hok hz
    generalize hzz : outs.getD k default = z at *
    by_cases hv : 97 ≤ (z.getD 0 0).toNat ∧ 1 < z.length
    ·have s2 := zA0 d3 2 hd3 (by omega)
     have hd4 : (t7 2 d3).list.length ≤ 4294967296 := by unfold t7; rw [o3]; exact hd3
     unfold T7 at hq
     rw [if_pos hv] at hq
     generalize t7 2 d3 = d4 at *
     generalize X0 2 d3 = t2 at *
     obtain ⟨hv1, hv2⟩ := hv
     cases t2
     ·have hq : (z, d4) = (y, d9) := hq
      obtain ⟨e1, e2⟩ := Prod.mk.inj hq
      clear hq
      subst e1 e2
      repeat' (first | (refine Qr rfl ?_; try intro _ hK; try simp only [go_sem, *]) | (refine Qi rfl rfl rfl rfl ?_ ?_ <;> (intro hb; (try intro _ hK); have hc := hb; try simp only [go_sem] at hc; simp only [go_sem, *])) | refine Qh rfl ?_ | refine Qd rfl (by kernel_rfl) ?_ | (refine Qc rfl rfl ?_ ?_ <;> (intro hb; have hc := hb; try simp only [go_sem] at hc)) | refine q8 rfl ?_ | (refine Qb ?_ ?_; focus kernel_rfl) | (refine p6 [0] [] (sN) (by simp) ?_ ?_ (by simp) (.inl rfl) ?_ ?_ ?_; (iterate 2 (focus (simp only [go_sem, *]; done))); (iterate 2 (focus (first | (simp; done) | (simp [go_sem]; done)))); simp only [go_sem, *]) | (refine p6 [0] [] (so) (by simp) ?_ ?_ (by simp) (.inl rfl) ?_ ?_ ?_; (iterate 2 (focus (simp only [go_sem, *]; done))); (iterate 2 (focus (first | (simp; done) | (simp [go_sem]; done)))); simp only [go_sem, *]) | (refine p6 [0] [] (s2) (by simp) ?_ ?_ (by simp) (.inl rfl) ?_ ?_ ?_; (iterate 2 (focus (simp only [go_sem, *]; done))); (iterate 2 (focus (first | (simp; done) | (simp [go_sem]; done)))); simp only [go_sem, *]) | (refine p6 [0] [] (st) (by simp) ?_ ?_ (by simp) (.inl rfl) ?_ ?_ ?_; (iterate 2 (focus (simp only [go_sem, *]; done))); (iterate 2 (focus (first | (simp; done) | (simp [go_sem]; done)))); simp only [go_sem, *]) | ((with_reducible apply And.intro); focus omega) | (refine q7 hK ?_; clear hK; simp only [go_sem, *]) | simp only [q6, z8, go_sem, *])
      all_goals first | contradiction | omega | skip
      exact c6 (i' := i + 1) [some 0, some 3] [] (d4) (outs ++ [z]) (by exact hnext)
     ·have hq : (Y3 z (toN ((z.length : Int) - 1) d4).toNat, toD ((z.length : Int) - 1) d4) = (y, d9) := hq
      have s5 := X4 d4 ((z.length : Int) - 1) hd4 (by omega)
      have hle := e8 (n := (z.length : Int) - 1) (by omega) d4
      obtain ⟨m, hm0⟩ : ∃ m : Nat, toN ((z.length : Int) - 1) d4 = m := ⟨_, (Int.toNat_of_nonneg hle.1).symm⟩
      rw [hm0] at s5 hle hq
      rw [Int.toNat_natCast] at hq
      have hml : m < z.length := by omega
      have hwz : IntKind.i64.wrap ((z.length : Int) - 1) = (z.length : Int) - 1 := wrap_i64 (by omega) (by omega)
      have hwm : IntKind.i64.wrap ((m : Int) + 1) = ((m + 1 : Nat) : Int) := r7 (by omega)
      generalize toD ((z.length : Int) - 1) d4 = d5 at *
      obtain ⟨e1, e2⟩ := Prod.mk.inj hq
      clear hq hm0 hle
      subst e1 e2
      have hcut : List.take m z ++ List.drop (m + 1) z = Y3 z m := rfl
      repeat' (first | (refine Qr rfl ?_; try intro _ hK; try simp only [go_sem, *]) | (refine Qi rfl rfl rfl rfl ?_ ?_ <;> (intro hb; (try intro _ hK); have hc := hb; try simp only [go_sem] at hc; simp only [go_sem, *])) | refine Qh rfl ?_ | refine Qd rfl (by kernel_rfl) ?_ | (refine Qc rfl rfl ?_ ?_ <;> (intro hb; have hc := hb; try simp only [go_sem] at hc)) | refine q8 rfl ?_ | (refine Qb ?_ ?_; focus kernel_rfl) | (refine p6 [0] [] (sN) (by simp) ?_ ?_ (by simp) (.inl rfl) ?_ ?_ ?_; (iterate 2 (focus (simp only [go_sem, *]; done))); (iterate 2 (focus (first | (simp; done) | (simp [go_sem]; done)))); simp only [go_sem, *]) | (refine p6 [0] [] (so) (by simp) ?_ ?_ (by simp) (.inl rfl) ?_ ?_ ?_; (iterate 2 (focus (simp only [go_sem, *]; done))); (iterate 2 (focus (first | (simp; done) | (simp [go_sem]; done)))); simp only [go_sem, *]) | (refine p6 [0] [] (s2) (by simp) ?_ ?_ (by simp) (.inl rfl) ?_ ?_ ?_; (iterate 2 (focus (simp only [go_sem, *]; done))); (iterate 2 (focus (first | (simp; done) | (simp [go_sem]; done)))); simp only [go_sem, *]) | (refine p6 [0] [] (st) (by simp) ?_ ?_ (by simp) (.inl rfl) ?_ ?_ ?_; (iterate 2 (focus (simp only [go_sem, *]; done))); (iterate 2 (focus (first | (simp; done) | (simp [go_sem]; done)))); simp only [go_sem, *]) | (refine p6 [0] [] (s5) (by simp) ?_ ?_ (by simp) (.inl rfl) ?_ ?_ ?_; (iterate 2 (focus (simp only [go_sem, *]; done))); (iterate 2 (focus (first | (simp; done) | (simp [go_sem]; done)))); simp only [go_sem, *]) | ((with_reducible apply And.intro); focus omega) | (refine q7 hK ?_; clear hK; simp only [go_sem, *]) | simp only [q6, z8, go_sem, *])
      all_goals first | contradiction | omega | skip
      exact c6 (i' := i + 1) [some 0, some 3] [] (d5) (outs ++ [Y3 z m]) (by exact hnext)
    ·unfold T7 at hq
     rw [if_neg hv] at hq
     obtain ⟨e1, e2⟩ := Prod.mk.inj hq
     clear hq
     subst e1 e2
     by_cases hv1 : 97 ≤ (z.getD 0 0).toNat
     ·have hv2 : ¬ 1 < z.length := fun h => hv ⟨hv1, h⟩
      clear hv
      repeat' (first | (refine Qr rfl ?_; try intro _ hK; try simp only [go_sem, *]) | (refine Qi rfl rfl rfl rfl ?_ ?_ <;> (intro hb; (try intro _ hK); have hc := hb; try simp only [go_sem] at hc; simp only [go_sem, *])) | refine Qh rfl ?_ | refine Qd rfl (by kernel_rfl) ?_ | (refine Qc rfl rfl ?_ ?_ <;> (intro hb; have hc := hb; try simp only [go_sem] at hc)) | refine q8 rfl ?_ | (refine Qb ?_ ?_; focus kernel_rfl) | (refine p6 [0] [] (sN) (by simp) ?_ ?_ (by simp) (.inl rfl) ?_ ?_ ?_; (iterate 2 (focus (simp only [go_sem, *]; done))); (iterate 2 (focus (first | (simp; done) | (simp [go_sem]; done)))); simp only [go_sem, *]) | (refine p6 [0] [] (so) (by simp) ?_ ?_ (by simp) (.inl rfl) ?_ ?_ ?_; (iterate 2 (focus (simp only [go_sem, *]; done))); (iterate 2 (focus (first | (simp; done) | (simp [go_sem]; done)))); simp only [go_sem, *]) | (refine p6 [0] [] (st) (by simp) ?_ ?_ (by simp) (.inl rfl) ?_ ?_ ?_; (iterate 2 (focus (simp only [go_sem, *]; done))); (iterate 2 (focus (first | (simp; done) | (simp [go_sem]; done)))); simp only [go_sem, *]) | ((with_reducible apply And.intro); focus omega) | (refine q7 hK ?_; clear hK; simp only [go_sem, *]) | simp only [q6, z8, go_sem, *])
      all_goals first | contradiction | omega | skip
      exact c6 (i' := i + 1) [some 0, some 3] [] (d3) (outs ++ [z]) (by exact hnext)
     ·clear hv
      repeat' (first | (refine Qr rfl ?_; try intro _ hK; try simp only [go_sem, *]) | (refine Qi rfl rfl rfl rfl ?_ ?_ <;> (intro hb; (try intro _ hK); have hc := hb; try simp only [go_sem] at hc; simp only [go_sem, *])) | refine Qh rfl ?_ | refine Qd rfl (by kernel_rfl) ?_ | (refine Qc rfl rfl ?_ ?_ <;> (intro hb; have hc := hb; try simp only [go_sem] at hc)) | refine q8 rfl ?_ | (refine Qb ?_ ?_; focus kernel_rfl) | (refine p6 [0] [] (sN) (by simp) ?_ ?_ (by simp) (.inl rfl) ?_ ?_ ?_; (iterate 2 (focus (simp only [go_sem, *]; done))); (iterate 2 (focus (first | (simp; done) | (simp [go_sem]; done)))); simp only [go_sem, *]) | (refine p6 [0] [] (so) (by simp) ?_ ?_ (by simp) (.inl rfl) ?_ ?_ ?_; (iterate 2 (focus (simp only [go_sem, *]; done))); (iterate 2 (focus (first | (simp; done) | (simp [go_sem]; done)))); simp only [go_sem, *]) | (refine p6 [0] [] (st) (by simp) ?_ ?_ (by simp) (.inl rfl) ?_ ?_ ?_; (iterate 2 (focus (simp only [go_sem, *]; done))); (iterate 2 (focus (first | (simp; done) | (simp [go_sem]; done)))); simp only [go_sem, *]) | ((with_reducible apply And.intro); focus omega) | (refine q7 hK ?_; clear hK; simp only [go_sem, *]) | simp only [q6, z8, go_sem, *])
      all_goals first | contradiction | omega | skip
      exact c6 (i' := i + 1) [some 0, some 3] [] (d3) (outs ++ [z]) (by exact hnext)
  ·unfold Z5 at hq
   rw [if_neg h0] at hq
   obtain ⟨e1, e2⟩ := Prod.mk.inj hq
   clear hq
   subst e1 e2
   have h0i : ¬ (0 : Int) < (i : Int) := by omega
   clear hok
   repeat' (first | (refine Qr rfl ?_; try intro _ hK; try simp only [go_sem, *]) | (refine Qi rfl rfl rfl rfl ?_ ?_ <;> (intro hb; (try intro _ hK); have hc := hb; try simp only [go_sem] at hc; simp only [go_sem, *])) | refine Qh rfl ?_ | refine Qd rfl (by kernel_rfl) ?_ | (refine Qc rfl rfl ?_ ?_ <;> (intro hb; have hc := hb; try simp only [go_sem] at hc)) | refine q8 rfl ?_ | (refine Qb ?_ ?_; focus kernel_rfl) | (refine t8 [0] (sN) ?_; simp only [go_sem, *]) | ((with_reducible apply And.intro); focus omega) | (refine q7 hK ?_; clear hK; simp only [go_sem, *]) | simp only [q6, z8, go_sem, *])
   all_goals first | contradiction | omega | skip
   exact c6 (i' := i + 1) [some 0, some 3] [] (d1) (outs ++ [x]) (by exact hnext)
 ·rw [show n - i = 0 by omega] at hP
  have hP : (outs, d') = T := hP
  subst hP
  have hj : ¬ (0 : Int) < ((n - i : Nat) : Int) := by omega
  clear hok
  repeat' (first | (refine Qr rfl ?_; try intro _ hK; try simp only [go_sem, *]) | (refine Qi rfl rfl rfl rfl ?_ ?_ <;> (intro hb; (try intro _ hK); have hc := hb; try simp only [go_sem] at hc; simp only [go_sem, *])) | refine Qh rfl ?_ | refine Qd rfl (by kernel_rfl) ?_ | (refine Qc rfl rfl ?_ ?_ <;> (intro hb; have hc := hb; try simp only [go_sem] at hc)) | refine q8 rfl ?_ | (refine Qb ?_ ?_; focus kernel_rfl) | ((with_reducible apply And.intro); focus omega) | (refine q7 hK ?_; clear hK; simp only [go_sem, *]) | simp only [q6, z8, go_sem, *])
  all_goals first | contradiction | omega | skip
  refine ⟨[_], [some 0, some 1], [], ⟨rfl, trivial⟩, ?_⟩
  simp only [go_sem, *]
end Go.Abs

namespace Go.Abs
open Go Go.Proofs Tryz
attribute [local irreducible] y6 Hold x5
theorem zHI (n : Nat) (d : Dice) (out : List Rule) : Z3 (n + 1) d out = Z3 n (w7 wordsT (w7 wordsF d)) (out ++ [⟨j5 wordsF d, j5 wordsT (w7 wordsF d)⟩]) := rfl
theorem zH0 (d : Dice) (many : Int) (h : d.list.length ≤ 4294967296) (hm : 0 ≤ many ∧ many ≤ 1000) :
  zMf prog 35 [.ptr 0 0, iV many] [u6 d] (.own 1 2 0 (T5 d many).1.length) [u6 (T5 d many).2, .row 2 ((T5 d many).1.map Rule.enc)] := by
 have st := X4 d many h (by omega)
 have hle := e8 hm.1 d
 have hT : T5 d many = Z3 (toN many d).toNat (toD many d) [] := rfl
 rw [hT]
 clear hT
 obtain ⟨n, hn⟩ : ∃ n : Nat, toN many d = n := ⟨_, (Int.toNat_of_nonneg hle.1).symm⟩
 rw [hn] at st hle ⊢
 rw [Int.toNat_natCast]
 have hn6 : n ≤ 1000 := by omega
 generalize hT3 : Z3 n (toD many d) [] = T at *
 have hdl : (toD many d).list.length ≤ 4294967296 := by rw [o3]; exact h
 generalize toD many d = dd at *
 clear hn hle h hm
 refine q9 func35 rfl (fun E hE => ?_); simp only [go_sem, ntmps35]
 repeat' (first | (refine Qr rfl ?_; try intro _ hK; try simp only [go_sem, *]) | refine Qh rfl ?_ | (refine Qc rfl rfl ?_ ?_ <;> (intro hb; have hc := hb; try simp only [go_sem] at hc)) | refine q8 rfl ?_ | (refine t8 [0] (st) ?_; simp only [go_sem, *]) | ((with_reducible apply And.intro); focus omega) | (refine q7 hK ?_; clear hK; simp only [go_sem, *]) | simp only [q6, z8, go_sem, *])
 all_goals try contradiction
 refine N7 rfl (n) (fun i (d' : Dice) (outs : List Rule) => Z3 (n - i) d' outs = T ∧ d'.list.length ≤ 4294967296 ∧ outs.length = i) 27 (fun i d' outs => [(6, iV ((n - i : Nat) : Int)), (5, .own 1 2 0 i), (0, .ptr 0 0)]) (fun i d' outs => [u6 d', .row 2 (outs.map Rule.enc)]) [some 0, none] [] (dd) ([]) (by exact ⟨hT3, hdl, rfl⟩) ?_; intro i d' outs hi hP
 clear hT3 hdl st
 obtain ⟨hP, hdl, hlen⟩ := hP
 by_cases hi2 : i < n
 ·rw [show n - i = (n - (i + 1)) + 1 by omega, zHI] at hP
  have s1 := B0 d' wordsF hdl (by decide) (by decide)
  have hd1 : (w7 wordsF d').list.length ≤ 4294967296 := by unfold w7; rw [o3]; exact hdl
  have s2 := B0 (w7 wordsF d') wordsT hd1 (by decide) (by decide)
  have hd2 : (w7 wordsT (w7 wordsF d')).list.length ≤ 4294967296 := by unfold w7; rw [o3]; exact hd1
  generalize w7 wordsF d' = d1 at *
  generalize w7 wordsT d1 = d2 at *
  generalize j5 wordsF d' = u at *
  generalize j5 wordsT d1 = v at *
  have hw2 : IntKind.i64.wrap (((n - i : Nat) : Int) - 1) = ((n - (i + 1) : Nat) : Int) := by rw [wrap_i64 (by omega) (by omega)]; omega
  have hj : (0 : Int) < ((n - i : Nat) : Int) := by omega
  have hnext : Z3 (n - (i + 1)) d2 (outs ++ [⟨u, v⟩]) = T ∧ d2.list.length ≤ 4294967296 ∧ (outs ++ [(⟨u, v⟩ : Rule)]).length = i + 1 := ⟨hP, hd2, by simp [hlen]⟩
  have hw0 : y8 wordsF = .list [sV [101], sV [121], sV [115, 104], sV [97], sV [110, 110], sV [116, 104], sV [109]] := rfl
  have hw1 : y8 wordsT = .list [sV [], sV [105], sV [115], sV [116], sV [97, 101], sV [106], sV [110]] := rfl
  rw [hw0] at s1
  rw [hw1] at s2
  clear hw0 hw1 hP
  repeat' (first | (refine Qr rfl ?_; try intro _ hK; try simp only [go_sem, *]) | refine Qh rfl ?_ | (refine Qc rfl rfl ?_ ?_ <;> (intro hb; have hc := hb; try simp only [go_sem] at hc)) | refine q8 rfl ?_ | ((with_reducible apply And.intro); focus omega) | (refine q7 hK ?_; clear hK; simp only [go_sem, *]) | simp only [q6, z8, go_sem, *])
  refine Z7 [0] [2] s1 rfl (by simp only [go_sem]) (by simp) ?_ ?_ (by simp [go_sem]) (by simp [go_sem]) ?_
  ·simp only [go_sem, *]
  ·simp only [go_sem, *]
  simp only [go_sem, u5, *]
  repeat' (first | (refine Qr rfl ?_; try intro _ hK; try simp only [go_sem, *]) | refine Qh rfl ?_ | (refine Qc rfl rfl ?_ ?_ <;> (intro hb; have hc := hb; try simp only [go_sem] at hc)) | refine q8 rfl ?_ | ((with_reducible apply And.intro); focus omega) | (refine q7 hK ?_; clear hK; simp only [go_sem, *]) | simp only [q6, z8, go_sem, *])
  refine Z7 [0] [3] s2 rfl (by simp only [go_sem]) (by simp) ?_ ?_ (by simp [go_sem]) (by simp [go_sem]) ?_
  ·simp only [go_sem, *]
  ·simp only [go_sem, *]
  simp only [go_sem, u5, *]
  repeat' (first | (refine Qr rfl ?_; try intro _ hK; try simp only [go_sem, *]) | refine Qh rfl ?_ | (refine Qc rfl rfl ?_ ?_ <;> (intro hb; have hc := hb; try simp only [go_sem] at hc)) | refine q8 rfl ?_ | ((with_reducible apply And.intro); focus omega) | (refine q7 hK ?_; clear hK; simp only [go_sem, *]) | simp only [q6, z8, go_sem, *])
  all_goals first | contradiction | omega | skip
  exact c6 (i' := i + 1) [some 0, some 6] [] (d2) (outs ++ [(⟨u, v⟩ : Rule)]) (by exact hnext)
 ·rw [show n - i = 0 by omega] at hP
  have hP : (outs, d') = T := hP
  subst hP
  have hj : ¬ (0 : Int) < ((n - i : Nat) : Int) := by omega
  repeat' (first | (refine Qr rfl ?_; try intro _ hK; try simp only [go_sem, *]) | refine Qh rfl ?_ | (refine Qc rfl rfl ?_ ?_ <;> (intro hb; have hc := hb; try simp only [go_sem] at hc)) | refine q8 rfl ?_ | ((with_reducible apply And.intro); focus omega) | (refine q7 hK ?_; clear hK; simp only [go_sem, *]) | simp only [q6, z8, go_sem, *])
  all_goals first | contradiction | omega | skip
  refine ⟨[_], [some 0, some 1], [], ⟨rfl, trivial⟩, ?_⟩
  simp only [go_sem, *]
end Go.Abs

namespace Go.Abs
open Go
theorem J4 {α : Type} (cmp : α → α → Int) : ∀ (xs ys : List α) (b : Option α), x7 cmp b (xs ++ ys) = x7 cmp (x7 cmp b xs) ys
 | [], ys, b => by rw [List.nil_append]; cases b <;> rfl
 | x :: r, ys, none => by
  rw [List.cons_append, x7, x7]; exact J4 cmp r ys _
 | x :: r, ys, some y => by
  rw [List.cons_append, x7, x7]
  split
  ·exact J4 cmp r ys _
  ·exact J4 cmp r ys _
theorem zBx {α : Type} (cmp : α → α → Int) (x : α) : ∀ b : Option α, x7 cmp b [x] = match b with
  | none => some x
  | some y => if cmp x y < 0 then some x else some y
 | none => rfl
 | some y => by
  rw [x7]
  by_cases h : cmp x y < 0
  ·simp only [if_pos h, x7]
  ·simp only [if_neg h, x7]
def Q3 (l : List Rule) (to : Str) (n : Nat) (pre : List Str) (S : List Str × Option (List Str)) (s : Str) : List Str × Option (List Str) :=
 if s ∈ S.1 then S else (S.1 ++ [s], x7 zMi S.2 (o8 l to n s pre))
theorem zAI (l : List Rule) (to : Str) (n : Nat) (pre : List Str) : ∀ (L m m' : List Str) (B : Option (List Str)), (∀ x, x ∈ m ↔ x ∈ m') →
  (L.foldl (Q3 l to n pre) (m, B)).2 = x7 zMi B ((W0 m' L).flatMap fun s => o8 l to n s pre)
 | [], m, m', B, _ => by
  simp only [List.foldl_nil, W0, List.flatMap_nil]
  cases B <;> rfl
 | x :: r, m, m', B, h => by
  rw [List.foldl_cons, W0]
  by_cases hx : x ∈ m'
  ·rw [if_pos hx, Q3, if_pos ((h x).2 hx)]
   exact zAI l to n pre r m m' B h
  ·rw [if_neg hx, Q3, if_neg (fun k => hx ((h x).1 k)), List.flatMap_cons, J4]
   exact zAI l to n pre r _ _ _ (fun y => by simp only [List.mem_append, List.mem_cons, List.not_mem_nil, or_false, h y]; exact or_comm)
theorem zFf (l : List Rule) (to : Str) (n : Nat) (now : Str) (pre : List Str) (B : Option (List Str)) :
  ((o6 l now).foldl (Q3 l to n (pre ++ [now])) ([], B)).2 = x7 zMi B (o8 l to (n + 1) now pre) := by
 rw [zAI l to n (pre ++ [now]) (o6 l now) [] [] B (fun _ => Iff.rfl), o8, F9]
def zM2 (m : List Str) (x : Str) : List Str := if x ∈ m then m else m ++ [x]
theorem zGc {m : List Str} {x y : Str} : y ∈ zM2 m x ↔ y ∈ m ∨ y = x := by
 unfold zM2
 split
 ·rename_i h
  constructor
  ·exact .inl
  ·rintro (h2 | rfl)
   ·exact h2
   ·exact h
 ·rw [List.mem_append, List.mem_singleton]
def zMx (k : Str) (m : List Str) (now : Str) : List Str := if now.length < k.length then zM2 m now else m
def goC (k : Str) : Nat → List Str → Str → Nat → List Str
 | 0, m, now, _ => zMx k m now
 | n + 1, m, now, at_ => (List.range' at_ (k.length - at_)).foldl (fun m i => goC k n m (now ++ [k.getD i 0]) (i + 1)) (zMx k m now)
def Q6 (k : Str) (n : Nat) (m : List Str) (now : Str) (i : Nat) : List Str := (List.range' i (k.length - i)).foldl (fun m i => goC k n m (now ++ [k.getD i 0]) (i + 1)) m
theorem zAO (k : Str) (n : Nat) (m : List Str) (now : Str) (i : Nat) : goC k (n + 1) m now i = Q6 k n (zMx k m now) now i := rfl
theorem E2 {k : Str} {n : Nat} {m : List Str} {now : Str} {i : Nat} (h : k.length ≤ i) : Q6 k n m now i = m := by
 unfold Q6
 rw [show k.length - i = 0 by omega]; rfl
theorem zAN {k : Str} {n : Nat} {m : List Str} {now : Str} {i : Nat} (h : i < k.length) : Q6 k n m now i = Q6 k n (goC k n m (now ++ [k.getD i 0]) (i + 1)) now (i + 1) := by
 unfold Q6
 rw [show k.length - i = (k.length - (i + 1)) + 1 by omega, List.range'_succ, List.foldl_cons]
theorem mem_metC {k : Str} {m : List Str} {now x : Str} : x ∈ zMx k m now ↔ x ∈ m ∨ (x = now ∧ x.length < k.length) := by
 unfold zMx
 split
 ·rename_i h
  rw [zGc]
  constructor
  ·rintro (h1 | rfl)
   ·exact .inl h1
   ·exact .inr ⟨rfl, h⟩
  ·rintro (h1 | ⟨rfl, _⟩)
   ·exact .inl h1
   ·exact .inr rfl
 ·rename_i h
  constructor
  ·exact .inl
  ·rintro (h1 | ⟨rfl, h1⟩)
   ·exact h1
   ·exact absurd h1 h
theorem zAi {k : Str} : ∀ {n : Nat} {m : List Str} {now : Str} {i : Nat} {x : Str}, k.length - i ≤ n → (x ∈ goC k n m now i ↔ x ∈ m ∨ ∃ t : Str, t.Sublist (k.drop i) ∧ x = now ++ t ∧ x.length < k.length)
 | 0, m, now, i, x, h => by
  rw [goC, mem_metC, List.drop_eq_nil_of_le (by omega)]
  constructor
  ·rintro (h1 | ⟨rfl, h1⟩)
   ·exact .inl h1
   ·exact .inr ⟨[], List.Sublist.refl _, by simp, h1⟩
  ·rintro (h1 | ⟨t, ht, rfl, h1⟩)
   ·exact .inl h1
   ·rw [List.sublist_nil.1 ht] at h1 ⊢
    exact .inr ⟨by simp, h1⟩
 | n + 1, m, now, i, x, h => by
  have key : ∀ (d i : Nat) (m : List Str), k.length - i = d → d ≤ n + 1 → (x ∈ Q6 k n m now i ↔ x ∈ m ∨ ∃ t : Str, t ≠ [] ∧ t.Sublist (k.drop i) ∧ x = now ++ t ∧ x.length < k.length) := by
   intro d
   induction d with
   | zero =>
    intro i m hi _
    rw [E2 (by omega), List.drop_eq_nil_of_le (by omega)]
    constructor
    ·exact .inl
    ·rintro (h1 | ⟨t, hn, ht, _⟩)
     ·exact h1
     ·exact absurd (List.sublist_nil.1 ht) hn
   | succ d ih =>
    intro i m hi hd
    have hlt : i < k.length := by omega
    rw [zAN hlt, ih (i + 1) _ (by omega) (by omega), zAi (by omega)]
    have hdr : k.drop i = k.getD i 0 :: k.drop (i + 1) := by
     rw [List.drop_eq_getElem_cons hlt]; simp [List.getD, hlt]
    rw [hdr]
    constructor
    ·rintro ((h1 | ⟨t, ht, rfl, h1⟩) | ⟨t, hn, ht, rfl, h1⟩)
     ·exact .inl h1
     ·exact .inr ⟨k.getD i 0 :: t, by simp, ht.cons_cons _, by simp, h1⟩
     ·exact .inr ⟨t, hn, ht.cons _, rfl, h1⟩
    ·rintro (h1 | ⟨t, hn, ht, rfl, h1⟩)
     ·exact .inl (.inl h1)
     ·cases ht with
      | cons _ ht => exact .inr ⟨t, hn, ht, rfl, h1⟩
      | cons_cons _ ht => exact .inl (.inr ⟨_, ht, by simp, h1⟩)
  rw [zAO, key _ i _ rfl (by omega), mem_metC]
  constructor
  ·rintro ((h1 | ⟨rfl, h1⟩) | ⟨t, _, h2⟩)
   ·exact .inl h1
   ·exact .inr ⟨[], List.nil_sublist _, by simp, h1⟩
   ·exact .inr ⟨t, h2⟩
  ·rintro (h1 | ⟨t, ht, rfl, h1⟩)
   ·exact .inl (.inl h1)
   ·by_cases hn : t = []
    ·subst hn
     exact .inl (.inr ⟨by simp, h1⟩)
    ·exact .inr ⟨t, hn, ht, rfl, h1⟩
def U2 (k : Str) : List Str := goC k k.length [] (k.take 1) 1
theorem zCr {k x : Str} : x ∈ U2 k ↔ Y0 k x := by
 unfold U2 Y0
 rw [zAi (by omega)]
 simp
end Go.Abs

namespace Go.Abs
open Go Go.Proofs Tryz
attribute [local irreducible] y6 Hold x5
theorem zCX : Maps.Keyed prog 90 := Maps.Keyed.of_law (WideMaps.string_law (by kernel_rfl))
abbrev zMo (s : Str) : Value := .string ⟨s.toArray⟩
theorem E5 (s : Str) (hs : s.length ≤ 1000) : zM9 prog 90 (zMo s) := by
 have hu : prog.underlying 90 = some .string := by kernel_rfl
 unfold zM9 keyOf
 rw [hu]
 simp [mapKey, hu, maxLen]
 omega
theorem sKey_inj {a b : Str} : zMo a = zMo b ↔ a = b := by simp [zMo]
theorem zAP (h : Str) : ∀ hs : List Str, zMv (zMo h) (hs.map zMo) = if h ∈ hs then some (hs.idxOf h) else none
 | [] => by simp [zMv]
 | x :: r => by
  have ih := zAP h r
  rw [List.map_cons]
  unfold zMv
  by_cases e : x = h
  ·subst e; simp
  ·have e' : ¬ zMo x = zMo h := fun k => e (sKey_inj.1 k)
   rw [if_neg e', ih]
   by_cases hm : h ∈ r
   ·rw [if_pos hm, if_pos (by simp [hm])]
    have hb : (x == h) = false := by simpa using e
    simp [List.idxOf_cons, hb]
   ·rw [if_neg hm, if_neg (by simp only [List.mem_cons, not_or]; exact ⟨fun k => e k.symm, hm⟩)]; rfl
theorem zGS (m : List Str) (s : Str) : Q7 (m.map zMo) (m.map fun _ => bV true) (zMo s) (bV false) = bV (decide (s ∈ m)) := by
 unfold Q7; rw [zAP]
 by_cases hm : s ∈ m
 ·rw [if_pos hm]
  have hlt := List.idxOf_lt_length_of_mem hm
  simp [hlt, hm]
 ·rw [if_neg hm]; simp [hm]
theorem zG2 (m : List Str) (s : Str) : zNS (m.map zMo) (zMo s) = (zM2 m s).map zMo ∧ zNT (m.map zMo) (m.map fun _ => bV true) (zMo s) (bV true) = (zM2 m s).map fun _ => bV true := by
 unfold zNS zNT zM2
 rw [zAP]
 by_cases hm : s ∈ m
 ·rw [if_pos hm, if_pos hm]
  refine ⟨rfl, ?_⟩
  have hlt := List.idxOf_lt_length_of_mem hm
  apply List.ext_getElem (by simp)
  intro i h1 h2
  simp [List.getElem_set]
 ·rw [if_neg hm, if_neg hm]
  simp
theorem zCt : zNG prog 155 = some (90, 4) := by kernel_rfl
theorem zCo {m : List Str} {s : Str} {o : Nat} {H : Nat → AObj} {K : Cont} (hm : ∀ x, x ∈ m → x.length ≤ 1000) (hs : s.length ≤ 1000) (ho : H o = .mapo (m.map zMo) (m.map fun _ => bV true)) (hk : K (bV (decide (s ∈ m))) [o] []) : W3 prog 155 (.mp o) (sV s) false H K := by
 have hz : zeroT prog 4 = some (.bool false) := by kernel_rfl
 unfold W3
 rw [zCt]
 simp only [zNN, hz, ho]
 refine ⟨zCX, E5 s hs, by simp [Value.cells, Value.oneCell'], fun q hq => ?_, ?_⟩
 ·obtain ⟨k, hk, rfl⟩ := List.mem_map.1 hq; exact E5 k (hm k hk)
 ·have e : zAV (.bool false) = bV false := rfl
  rw [e, zGS]; simpa using hk
theorem zBB {m : List Str} {s : Str} {o : Nat} {H : Nat → AObj} {K : Cont} (hm : ∀ x, x ∈ m → x.length ≤ 1000) (hs : s.length ≤ 1000) (ho : H o = .mapo (m.map zMo) (m.map fun _ => bV true)) (hk : K (.tup []) [o] [(o, .mapo ((zM2 m s).map zMo) ((zM2 m s).map fun _ => bV true))]) : Y7 prog 155 (.mp o) (sV s) (bV true) H K := by
 unfold Y7
 rw [zCt]
 simp only [zNN, ho]
 obtain ⟨h1, h2⟩ := zG2 m s
 refine ⟨zCX, E5 s hs, fun q hq => ?_, .raw _, rfl, ?_⟩
 ·obtain ⟨k, hk, rfl⟩ := List.mem_map.1 hq; exact E5 k (hm k hk)
 ·have e : zMg H 3 (bV true) = (bV true, []) := rfl
  rw [e, h1, h2]; simpa [u5] using hk
theorem zAz (l : List Str) (h1 : l.length ≤ 4294967296) : zMf prog 148 [y8 l] [] (.own 0 1 0 l.length) [.row 1 (l.map sV)] := by
 cases l with
 | nil =>
  refine zIh (fun a c => ?_)
  refine q9 func148 rfl (fun E hE => ?_); simp only [go_sem, ntmps148]
  repeat' (first | (refine Qr rfl ?_; try intro _ hK; try simp only [go_sem, *]) | refine Qh rfl ?_ | (refine Qc rfl rfl ?_ ?_ <;> (intro hb; have hc := hb; try simp only [go_sem] at hc)) | refine q8 rfl ?_ | ((with_reducible apply And.intro); focus omega) | (refine q7 hK ?_; clear hK; simp only [go_sem, *]) | simp only [q6, z8, go_sem, *])
  ·refine ⟨[_], [none], [], ⟨rfl, trivial⟩, ?_⟩
   simp only [go_sem, *]
   simp
  ·refine ⟨[_], [some 1], [], ⟨rfl, trivial⟩, ?_⟩
   simp only [go_sem, *]
 | cons x r =>
  have h2 : r.length + 1 ≤ 4294967296 := by simpa using h1
  refine q9 func148 rfl (fun E hE => ?_); simp only [go_sem, ntmps148]
  repeat' (first | (refine Qr rfl ?_; try intro _ hK; try simp only [go_sem, *]) | refine Qh rfl ?_ | (refine Qc rfl rfl ?_ ?_ <;> (intro hb; have hc := hb; try simp only [go_sem] at hc)) | refine q8 rfl ?_ | ((with_reducible apply And.intro); focus omega) | (refine q7 hK ?_; clear hK; simp only [go_sem, *]) | simp only [q6, z8, go_sem, *])
  all_goals try contradiction
  refine ⟨fun y hy => ?_, fun y hy => ?_, by omega, by omega, ?_⟩
  ·obtain ⟨z, _, rfl⟩ := List.mem_map.1 hy
   simp [go_sem]
  ·obtain ⟨z, _, rfl⟩ := List.mem_map.1 hy
   simp [go_sem]
  ·repeat' (first | (refine Qr rfl ?_; try intro _ hK; try simp only [go_sem, *]) | refine Qh rfl ?_ | (refine Qc rfl rfl ?_ ?_ <;> (intro hb; have hc := hb; try simp only [go_sem] at hc)) | refine q8 rfl ?_ | ((with_reducible apply And.intro); focus omega) | (refine q7 hK ?_; clear hK; simp only [go_sem, *]) | simp only [q6, z8, go_sem, *])
   refine ⟨[_], [some 1], [], ⟨rfl, trivial⟩, ?_⟩
   simp only [go_sem, *]
end Go.Abs

namespace Go.Abs
open Go Go.Proofs Tryz
attribute [local irreducible] y6 Hold x5
noncomputable def zBv : Code := sub [0, 1, 0, 1, 1, 1] (V8 Tryz.f124)
noncomputable def f6 (fn : FuncId) : LoopK := ⟨fn, #[10], L2 zBv, L3 zBv, 23⟩
def o4 : Option (List Str) → AV
 | none => .raw (.slice none 0 0)
 | some c => y8 c
@[go_sem] theorem zJv : o4 none = .raw (.slice none 0 0) := rfl
@[go_sem] theorem zEM (c : List Str) : o4 (some c) = .list (c.map sV) := rfl
@[go_sem] theorem zJU (H : Nat → AObj) (m : List (Option Nat)) (ex : List Nat) (B : Option (List Str)) : XpF H m ex (o4 B) (o4 B) ↔ True := by cases B <;> simp [o4, XpF]
@[go_sem] theorem zLx (f : Nat → Nat) (B : Option (List Str)) : AV.ren f (o4 B) = o4 B := by cases B <;> simp [o4, AV.ren]
@[go_sem] theorem zJ5 (B : Option (List Str)) : (o4 B).cells = [o4 B] := by cases B <;> rfl
@[go_sem] theorem zLa (B : Option (List Str)) : (o4 B).one = true := by cases B <;> rfl
@[go_sem] theorem zKC (B : Option (List Str)) : (o4 B).flat = true := by cases B <;> rfl
@[go_sem] theorem zMF (B : Option (List Str)) : (o4 B).sized = true := by cases B <;> rfl
abbrev Z8 : AV := fnV 126
abbrev zJ6 (c : List Str) : Prop := c.length ≤ 1000
theorem zJF (fn : FuncId) (c : List Str) : e9 prog [y8 c] [.loopo (f6 fn) [(3, .ptr 1 0), (6, .ptr 2 0), (7, .ptr 3 0)] (some none), .box [Z8], .box [.raw (.slice none 0 0)], .box [bV false]] (bV true)
  [.loopo (f6 fn) [(3, .ptr 1 0), (6, .ptr 2 0), (7, .ptr 3 0)] (some none), .box [Z8], .box [y8 c], .box [bV true]] := by
 refine P9 (L := f6 fn) (env := [(3, .ptr 1 0), (6, .ptr 2 0), (7, .ptr 3 0)]) (j := none) rfl rfl (fun E l hE => ?_)
 refine j1 rfl ?_
 simp only [f6, c8, go_sem]
 repeat' (first | (refine Qr (ops := _ :: _) rfl ?_; try intro _ hK; try simp only [go_sem, *]) | (refine Qi rfl rfl rfl rfl ?_ ?_ <;> (intro hb; (try intro _ hK); have hc := hb; try simp only [go_sem] at hc; simp only [go_sem, *])) | (refine Qb ?_ ?_; focus kernel_rfl) | ((with_reducible apply And.intro); focus omega) | (refine q7 hK ?_; clear hK; simp only [go_sem, *]) | simp only [q6, z8, go_sem, *])
 refine o0 ?_
 refine ⟨by simp only [go_sem], ?_⟩
 refine P2 (id := 1) rfl ?_
 refine Q8 rfl ?_
 refine j1 rfl ?_
 simp only [go_sem]
 repeat' (first | (refine Qr (ops := _ :: _) rfl ?_; try intro _ hK; try simp only [go_sem, *]) | (refine Qi rfl rfl rfl rfl ?_ ?_ <;> (intro hb; (try intro _ hK); have hc := hb; try simp only [go_sem] at hc; simp only [go_sem, *])) | (refine Qb ?_ ?_; focus kernel_rfl) | ((with_reducible apply And.intro); focus omega) | (refine q7 hK ?_; clear hK; simp only [go_sem, *]) | simp only [q6, z8, go_sem, *])
 refine o0 ?_
 refine T4 (t := true) rfl (by simp only [go_sem]) (fun _ => ?_) (fun h => by cases h)
 refine j1 rfl ?_
 simp only [go_sem]
 repeat' (first | (refine Qr (ops := _ :: _) rfl ?_; try intro _ hK; try simp only [go_sem, *]) | (refine Qi rfl rfl rfl rfl ?_ ?_ <;> (intro hb; (try intro _ hK); have hc := hb; try simp only [go_sem] at hc; simp only [go_sem, *])) | (refine Qb ?_ ?_; focus kernel_rfl) | ((with_reducible apply And.intro); focus omega) | (refine q7 hK ?_; clear hK; simp only [go_sem, *]) | simp only [q6, z8, go_sem, *])
 refine o0 ?_
 simp only [z8, go_sem]
 refine ⟨rfl, [some 0, some 1, some 2, some 3], [], ?_⟩
 simp only [go_sem, *]
theorem zJG (fn : FuncId) (b c : List Str) (hb1 : b.length ≤ 1000) (hc1 : c.length ≤ 1000) : e9 prog [y8 c] [.loopo (f6 fn) [(3, .ptr 1 0), (6, .ptr 2 0), (7, .ptr 3 0)] (some none), .box [Z8], .box [y8 b], .box [bV true]] (bV true)
  [.loopo (f6 fn) [(3, .ptr 1 0), (6, .ptr 2 0), (7, .ptr 3 0)] (some none), .box [Z8], .box [y8 (if zMi c b < 0 then c else b)], .box [bV true]] := by
 have hca : p7 prog 126 = true := by kernel_rfl
 have sc := zHl c b (by omega) (by omega)
 refine P9 (L := f6 fn) (env := [(3, .ptr 1 0), (6, .ptr 2 0), (7, .ptr 3 0)]) (j := none) rfl rfl (fun E l hE => ?_)
 refine j1 rfl ?_
 simp only [f6, c8, go_sem]
 repeat' (first | (refine Qr (ops := _ :: _) rfl ?_; try intro _ hK; try simp only [go_sem, *]) | (refine Qi rfl rfl rfl rfl ?_ ?_ <;> (intro hb; (try intro _ hK); have hc := hb; try simp only [go_sem] at hc; simp only [go_sem, *])) | (refine Qb ?_ ?_; focus kernel_rfl) | ((with_reducible apply And.intro); focus omega) | (refine q7 hK ?_; clear hK; simp only [go_sem, *]) | simp only [q6, z8, go_sem, *])
 refine o0 ?_
 refine ⟨by simp only [go_sem], ?_⟩
 refine P2 (id := 1) rfl ?_
 refine Q8 rfl ?_
 refine j1 rfl ?_
 simp only [go_sem]
 repeat' (first | (refine Qr (ops := _ :: _) rfl ?_; try intro _ hK; try simp only [go_sem, *]) | (refine Qi rfl rfl rfl rfl ?_ ?_ <;> (intro hb; (try intro _ hK); have hc := hb; try simp only [go_sem] at hc; simp only [go_sem, *])) | (refine Qb ?_ ?_; focus kernel_rfl) | ((with_reducible apply And.intro); focus omega) | (refine q7 hK ?_; clear hK; simp only [go_sem, *]) | simp only [q6, z8, go_sem, *])
 refine y5 sc ?_
 simp only [go_sem]
 repeat' (first | (refine Qr (ops := _ :: _) rfl ?_; try intro _ hK; try simp only [go_sem, *]) | (refine Qi rfl rfl rfl rfl ?_ ?_ <;> (intro hb; (try intro _ hK); have hc := hb; try simp only [go_sem] at hc; simp only [go_sem, *])) | (refine Qb ?_ ?_; focus kernel_rfl) | ((with_reducible apply And.intro); focus omega) | (refine q7 hK ?_; clear hK; simp only [go_sem, *]) | simp only [q6, z8, go_sem, *])
 refine o0 ?_
 refine T4 (t := decide (zMi c b < 0)) rfl (by simp only [go_sem]) (fun h => ?_) (fun h => ?_)
 ·rw [if_pos (by simpa using h)]
  refine j1 rfl ?_
  simp only [go_sem]
  repeat' (first | (refine Qr (ops := _ :: _) rfl ?_; try intro _ hK; try simp only [go_sem, *]) | (refine Qi rfl rfl rfl rfl ?_ ?_ <;> (intro hb; (try intro _ hK); have hc := hb; try simp only [go_sem] at hc; simp only [go_sem, *])) | (refine Qb ?_ ?_; focus kernel_rfl) | ((with_reducible apply And.intro); focus omega) | (refine q7 hK ?_; clear hK; simp only [go_sem, *]) | simp only [q6, z8, go_sem, *])
  refine o0 ?_
  simp only [z8, go_sem]
  refine ⟨rfl, [some 0, some 1, some 2, some 3], [], ?_⟩
  simp only [go_sem, *]
 ·rw [if_neg (by simpa using h)]
  refine H5 rfl ?_
  simp only [z8, go_sem]
  refine ⟨rfl, [some 0, some 1, some 2, some 3], [], ?_⟩
  simp only [go_sem, *]
theorem zJE (fn : FuncId) (B : Option (List Str)) (c : List Str) (hb1 : ∀ b, B = some b → b.length ≤ 1000) (hc1 : c.length ≤ 1000) : e9 prog [y8 c] [.loopo (f6 fn) [(3, .ptr 1 0), (6, .ptr 2 0), (7, .ptr 3 0)] (some none), .box [Z8], .box [o4 B], .box [bV B.isSome]] (bV true)
  [.loopo (f6 fn) [(3, .ptr 1 0), (6, .ptr 2 0), (7, .ptr 3 0)] (some none), .box [Z8], .box [o4 (x7 zMi B [c])], .box [bV (x7 zMi B [c]).isSome]] := by
 cases B with
 | none => exact zJF fn c
 | some b =>
  have := zJG fn b c (hb1 b rfl) hc1
  rw [zBx]
  by_cases h : zMi c b < 0
  ·simp only [if_pos h] at this ⊢; exact this
  ·simp only [if_neg h] at this ⊢; exact this
end Go.Abs

namespace Go.Abs
open Go Go.Proofs Tryz
attribute [local irreducible] y6 Hold x5
noncomputable def zB9 : Code := sub [0, 1, 0, 1, 1, 1, 1] (V8 Tryz.f147)
noncomputable def N4 (fn : FuncId) : LoopK := ⟨fn, #[34], L2 zB9, L3 zB9, 45⟩
abbrev CS := List Str × Option (List Str)
structure ChainD where
 many : Int
 to : Str
 l : List Rule
 fnG : FuncId
 fnF : FuncId
noncomputable def l8 (o : Nat) (D : ChainD) (chain : List Str) (S : CS) : List AObj :=
 [.loopo (N4 D.fnG) [(11, .ptr (o + 11) 0), (10, .ptr (o + 10) 0), (6, .ptr (o + 5) 0), (9, .ptr (o + 13) 0)] (some none), .box [iV D.many], .box [sV D.to], .box [.yld (o + 6)], .box [w6 D.l],
  .box [.fn 147 [.ptr (o + 1) 0, .ptr (o + 2) 0, .ptr (o + 3) 0, .ptr (o + 4) 0, .ptr (o + 5) 0]],
  .loopo (f6 D.fnF) [(3, .ptr (o + 7) 0), (6, .ptr (o + 8) 0), (7, .ptr (o + 9) 0)] (some none), .box [Z8], .box [o4 S.2], .box [bV S.2.isSome], .box [y8 chain], .box [.mp (o + 12)], .mapo (S.1.map zMo) (S.1.map fun _ => bV true), .box [bV false]]
structure UsesD where
 k : Str
 u : Str
 v : Str
 i : Nat
 j : Nat
 l : List Rule
 fnU : FuncId
abbrev zAo (u v : Str) : List AV := [.agg [sV u, sV v], .agg [sV v, sV u]]
noncomputable def zDs : Code := sub [0, 1, 1, 0, 0, 1, 1, 0, 0, 1, 1, 0, 0, 1, 1, 0, 0, 1, 1] (V8 Tryz.f170)
noncomputable def B3 (fn : FuncId) : LoopK := ⟨fn, #[37], L2 zDs, L3 zDs, 44⟩
noncomputable def V2 (D : ChainD) (chain : List Str) (U : UsesD) (S : CS) : List AObj :=
 .loopo (B3 U.fnU) [(3, .ptr 15 0), (2, .ptr 16 0), (25, .own 17 2 0 2), (27, iV U.j), (26, iV 2), (11, iV U.i), (10, iV U.l.length), (9, w6 U.l)] (some none) :: (l8 1 D chain S ++ [.box [.yld 1], .box [sV U.k], .row 2 (zAo U.u U.v)])
attribute [go_sem] l8 V2
theorem zHA {k a b : Str} {i : Nat} (h : i ≤ k.length) : W7 k a b i = (if a.isPrefixOf (k.drop i) = true ∧ w5 (k.take i ++ b ++ k.drop (i + a.length)) 1 12 = true then [k.take i ++ b ++ k.drop (i + a.length)] else []) ++ W7 k a b (i + 1) := by
 unfold W7
 rw [show k.length + 1 - i = (k.length + 1 - (i + 1)) + 1 by omega, List.range'_succ, List.flatMap_cons]
theorem zG9 {k a b : Str} {i : Nat} (h : k.length < i) : W7 k a b i = [] := by
 unfold W7
 rw [show k.length + 1 - i = 0 by omega]; rfl
theorem zC7 {a x : Str} (h : a.isPrefixOf x = true) : a.length ≤ x.length := (List.isPrefixOf_iff_prefix.1 h).length_le
theorem zIW (D : ChainD) (chain : List Str) (U : UsesD) (zMs : CS → Prop) (step : CS → Str → CS)
  (hy : ∀ S s, zMs S → w5 s 1 12 = true → e9 prog [sV s] (V2 D chain U S) (bV true) (V2 D chain U (step S s))) (hg : ∀ S s, zMs S → w5 s 1 12 = true → zMs (step S s))
  (k a b : Str) (hk1 : k.length ≤ 1000) (ha : a.length ≤ 1000) (hb1 : b.length ≤ 1000) (S0 : CS) (hS : zMs S0) :
  zMf prog 190 [.yld 0, .ptr 18 0, .ptr 19 0, .ptr 20 0] (V2 D chain U S0 ++ [.box [sV k], .box [sV a], .box [sV b]]) (.tup []) (V2 D chain U ((i3 k a b).foldl step S0) ++ [.box [sV k], .box [sV a], .box [sV b]]) := by
 obtain ⟨T, hT⟩ : ∃ T, (i3 k a b).foldl step S0 = T := ⟨_, rfl⟩
 rw [hT]
 have h0 : (W7 k a b 0).foldl step S0 = T := hT
 clear hT
 simp only [V2, l8, List.cons_append, List.nil_append]
 refine q9 func190 rfl (fun E hE => ?_); simp only [go_sem, ntmps190]
 repeat' (first | (refine Qr rfl ?_; try intro _ hK; try simp only [go_sem, *]) | (refine Qi rfl rfl rfl rfl ?_ ?_ <;> (intro hb; (try intro _ hK); have hc := hb; try simp only [go_sem] at hc; simp only [go_sem, *])) | refine Qh rfl ?_ | (refine Qc rfl rfl ?_ ?_ <;> (intro hb; have hc := hb; try simp only [go_sem] at hc)) | refine q8 rfl ?_ | (refine Qb ?_ ?_; focus kernel_rfl) | ((with_reducible apply And.intro); focus omega) | (refine q7 hK ?_; clear hK; simp only [go_sem, *]) | simp only [q6, z8, go_sem, *])
 refine a7 rfl (k.length + 1) (fun i (S : CS) => (W7 k a b i).foldl step S = T ∧ zMs S) 40 (fun i S => [(10, iV i), (9, iV ((k.length + 1 : Nat) : Int)), (0, .yld 0), (1, .ptr 18 0), (2, .ptr 19 0), (3, .ptr 20 0)]) (fun i S => V2 D chain U S ++ [.box [sV k], .box [sV a], .box [sV b]]) [some 0, some 1, some 2, some 3, some 4, some 5, some 6, some 7, some 8, some 9, some 10, some 11, some 12, some 13, some 14, some 15, some 16, some 17, some 18, some 19, some 20] [] (S0) (by exact ⟨h0, hS⟩) ?_; intro i S hi hP
 obtain ⟨hP, hG⟩ := hP
 by_cases hi2 : i ≤ k.length
 ·have hp := zHt (k.drop i) a (by simp; omega) (by omega)
  rw [zHA hi2] at hP
  by_cases q : a.isPrefixOf (k.drop i) = true
  ·rw [q] at hp
   have hle := zC7 q
   have hil : i + a.length ≤ k.length := by simp at hle; omega
   have hwl : IntKind.i64.wrap ((i : Int) + (a.length : Int)) = ((i + a.length : Nat) : Int) := by rw [wrap_i64 (by omega) (by omega)]; omega
   obtain ⟨t, ht⟩ : ∃ t, k.take i ++ b ++ k.drop (i + a.length) = t := ⟨_, rfl⟩
   have htl : t.length ≤ 3000 := by rw [← ht]; simp; omega
   have sl := zA3 t 1 12 (by omega)
   rw [ht] at hP
   by_cases ql : w5 t 1 12 = true
   ·rw [if_pos ⟨q, ql⟩] at hP
    have hstep := hP
    rw [List.foldl_append] at hstep
    have hyt := hy S t hG ql
    have hgt := hg S t hG ql
    rw [ql] at sl
    clear q hle hP hg hy
    repeat' (first | ((refine G0 5 rfl rfl rfl ?_; simp only [List.take_succ_cons, List.take_zero, List.drop_succ_cons, List.drop_zero])) | (refine Qr rfl ?_; try intro _ hK; try simp only [go_sem, *]) | (refine Qi rfl rfl rfl rfl ?_ ?_ <;> (intro hb; (try intro _ hK); have hc := hb; try simp only [go_sem] at hc; simp only [go_sem, *])) | refine Qh rfl ?_ | refine Qd rfl (by kernel_rfl) ?_ | (refine Qc rfl rfl ?_ ?_ <;> (intro hb; have hc := hb; try simp only [go_sem] at hc)) | refine q8 rfl ?_ | (refine Qb ?_ ?_; focus kernel_rfl) | ((first | refine y5 (hp) ?_ | refine y5 (sl) ?_); simp only [go_sem, *]) | ((with_reducible apply And.intro); focus omega) | (refine q7 hK ?_; clear hK; simp only [go_sem, *]) | simp only [q6, z8, go_sem, *])
    all_goals first | contradiction | omega | skip
    refine zCC rfl rfl (by simp only [go_sem]) ?_
    refine B6 [0, 1, 2, 3, 4, 5, 6, 7, 8, 9, 10, 11, 12, 13, 14, 15, 16, 17] [] hyt rfl rfl (by simp) (by simp only [go_sem]) (by simp only [go_sem]) (by simp) (.inl rfl) (by simp [go_sem]) (by simp [go_sem]) ?_
    simp only [go_sem]
    repeat' (first | (refine Qr rfl ?_; try intro _ hK; try simp only [go_sem, *]) | (refine Qi rfl rfl rfl rfl ?_ ?_ <;> (intro hb; (try intro _ hK); have hc := hb; try simp only [go_sem] at hc; simp only [go_sem, *])) | refine Qh rfl ?_ | refine Qd rfl (by kernel_rfl) ?_ | (refine Qc rfl rfl ?_ ?_ <;> (intro hb; have hc := hb; try simp only [go_sem] at hc)) | refine q8 rfl ?_ | (refine Qb ?_ ?_; focus kernel_rfl) | ((with_reducible apply And.intro); focus omega) | (refine q7 hK ?_; clear hK; simp only [go_sem, *]) | simp only [q6, z8, go_sem, *])
    all_goals first | contradiction | omega | skip
    exact n0 (i' := i + 1) [some 0, some 1, some 2, some 3, some 4, some 5, some 6, some 7, some 8, some 9, some 10, some 11, some 12, some 13, some 14, some 15, some 16, some 17, some 18, some 19, some 20] [] (step S t) (by exact ⟨hstep, hgt⟩)
   ·have ql2 : w5 t 1 12 = false := (Bool.not_eq_true _).mp ql
    rw [if_neg (fun h => ql h.2), List.nil_append] at hP
    rw [ql2] at sl
    clear q hle hg hy ql ql2
    repeat' (first | ((refine G0 5 rfl rfl rfl ?_; simp only [List.take_succ_cons, List.take_zero, List.drop_succ_cons, List.drop_zero])) | (refine Qr rfl ?_; try intro _ hK; try simp only [go_sem, *]) | (refine Qi rfl rfl rfl rfl ?_ ?_ <;> (intro hb; (try intro _ hK); have hc := hb; try simp only [go_sem] at hc; simp only [go_sem, *])) | refine Qh rfl ?_ | refine Qd rfl (by kernel_rfl) ?_ | (refine Qc rfl rfl ?_ ?_ <;> (intro hb; have hc := hb; try simp only [go_sem] at hc)) | refine q8 rfl ?_ | (refine Qb ?_ ?_; focus kernel_rfl) | ((first | refine y5 (hp) ?_ | refine y5 (sl) ?_); simp only [go_sem, *]) | ((with_reducible apply And.intro); focus omega) | (refine q7 hK ?_; clear hK; simp only [go_sem, *]) | simp only [q6, z8, go_sem, *])
    all_goals first | contradiction | omega | skip
    refine zCA rfl rfl (by simp only [go_sem]) ?_
    repeat' (first | (refine Qr rfl ?_; try intro _ hK; try simp only [go_sem, *]) | (refine Qi rfl rfl rfl rfl ?_ ?_ <;> (intro hb; (try intro _ hK); have hc := hb; try simp only [go_sem] at hc; simp only [go_sem, *])) | refine Qh rfl ?_ | refine Qd rfl (by kernel_rfl) ?_ | (refine Qc rfl rfl ?_ ?_ <;> (intro hb; have hc := hb; try simp only [go_sem] at hc)) | refine q8 rfl ?_ | (refine Qb ?_ ?_; focus kernel_rfl) | ((with_reducible apply And.intro); focus omega) | (refine q7 hK ?_; clear hK; simp only [go_sem, *]) | simp only [q6, z8, go_sem, *])
    all_goals first | contradiction | omega | skip
    exact n0 (i' := i + 1) [some 0, some 1, some 2, some 3, some 4, some 5, some 6, some 7, some 8, some 9, some 10, some 11, some 12, some 13, some 14, some 15, some 16, some 17, some 18, some 19, some 20] [] (S) (by exact ⟨hP, hG⟩)
  ·have q2 : a.isPrefixOf (k.drop i) = false := (Bool.not_eq_true _).mp q
   rw [if_neg (fun h => q h.1), List.nil_append] at hP
   rw [q2] at hp
   clear q q2
   repeat' (first | (refine Qr rfl ?_; try intro _ hK; try simp only [go_sem, *]) | (refine Qi rfl rfl rfl rfl ?_ ?_ <;> (intro hb; (try intro _ hK); have hc := hb; try simp only [go_sem] at hc; simp only [go_sem, *])) | refine Qh rfl ?_ | refine Qd rfl (by kernel_rfl) ?_ | (refine Qc rfl rfl ?_ ?_ <;> (intro hb; have hc := hb; try simp only [go_sem] at hc)) | refine q8 rfl ?_ | (refine Qb ?_ ?_; focus kernel_rfl) | (refine y5 (hp) ?_; simp only [go_sem, *]) | ((with_reducible apply And.intro); focus omega) | (refine q7 hK ?_; clear hK; simp only [go_sem, *]) | simp only [q6, z8, go_sem, *])
   all_goals first | contradiction | omega | skip
   exact n0 (i' := i + 1) [some 0, some 1, some 2, some 3, some 4, some 5, some 6, some 7, some 8, some 9, some 10, some 11, some 12, some 13, some 14, some 15, some 16, some 17, some 18, some 19, some 20] [] (S) (by exact ⟨hP, hG⟩)
 ·rw [zG9 (by omega)] at hP
  have hP : S = T := hP
  subst hP
  repeat' (first | (refine Qr rfl ?_; try intro _ hK; try simp only [go_sem, *]) | (refine Qi rfl rfl rfl rfl ?_ ?_ <;> (intro hb; (try intro _ hK); have hc := hb; try simp only [go_sem] at hc; simp only [go_sem, *])) | refine Qh rfl ?_ | refine Qd rfl (by kernel_rfl) ?_ | (refine Qc rfl rfl ?_ ?_ <;> (intro hb; have hc := hb; try simp only [go_sem] at hc)) | refine q8 rfl ?_ | (refine Qb ?_ ?_; focus kernel_rfl) | ((with_reducible apply And.intro); focus omega) | (refine q7 hK ?_; clear hK; simp only [go_sem, *]) | simp only [q6, z8, go_sem, *])
  all_goals first | contradiction | omega | skip
  refine ⟨[], [some 0, some 1, some 2, some 3, some 4, some 5, some 6, some 7, some 8, some 9, some 10, some 11, some 12, some 13, some 14, some 15, some 16, some 17, some 18, some 19, some 20], [], trivial, ?_⟩
  simp only [go_sem, f9, *]
end Go.Abs

