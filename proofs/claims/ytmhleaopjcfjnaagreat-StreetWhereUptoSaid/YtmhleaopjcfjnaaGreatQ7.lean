/-
  WHAT THE PROOF STANDS ON, PART 7: contracts of the program's functions and the logic that they are proved in. No condition.
-/
import Derived.Test.YtmhleaopjcfjnaaGreatRows
import Derived.ProofKit
import Derived.OpenShut
import Derived.JoinedCond
import Derived.ChangeSlices
import Derived.Carry
import Derived.Test.YtmhleaopjcfjnaaGreatQ6
set_option maxRecDepth 100000
set_option maxHeartbeats 4000000
set_option linter.unusedVariables false
set_option linter.unusedSimpArgs false
set_option linter.unusedSectionVars false
namespace Go.Abs
open Go Go.Proofs Go.Proofs.YtmhleaopjcfjnaaGreat Go.ChangeShapes Go.WideShapes Go.ChangeAt Go.RowKit
theorem zR5 : ownKnob Tryz.prog.godebug = none := by kernel_rfl
theorem zRd : laidOutB Tryz.prog = true := by kernel_rfl
abbrev zRp (w : World) : Nat → Prop := fun b => b < w.heap.size
theorem zQ5 (w : World) : SR (Y7 w (zRp w) 0 (fun _ => .un)) (zRp w) (fun _ => .un) (hs []) J3 w :=
 ⟨.nil, rfl, fun t => .pure (.any _), fun o => rfl, fun o o' b c c' h => by simp [hs, zLy, AS.obj, lkO, AObj.live] at h, fun b hb => hb, fun o b c h => by simp [hs, zLy, AS.obj, lkO, AObj.live] at h,
  ⟨rfl, rfl, rfl, Nat.le_refl _, fun b _ _ => rfl, Nat.le_refl _⟩, fun b hb => hb, fun b hb => .inl hb, fun k hk => absurd hk (Nat.not_lt_zero k)⟩
theorem zRb {f : FuncId} {args : List AV} (sp : zLp Tryz.prog f args [] (bV true) []) (w : World) (vs : Array Value) (hl : vs.size = args.length) (hv : ∀ i (h : i < args.length) (h' : i < vs.size), PR w (zRp w) args[i] vs[i]) :
  Calls Tryz.prog f vs w fun e w' => e = .returned (.bool true) ∧ Below w.heap.size w w' := by
 refine (sp w (zRp w) (fun _ => .un) vs (zQ5 w) hl (fun i h h' => .pure (hv i h h'))).mono ?_
 rintro e w' ⟨v, I', loc', rfl, hp⟩
 have hr := hp.val.raw_eq
 subst hr
 have fr := hp.sr.fr
 exact ⟨rfl, fr.os, fr.tape, fr.output, fr.size, fun k hk => fr.block k hk (fun ⟨j, c, hj, _⟩ => absurd hj (Nat.not_lt_zero j))⟩
theorem zQN {H : Type} (d : DataW H) : 1 ≤ Rows.uptoBulk d := by
 cases d with
 | lit l => cases l <;> simp [Rows.uptoBulk]
 | _ => simp [Rows.uptoBulk]
theorem zOn {H : Type} (l : List (DataW H)) : l.length ≤ Rows.uptoBulkAll l := by
 induction l with
 | nil => simp [Rows.uptoBulkAll]
 | cons x r ih => have := zQN x; simp only [Rows.uptoBulkAll, List.length_cons]; omega
theorem zRP {H : Type} {enc : TypeId × Value → H} {W : World} {v : Value} {d : DataW H} {ps : List MemPlace} (hval : Value.okWide Tryz.prog W .any 0 29 v ∨ ∃ base, Value.okWide Tryz.prog W .any base 29 v)
    (h : DataW.Trod enc Tryz.prog W 0 (fun _ => true) true 29 v d ps) (hk : Rows.uptoBulk d ≤ 1048576) : ∃ l : List Int, PR W (zRp W) (.list (l.map iV)) v ∧ l.length ≤ 1048576 := by
  have hsl : ∃ a len cap, v = .slice a len cap := by
    rcases hval with hval | ⟨base, hval⟩
    · exact okWide_slice Tryz.underlying29 hval
    · exact okWide_slice Tryz.underlying29 hval
  obtain ⟨a, len, cap, rfl⟩ := hsl
  obtain ⟨fuel, hf⟩ := h
  have hc : Tryz.prog.cellsOf 3 = 1 := by kernel_rfl
  rcases open_ints Tryz.underlying29 Tryz.underlying3 hc hf with ⟨hcs, _⟩ | ⟨a0, len0, cap0, zs, hcs, _, hle, hm, hz, hx, hcell, hwz⟩
  · have e : Value.slice a len cap = .slice none 0 0 := by simpa [Value.cells] using hcs
    rw [e]
    exact ⟨[], .nil _ _, by simp⟩
  · have e : Value.slice a len cap = .slice (some a0) len0 cap0 := by simpa [Value.cells] using hcs
    rw [e]
    simp only [if_true] at hz
    have hd := congrArg Prod.fst hx
    simp only at hd
    subst hd
    have hlen : (zs.take len0).length = len0 := by simp; omega
    refine ⟨zs.take len0, ?_, ?_⟩
    · by_cases h0 : len0 = 0
      · subst h0; exact .nil _ _
      · have h1 := hcell 0 (by omega)
        have hspot : a0.spot = none := by
          unfold World.cell? at h1
          split at h1
          · split at h1
            · cases h1
            · rename_i hs
              simpa [Addr.add] using hs
          · cases h1
        have hblk : a0.block < W.heap.size := by
          unfold World.cell? at h1
          split at h1
          · rename_i hb
            have := (Array.getElem?_eq_some_iff.1 hb).1
            simpa [Addr.add] using this
          · cases h1
        obtain ⟨b, off, sp⟩ := a0
        simp only at hspot hblk
        subst hspot
        have key := PR.list (w := W) (I := zRp W) b off cap0 1 ((zs.take len0).map iV) (fun i _ => .int .i64 (zs.getD i 0)) hblk (by omega) (by simp; omega) (fun i hi => by simp [AV.cells])
          (fun i j hi hj => by
            have hi' : i < zs.length := by simp at hi; omega
            have := hcell i hi'
            have hj0 : j = 0 := by omega
            subst hj0
            have ea : (⟨b, off, none⟩ : Addr).add i = ⟨b, off + i * 1 + 0, none⟩ := by
              unfold Addr.add
              split
              · rename_i h; subst h; simp
              · simp
            rw [ea] at this; exact this)
          (fun i hi j hj => by
            have hi' : i < zs.length := by simp at hi; omega
            have hj0 : j = 0 := by simp [AV.cells] at hj; omega
            subst hj0
            have e2 : (((zs.take len0).map iV)[i]).cells[0] = iV (zs.getD i 0) := by simp [AV.cells, List.getD, hi']
            rw [e2]
            exact .raw _ rfl)
        rw [List.length_map, hlen] at key
        exact key
    · have h1 : (zs.take len0).length ≤ Rows.uptoBulkAll (H := H) (lits .i64 (zs.take len0)) := by
        have := zOn (H := H) (lits .i64 (zs.take len0))
        simpa [lits] using this
      simp only [Rows.uptoBulk] at hk
      omega
end Go.Abs

namespace Go.Abs
open Go Go.Proofs Go.Proofs.YtmhleaopjcfjnaaGreat Go.ChangeShapes Go.WideShapes Go.ChangeAt Go.RowKit
inductive Sh where
 | int
 | sl (b : Bool) (e : Sh)
 | st (body : Sh)
 | emp
 | cat (x y : Sh)
def Sh.n : Sh → Nat
 | .int => 1
 | .sl _ _ => 1
 | .st b => b.n
 | .emp => 0
 | .cat x y => x.n + y.n
def Sh.ok : Sh → TypeId ⊕ (List Field × Nat) → Prop
 | .int, .inl t => Tryz.prog.underlying t = some (.int .i64)
 | .sl b e, .inl t => ∃ u, Tryz.prog.underlying t = some (.slice u) ∧ Tryz.prog.cellsOf u = e.n ∧ 0 < e.n ∧ (b = true → e.n = 1) ∧ e.ok (.inl u)
 | .st b, .inl t => ∃ fs, Tryz.prog.underlying t = some (.struct fs) ∧ Tryz.prog.cellsOf t = b.n ∧ b.ok (.inr (fs.toList, 0))
 | .emp, .inr (l, _) => l = []
 | .cat x y, .inr (l, off) => ∃ f r, l = f :: r ∧ f.offset = off ∧ Tryz.prog.cellsOf f.type = x.n ∧ x.ok (.inl f.type) ∧ y.ok (.inr (r, off + x.n))
 | _, _ => False
def TyC (N : Nat) : Sh → List AV → Prop
 | .int, c => ∃ n : Int, (Lit.int .i64 n).wf = true ∧ c = [iV n]
 | .sl b e, c => ∃ xs, c = [.list xs] ∧ xs.length ≤ N ∧ ∀ x, x ∈ xs → ∃ d, TyC N e d ∧ x = if b = true then d.getD 0 .any else .agg d
 | .st b, c => TyC N b c
 | .emp, c => c = []
 | .cat x y, c => ∃ c1 c2, c = c1 ++ c2 ∧ TyC N x c1 ∧ TyC N y c2
theorem TyC.len {N : Nat} : ∀ {s : Sh} {c : List AV}, TyC N s c → c.length = s.n
 | .int, c, ⟨n, _, h⟩ => by subst h; rfl
 | .sl b e, c, ⟨xs, h, _⟩ => by subst h; rfl
 | .st b, c, h => TyC.len (s := b) h
 | .emp, c, h => by cases (show c = [] from h); rfl
 | .cat x y, c, ⟨c1, c2, h, h1, h2⟩ => by subst h; rw [List.length_append, TyC.len h1, TyC.len h2]; rfl
end Go.Abs

namespace Go.Abs
open Go Go.Proofs Go.Proofs.YtmhleaopjcfjnaaGreat Go.ChangeShapes Go.WideShapes Go.ChangeAt Go.RowKit
theorem zOX {H : Type} {d : DataW H} : ∀ {l : List (DataW H)}, d ∈ l → Rows.uptoBulk d ≤ Rows.uptoBulkAll l
 | x :: r, h => by
  simp only [Rows.uptoBulkAll]
  rcases List.mem_cons.1 h with rfl | h
  ·omega
  ·have := zOX h; omega
theorem zPh {W : World} {a : Addr} {v : Value} (h : W.cell? a = some v) : a.spot = none ∧ a.block < W.heap.size := by
 unfold World.cell? at h
 split at h
 ·rename_i hb
  split at h
  ·cases h
  ·rename_i hs
   exact ⟨by simpa using hs, (Array.getElem?_eq_some_iff.1 hb).1⟩
 ·cases h
theorem pick {α : Type} [Inhabited α] {len : Nat} {p : Nat → α → Prop} (h : ∀ i, i < len → ∃ a, p i a) : ∃ F : Nat → α, ∀ i, i < len → p i (F i) :=
 ⟨fun i => if h' : i < len then Classical.choose (h i h') else default, fun i hi => by simp only [hi, dif_pos]; exact Classical.choose_spec (h i hi)⟩
theorem TyC.bare {N : Nat} : ∀ {s : Sh} {c : List AV}, TyC N s c → ∀ x, x ∈ c → x.cells = [x]
 | .int, c, ⟨n, _, h⟩, x, hx => by subst h; cases List.mem_singleton.1 hx; rfl
 | .sl b e, c, ⟨xs, h, _⟩, x, hx => by subst h; cases List.mem_singleton.1 hx; rfl
 | .st b, c, h, x, hx => TyC.bare (s := b) h x hx
 | .emp, c, h, x, hx => by cases (show c = [] from h); cases hx
 | .cat a b, c, ⟨c1, c2, h, h1, h2⟩, x, hx => by
  subst h
  rcases List.mem_append.1 hx with h | h
  ·exact TyC.bare h1 x h
  ·exact TyC.bare h2 x h
section
variable {H : Type} {enc : TypeId × Value → H} {W : World} {N : Nat}
noncomputable abbrev trd (enc : TypeId × Value → H) (W : World) (n : Nat) (t : TypeId) (cs : List Value) := DataW.trod enc Tryz.prog W 0 (fun _ => true) true n t cs
def zNb (W : World) (c : List AV) (cs : List Value) : Prop := c.length = cs.length ∧ ∀ i (h : i < c.length) (h' : i < cs.length), PR W (zRp W) c[i] cs[i]
theorem zQS {n : Nat} {t : TypeId} {cs : List Value} {x : DataW H × List MemPlace} (ht : Sh.ok .int (.inl t)) (h : trd enc W n t cs = some x) : ∃ c, TyC N .int c ∧ zNb W c cs := by
 obtain ⟨k, rfl, _, hw⟩ := DataW.trod_int ht h
 exact ⟨[iV k], ⟨k, hw, rfl⟩, rfl, fun i h h' => by
  have : i = 0 := by simp at h; omega
  subst this
  exact .raw _ rfl⟩
theorem zQT {e : Sh} {u : TypeId} {n : Nat} (b : Bool) (hu : Tryz.prog.cellsOf u = e.n) (h0 : 0 < e.n) (hb : b = true → e.n = 1)
  (ih : ∀ (cs : List Value) (x : DataW H × List MemPlace), trd enc W n u cs = some x → Rows.uptoBulk x.1 ≤ N → ∃ c, TyC N e c ∧ zNb W c cs)
  {a : Addr} {len cap : Nat} {elems : List (DataW H × List MemPlace)} (hlen : elems.length = len) (hcap : len ≤ cap) (hk : Rows.uptoBulkAll (elems.map (·.1)) ≤ N)
  (hel : ∀ i, i < len → (W.cells? 0 (a.add (i * Tryz.prog.cellsOf u)) (Tryz.prog.cellsOf u)).bind (trd enc W n u) = elems[i]?) :
  ∃ xs : List AV, xs.length ≤ N ∧ (∀ x, x ∈ xs → ∃ d, TyC N e d ∧ x = if b = true then d.getD 0 .any else .agg d) ∧ PR W (zRp W) (.list xs) (.slice (some a) len cap) := by
 have hN : len ≤ N := by have := zOn (elems.map (·.1)); rw [List.length_map] at this; omega
 have each : ∀ i, i < len → ∃ cs : List Value, ∃ d : List AV, W.cells? 0 (a.add (i * e.n)) e.n = some cs ∧ TyC N e d ∧ zNb W d cs := fun i hi => by
  have h := hel i hi
  rw [List.getElem?_eq_getElem (by omega), hu, Option.bind_eq_some_iff] at h
  obtain ⟨cs, h1, h2⟩ := h
  obtain ⟨d, h3, h4⟩ := ih cs _ h2 (Nat.le_trans (zOX (List.mem_map.2 ⟨_, List.getElem_mem _, rfl⟩)) hk)
  exact ⟨cs, d, h1, h3, h4⟩
 obtain ⟨V, hV⟩ := pick each
 obtain ⟨D, hD⟩ := pick (p := fun i d => W.cells? 0 (a.add (i * e.n)) e.n = some (V i) ∧ TyC N e d ∧ zNb W d (V i)) hV
 have hcs : ∀ i, i < len → (if b = true then (D i).getD 0 .any else AV.agg (D i)).cells = D i := fun i hi => by
  cases b with
  | false => rfl
  | true =>
   have hl := (hD i hi).2.1.len
   rw [hb rfl] at hl
   obtain ⟨y, hy⟩ := List.length_eq_one_iff.1 hl
   rw [if_pos rfl, hy]
   exact (hD i hi).2.1.bare y (by rw [hy]; simp)
 refine ⟨(List.range len).map fun i => if b = true then (D i).getD 0 .any else .agg (D i), by simpa using hN, fun x hx => ?_, ?_⟩
 ·obtain ⟨i, hi, rfl⟩ := List.mem_map.1 hx
  exact ⟨D i, (hD i (List.mem_range.1 hi)).2.1, rfl⟩
 ·by_cases h0l : len = 0
  ·subst h0l; exact .nil _ _
  ·have rd : ∀ i j, i < len → j < e.n → W.cell? ((a.add (i * e.n)).add j) = (V i)[j]? := fun i j hi hj => (World.cells?_some (hD i hi).1).2.2 j hj
   have vl : ∀ i, i < len → (V i).length = e.n := fun i hi => (World.cells?_some (hD i hi).1).2.1
   have h00 : W.cell? ((a.add (0 * e.n)).add 0) = some ((V 0)[0]'(by rw [vl 0 (by omega)]; exact h0)) := by rw [rd 0 0 (by omega) h0, List.getElem?_eq_getElem]
   obtain ⟨hs, hblk⟩ := zPh h00
   obtain ⟨bb, off, sp⟩ := a
   have hsp : sp = none := by simpa [Addr.add] using hs
   have hbb : bb < W.heap.size := by simpa [Addr.add] using hblk
   subst hsp
   have ad : ∀ i j, ((⟨bb, off, none⟩ : Addr).add (i * e.n)).add j = ⟨bb, off + i * e.n + j, none⟩ := fun i j => by
    have one : ∀ o k, (⟨bb, o, none⟩ : Addr).add k = ⟨bb, o + k, none⟩ := fun o k => by
     by_cases hk : k = 0
     ·subst hk; simp [Addr.add]
     ·simp [Addr.add, hk]
    rw [one, one]
   have gd : ∀ (l : List Value) (k : Nat) (h : k < l.length), l.getD k undef = l[k] := fun l k h => by simp [List.getD, h]
   have key := PR.list (w := W) (I := zRp W) bb off cap e.n ((List.range len).map fun i => if b = true then (D i).getD 0 .any else .agg (D i)) (fun i j => (V i).getD j undef) hbb h0 (by simpa using hcap)
    (fun i hi => by
     have hi' : i < len := by simpa using hi
     rw [List.getElem_map, List.getElem_range, hcs i hi', (hD i hi').2.1.len])
    (fun i j hi hj => by
     have hi' : i < len := by simpa using hi
     have := rd i j hi' hj
     rw [ad, List.getElem?_eq_getElem (by rw [vl i hi']; exact hj)] at this
     rw [this, gd _ _ (by rw [vl i hi']; exact hj)])
    (fun i hi j hj => by
     have hi' : i < len := by simpa using hi
     have e2 : (((List.range len).map fun i => if b = true then (D i).getD 0 .any else .agg (D i))[i]).cells = D i := by
      rw [List.getElem_map, List.getElem_range]; exact hcs i hi'
     have hj2 : j < (D i).length := by rw [← e2]; exact hj
     have hj3 : j < (V i).length := by rw [← (hD i hi').2.2.1]; exact hj2
     have := (hD i hi').2.2.2 j hj2 hj3
     rw [gd _ _ hj3]
     simpa only [e2] using this)
   rw [List.length_map, List.length_range] at key
   exact key
theorem zQR : ∀ (s : Sh),
  (∀ (t : TypeId) (n : Nat) (cs : List Value) (x : DataW H × List MemPlace), s.ok (.inl t) → trd enc W n t cs = some x → Rows.uptoBulk x.1 ≤ N → ∃ c, TyC N s c ∧ zNb W c cs) ∧
  (∀ (l : List Field) (off n : Nat) (cs : List Value) (xs : List (DataW H × List MemPlace)), s.ok (.inr (l, off)) → xs.length = l.length → (∀ (i : Nat) (f : Field), l[i]? = some f → trd enc W n f.type ((cs.drop f.offset).take (Tryz.prog.cellsOf f.type)) = xs[i]?) →
   Rows.uptoBulkAll (xs.map (·.1)) ≤ N → cs.length = off + s.n → ∃ c, TyC N s c ∧ zNb W c (cs.drop off)) := by
 intro s
 induction s with
 | int => exact ⟨fun t n cs x ht h _ => zQS ht h, fun l off n cs xs h => h.elim⟩
 | sl b e ih =>
  refine ⟨fun t n cs x ht h hk => ?_, fun l off n cs xs h => h.elim⟩
  obtain ⟨u, ht, hu, h0, hb, he⟩ := ht
  rcases DataW.trod_slice ht h with ⟨rfl, _⟩ | ⟨a, len, cap, elems, rest, m, _, rfl, rfl, _, hl, _, hlen, hel, _, _⟩
  ·refine ⟨[.list []], ⟨[], rfl, Nat.zero_le _, fun x hx => by cases hx⟩, rfl, fun i h h' => ?_⟩
   have : i = 0 := by simp at h; omega
   subst this
   exact .nil _ _
  ·simp only [Rows.uptoBulk] at hk
   obtain ⟨xs, h1, h2, h3⟩ := zQT b hu h0 hb (fun cs x hx hk => ih.1 u m cs x he hx hk) hlen hl (by omega) hel
   refine ⟨[.list xs], ⟨xs, rfl, h1, h2⟩, rfl, fun i h h' => ?_⟩
   have : i = 0 := by simp at h; omega
   subst this
   exact h3
 | st body ih =>
  refine ⟨fun t n cs x ht h hk => ?_, fun l off n cs xs h => h.elim⟩
  obtain ⟨fs, ht, hc, hb⟩ := ht
  obtain ⟨xs, m, _, rfl, hcl, hxl, hf⟩ := DataW.trod_struct ht h
  simp only [Rows.uptoBulk] at hk
  obtain ⟨c, h1, h2⟩ := ih.2 fs.toList 0 m cs xs hb (by simpa using hxl) (fun i f hi => hf i f (by simpa using hi)) (by omega) (by rw [hcl, hc]; simp)
  exact ⟨c, h1, by simpa using h2⟩
 | emp =>
  refine ⟨fun t n cs x ht => ht.elim, fun l off n cs xs h _ _ _ hl => ⟨[], rfl, ?_⟩⟩
  have : cs.drop off = [] := List.drop_eq_nil_of_le (by rw [hl]; exact Nat.le_refl _)
  rw [this]
  exact ⟨rfl, fun i h => by cases h⟩
 | cat a b iha ihb =>
  refine ⟨fun t n cs x ht => ht.elim, fun l off n cs xs h hxl hf hk hl => ?_⟩
  obtain ⟨f, r, rfl, ho, hc, ha, hb⟩ := h
  cases xs with
  | nil => simp at hxl
  | cons y ys =>
   simp only [List.map_cons, Rows.uptoBulkAll] at hk
   have h0 := hf 0 f rfl
   rw [ho, hc] at h0
   obtain ⟨c1, p1, p2⟩ := iha.1 f.type n _ y ha h0 (by omega)
   obtain ⟨c2, q1, q2⟩ := ihb.2 r (off + a.n) n cs ys hb (by simpa using hxl) (fun i g hi => by simpa using hf (i + 1) g (by simpa using hi)) (by omega) (by rw [hl]; simp only [Sh.n]; omega)
   refine ⟨c1 ++ c2, ⟨c1, c2, rfl, p1, q1⟩, ?_⟩
   have e : cs.drop off = (cs.drop off).take a.n ++ cs.drop (off + a.n) := by rw [← List.drop_drop, List.take_append_drop]
   rw [e]
   refine ⟨by rw [List.length_append, List.length_append, p2.1, q2.1], fun i h h' => ?_⟩
   by_cases hi : i < c1.length
   ·have hi' := hi
    rw [p2.1] at hi'
    rw [List.getElem_append_left hi, List.getElem_append_left hi']
    exact p2.2 i hi hi'
   ·have hi' : ((cs.drop off).take a.n).length ≤ i := by rw [← p2.1]; omega
    rw [List.getElem_append_right (by omega), List.getElem_append_right hi']
    have e1 : i - ((cs.drop off).take a.n).length = i - c1.length := by rw [p2.1]
    have := q2.2 (i - c1.length) (by simp at h; omega) (by rw [← q2.1]; simp at h; omega)
    simpa only [e1] using this
end
end Go.Abs

namespace Go.Abs
open Go Go.Proofs Go.Proofs.YtmhleaopjcfjnaaGreat Go.ChangeShapes Go.WideShapes Go.ChangeAt Go.RowKit
theorem zOt {P : Program} {w : World} {r : Reach} {base : Nat} {t : TypeId} {v : Value} {fs : Array Field} (ht : P.underlying t = some (.struct fs)) (h : Value.okWide P w r base t v) : ∃ cs, v = .agg cs := by
 simp only [Value.okWide, ht] at h
 cases v <;> simp_all
theorem zOR {H : Type} {enc : TypeId × Value → H} {W : World} {N : Nat} {v : Value} {d : DataW H} {ps : List MemPlace} (b : Sh) (t : TypeId) (hs : (Sh.st b).ok (.inl t)) (hval : Value.okWide Tryz.prog W .any 0 t v ∨ ∃ base, Value.okWide Tryz.prog W .any base t v)
  (h : DataW.Trod enc Tryz.prog W 0 (fun _ => true) true t v d ps) (hk : Rows.uptoBulk d ≤ N) : ∃ c, TyC N b c ∧ PR W (zRp W) (.agg c) v := by
 obtain ⟨cs, rfl⟩ : ∃ cs, v = .agg cs := by
  obtain ⟨fs, ht, _⟩ := hs
  rcases hval with hval | ⟨base, hval⟩
  ·exact zOt ht hval
  ·exact zOt ht hval
 obtain ⟨fuel, hf⟩ := h
 obtain ⟨c, h1, h2⟩ := (zQR (.st b)).1 t fuel _ _ hs hf hk
 refine ⟨c, h1, .agg c cs (by simpa [Value.cells] using h2.1) (fun i hi hi' => ?_)⟩
 have := h2.2 i hi (by simpa [Value.cells] using hi')
 simpa [Value.cells] using this
abbrev zNT : Sh := .st (.cat .int (.cat .int .emp))
abbrev zOU : Sh := .cat (.sl true (.sl false zNT)) .emp
noncomputable def Sh.okB : Sh → TypeId ⊕ (List Field × Nat) → Bool
 | .int, .inl t => match Tryz.prog.underlying t with
  | some (.int .i64) => true
  | _ => false
 | .sl b e, .inl t => match Tryz.prog.underlying t with
  | some (.slice u) => Tryz.prog.cellsOf u == e.n && (decide (0 < e.n) && ((!b || e.n == 1) && e.okB (.inl u)))
  | _ => false
 | .st b, .inl t => match Tryz.prog.underlying t with
  | some (.struct fs) => Tryz.prog.cellsOf t == b.n && b.okB (.inr (fs.toList, 0))
  | _ => false
 | .emp, .inr (l, _) => l.isEmpty
 | .cat x y, .inr (l, off) => match l with
  | f :: r => f.offset == off && (Tryz.prog.cellsOf f.type == x.n && (x.okB (.inl f.type) && y.okB (.inr (r, off + x.n))))
  | [] => false
 | _, _ => false
theorem Sh.ok_of : ∀ (s : Sh) (z : TypeId ⊕ (List Field × Nat)), s.okB z = true → s.ok z
 | .int, .inl t, h => by
  simp only [Sh.okB] at h
  split at h
  ·assumption
  ·cases h
 | .sl b e, .inl t, h => by
  simp only [Sh.okB] at h
  split at h
  ·rename_i u hu
   simp only [Bool.and_eq_true, beq_iff_eq, decide_eq_true_eq, Bool.or_eq_true, Bool.not_eq_true'] at h
   exact ⟨u, hu, h.1, h.2.1, fun hb => h.2.2.1.resolve_left (by rw [hb]; decide), Sh.ok_of e _ h.2.2.2⟩
  ·cases h
 | .st b, .inl t, h => by
  simp only [Sh.okB] at h
  split at h
  ·rename_i fs hu
   simp only [Bool.and_eq_true, beq_iff_eq] at h
   exact ⟨fs, hu, h.1, Sh.ok_of b _ h.2⟩
  ·cases h
 | .emp, .inr (l, off), h => by
  simp only [Sh.okB, List.isEmpty_iff] at h
  exact h
 | .cat x y, .inr (l, off), h => by
  simp only [Sh.okB] at h
  split at h
  ·rename_i f r
   simp only [Bool.and_eq_true, beq_iff_eq] at h
   exact ⟨f, r, rfl, h.1, h.2.1, Sh.ok_of x _ h.2.2.1, Sh.ok_of y _ h.2.2.2⟩
  ·cases h
 | .int, .inr _, h => by simp [Sh.okB] at h
 | .sl _ _, .inr _, h => by simp [Sh.okB] at h
 | .st _, .inr _, h => by simp [Sh.okB] at h
 | .emp, .inl _, h => by simp [Sh.okB] at h
 | .cat _ _, .inl _, h => by simp [Sh.okB] at h
theorem zQQ {N : Nat} {d : List AV} (h : TyC N zNT d) : ∃ x : Plate, AV.agg d = x.enc ∧ x.Wf := by
 obtain ⟨c1, c2, rfl, ⟨n, w1, rfl⟩, ⟨c3, c4, rfl, ⟨l, w2, rfl⟩, h4⟩⟩ := h
 cases (show c4 = [] from h4)
 exact ⟨⟨n, l⟩, rfl, ⟨w1, w2⟩⟩
theorem zOB {α : Type} {f : α → AV} : ∀ {xs : List AV}, (∀ x, x ∈ xs → ∃ a, x = f a) → ∃ l : List α, xs = l.map f
 | [], _ => ⟨[], rfl⟩
 | x :: r, h => by
  obtain ⟨a, rfl⟩ := h x (by simp)
  obtain ⟨l, rfl⟩ := zOB (xs := r) (fun y hy => h y (by simp [hy]))
  exact ⟨a :: l, rfl⟩
theorem zNx {α : Type} {f : α → AV} {q : α → Prop} {xs : List AV} (h : ∀ x, x ∈ xs → ∃ a, x = f a ∧ q a) : ∃ l : List α, xs = l.map f ∧ ∀ a, a ∈ l → q a := by
 obtain ⟨l, rfl⟩ := zOB (f := fun a : {a : α // q a} => f a.1) (xs := xs) (fun x hx => by
  obtain ⟨a, e, ha⟩ := h x hx
  exact ⟨⟨a, ha⟩, e⟩)
 exact ⟨l.map (·.1), by rw [List.map_map]; rfl, fun a ha => by obtain ⟨b, _, rfl⟩ := List.mem_map.1 ha; exact b.2⟩
theorem row_of {N : Nat} {c : List AV} (h : TyC N (.sl false zNT) c) : ∃ l : List Plate, c = [y7 l] ∧ l.length ≤ N ∧ ∀ x, x ∈ l → x.Wf := by
 obtain ⟨xs, rfl, hl, hx⟩ := h
 obtain ⟨l, rfl, w⟩ := zNx (f := Plate.enc) (q := Plate.Wf) (xs := xs) (fun x hm => by
  obtain ⟨d, hd, rfl⟩ := hx x hm
  exact zQQ hd)
 exact ⟨l, rfl, by simpa using hl, w⟩
theorem zQP {N : Nat} {c : List AV} (h : TyC N zOU c) : ∃ p : zLo, AV.agg c = x7 p ∧ PlanB N p := by
 obtain ⟨c1, c2, rfl, ⟨xs, rfl, hl, hx⟩, h4⟩ := h
 cases (show c2 = [] from h4)
 obtain ⟨p, rfl, w⟩ := zNx (f := y7) (q := fun l => l.length ≤ N ∧ ∀ x, x ∈ l → x.Wf) (xs := xs) (fun x hm => by
  obtain ⟨d, hd, rfl⟩ := hx x hm
  obtain ⟨l, rfl, hl, wl⟩ := row_of hd
  exact ⟨l, rfl, hl, wl⟩)
 exact ⟨p, rfl, ⟨by simpa using hl, fun l hl => (w l hl).1, fun l hl => (w l hl).2⟩⟩
abbrev zNo : Sh := .cat .int (.cat zNT .emp)
abbrev zOS : Sh := .cat .int (.cat .int (.cat .int (.cat zNT (.cat zNT .emp))))
theorem zOC {N : Nat} {d : List AV} (h : TyC N zNT d) : ∃ x : Plate, d = [iV x.number, iV x.letter] ∧ (Lit.int .i64 x.number).wf = true ∧ (Lit.int .i64 x.letter).wf = true := by
 obtain ⟨c1, c2, rfl, ⟨n, w1, rfl⟩, ⟨c3, c4, rfl, ⟨l, w2, rfl⟩, h4⟩⟩ := h
 cases (show c4 = [] from h4)
 exact ⟨⟨n, l⟩, rfl, w1, w2⟩
theorem zOA {N : Nat} {c : List AV} (h : TyC N zNo c) : ∃ x : House, c = [iV x.street, iV x.plate.number, iV x.plate.letter] ∧ x.Wf := by
 obtain ⟨c1, c2, rfl, ⟨n, w, rfl⟩, ⟨c3, c4, rfl, h3, h4⟩⟩ := h
 cases (show c4 = [] from h4)
 obtain ⟨x, rfl, w1, w2⟩ := zOC h3
 exact ⟨⟨n, x⟩, rfl, ⟨w, w1, w2⟩⟩
theorem zPl {N : Nat} {c : List AV} (h : TyC N zOS c) : ∃ x : Change, AV.agg c = x.enc := by
 obtain ⟨c1, c2, rfl, ⟨k, _, rfl⟩, ⟨c3, c4, rfl, ⟨s, _, rfl⟩, ⟨c5, c6, rfl, ⟨o, _, rfl⟩, ⟨c7, c8, rfl, h7, ⟨c9, c10, rfl, h9, h10⟩⟩⟩⟩⟩ := h
 cases (show c10 = [] from h10)
 obtain ⟨x, rfl, _⟩ := zOC h7
 obtain ⟨y, rfl, _⟩ := zOC h9
 exact ⟨⟨k, s, o, x, y⟩, rfl⟩
end Go.Abs

namespace Go.Abs
open Go Go.Proofs Go.Proofs.YtmhleaopjcfjnaaGreat Go.ChangeShapes Go.WideShapes Go.ChangeAt Go.RowKit
theorem zP0 : (Sh.st zNo).ok (.inl 57) := Sh.ok_of _ _ (by kernel_rfl)
theorem zRO {H : Type} {enc : TypeId × Value → H} {W : World} {v : Value} {d : DataW H} {ps : List MemPlace} (hval : Value.okWide Tryz.prog W .any 0 57 v ∨ ∃ base, Value.okWide Tryz.prog W .any base 57 v)
  (h : DataW.Trod enc Tryz.prog W 0 (fun _ => true) true 57 v d ps) (hk : Rows.uptoBulk d ≤ 1048576) : ∃ c : House, PR W (zRp W) c.enc v ∧ c.Wf := by
 obtain ⟨c, h1, h2⟩ := zOR zNo _ zP0 hval h hk
 obtain ⟨x, e, w⟩ := zOA h1
 exact ⟨x, by rw [show x.enc = AV.agg c by rw [e]]; exact h2, w⟩
abbrev zOT : Sh := .cat (.st zNo) (.cat (.st zNo) .emp)
theorem zPo {N : Nat} {c : List AV} (h : TyC N zOT c) : ∃ x : Fact, AV.agg c = x.enc ∧ x.src.Wf ∧ x.dst.Wf := by
 obtain ⟨c1, c2, rfl, h1, ⟨c3, c4, rfl, h3, h4⟩⟩ := h
 cases (show c4 = [] from h4)
 obtain ⟨x, rfl, w⟩ := zOA (c := c1) h1
 obtain ⟨y, rfl, w2⟩ := zOA (c := c3) h3
 exact ⟨⟨x, y⟩, rfl, w, w2⟩
abbrev zOV : Sh := .cat (.sl false (.st zOS)) .emp
abbrev zN1 : Sh := .cat (.st zOU) (.cat (.sl false (.st zOV)) (.cat (.sl false (.st zOT)) .emp))
theorem zQ8 : (Sh.st zN1).ok (.inl 62) := Sh.ok_of _ _ (by kernel_rfl)
theorem zQ6 {N : Nat} {c : List AV} (h : TyC N zOV c) : ∃ w : List Change, AV.agg c = i9 w ∧ w.length ≤ N := by
 obtain ⟨c1, c2, rfl, ⟨xs, rfl, hl, hx⟩, h4⟩ := h
 cases (show c2 = [] from h4)
 obtain ⟨w, rfl⟩ := zOB (f := Change.enc) (xs := xs) (fun x hm => by
  obtain ⟨d, hd, rfl⟩ := hx x hm
  obtain ⟨y, e⟩ := zPl hd
  exact ⟨y, e⟩)
 exact ⟨w, rfl, by simpa using hl⟩
theorem zQ7 {N : Nat} {c : List AV} (h : TyC N zN1 c) : ∃ s : Story, AV.agg c = s.enc ∧ Bound N s := by
 obtain ⟨c1, c2, rfl, h1, ⟨c3, c4, rfl, ⟨xs, rfl, hl, hx⟩, ⟨c5, c6, rfl, ⟨ys, rfl, kl, ky⟩, h6⟩⟩⟩ := h
 cases (show c6 = [] from h6)
 obtain ⟨p, e, p1⟩ := zQP (c := c1) h1
 obtain rfl : c1 = [.list (p.map y7)] := by simpa [x7] using e
 obtain ⟨ws, rfl, w1⟩ := zNx (f := i9) (q := fun w => w.length ≤ N) (xs := xs) (fun x hm => by
  obtain ⟨d, hd, rfl⟩ := hx x hm
  exact zQ6 hd)
 obtain ⟨fs, rfl, f1⟩ := zNx (f := Fact.enc) (q := fun f => f.src.Wf ∧ f.dst.Wf) (xs := ys) (fun x hm => by
  obtain ⟨d, hd, rfl⟩ := ky x hm
  exact zPo hd)
 exact ⟨⟨p, ws, fs⟩, rfl, p1, by simpa using hl, w1, by simpa using kl, f1⟩
theorem zRQ {H : Type} {enc : TypeId × Value → H} {W : World} {v : Value} {d : DataW H} {ps : List MemPlace} (hval : Value.okWide Tryz.prog W .any 0 62 v ∨ ∃ base, Value.okWide Tryz.prog W .any base 62 v)
  (h : DataW.Trod enc Tryz.prog W 0 (fun _ => true) true 62 v d ps) (hk : Rows.uptoBulk d ≤ 1048576) : ∃ s : Story, PR W (zRp W) s.enc v ∧ Bound 1048576 s := by
 obtain ⟨c, h1, h2⟩ := zOR zN1 _ zQ8 hval h hk
 obtain ⟨x, e, w⟩ := zQ7 h1
 exact ⟨x, by rw [← e]; exact h2, w⟩
end Go.Abs

