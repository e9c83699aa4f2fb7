/-
  WHAT THE PROOF STANDS ON, PART 2: contracts of the program's functions and the logic that they are proved in. No condition.
-/
import Derived.Lib.OthersKept
import Derived.Lib.ConvBytes
import Derived.Maps.RangeRun
import Derived.MapKept
import Derived.Lib.UnsafeStr
import Derived.Orders
import Derived.RangeFuncLeaves
import Derived.RangeFuncRecord
import Derived.Scope
import Derived.RangeFuncCalls
import Derived.Laws.RangeString
import Derived.Below
import Derived.Test.YtcbpjojhfgadlaaGreatDoorQZJ1
set_option maxRecDepth 100000
set_option maxHeartbeats 4000000
set_option linter.unusedVariables false
set_option linter.unusedSimpArgs false
set_option linter.unusedSectionVars false
namespace Go.Abs
open Go
section
variable {P : Program} {E : Env} {I : Nat → Prop} {loc : Nat → Loc} {σ : AS} {a : Act} {w : World}
theorem W6 {t k e : TypeId} (h : zNr P t = some (k, e)) : P.underlying t = some (.map k e) := by
 unfold zNr at h
 split at h
 ·rename_i hu; cases h; exact hu
 ·cases h
theorem zCB {k : AV} {kv : Value} (h : zOJ k = some kv) {v : Value} (hv : VR w I loc k v) : v = kv := by
 unfold zOJ at h
 split at h
 ·cases h; exact hv.raw_eq
 ·rename_i cs
  cases hr : l0 cs with
  | none => rw [hr] at h; cases h
  | some vs =>
   rw [hr] at h; cases h
   obtain ⟨us, rfl, h1, h2⟩ := hv.agg_inv
   have := K5 hr us.toList (by simpa using h1) (fun i h h' => by have := h2 i h (by simpa using h'); simpa using this)
   rw [← this]
 ·cases h
theorem zB4 {k : Value} : ∀ {ks : List Value}, k ∉ ks → zNn k ks = none
 | [], _ => rfl
 | x :: r, h => by
  have hx : ¬ x = k := fun e => h (by simp [e])
  have hr : k ∉ r := fun e => h (by simp [e])
  simp only [zNn, hx, if_false, zB4 hr, Option.map_none]
theorem Y1 {α : Type} {l : List α} (hn : l.Nodup) {i j : Nat} {hi : i < l.length} {hj : j < l.length} : l[i] = l[j] ↔ i = j := by
 constructor
 ·intro h
  rcases Nat.lt_trichotomy i j with h' | h' | h'
  ·exact absurd h ((List.pairwise_iff_getElem.1 hn) i j hi hj h')
  ·exact h'
  ·exact absurd h.symm ((List.pairwise_iff_getElem.1 hn) j i hj hi h')
 ·rintro rfl; rfl
theorem zDX {α : Type} [DecidableEq α] : ∀ {a b : List α}, a.Nodup → (∀ x, x ∈ a → x ∈ b) → b.length ≤ a.length → ∀ x, x ∈ b → x ∈ a
 | [], b, _, _, hl, x, hx => by
  have : b = [] := List.eq_nil_of_length_eq_zero (by simpa using hl)
  subst this; simp at hx
 | y :: r, b, hn, hs, hl, x, hx => by
  obtain ⟨hy, hr⟩ := List.nodup_cons.1 hn
  by_cases e : x = y
  ·subst e; simp
  ·have hyb := hs y (by simp)
   have hlen := List.length_erase_of_mem hyb
   have hpos : 0 < b.length := List.length_pos_of_mem hyb
   refine List.mem_cons_of_mem _ (zDX (b := b.erase y) hr (fun z hz => ?_) (by simp at hl; omega) x ?_)
   ·exact (List.mem_erase_of_ne (fun e => by subst e; exact hy hz)).2 (hs z (by simp [hz]))
   ·exact (List.mem_erase_of_ne e).2 hx
open Classical in
theorem L3 {ks : List Value} {xs : List AV} {es : List MapEntry} {clock : Nat} {R : AV → Value → Prop} (hs : e8 ks xs.length es clock) (hv : MapVals R ks xs es) {k : Value} : k ∈ ks ↔ k ∈ es.map (·.key) := by
 obtain ⟨h1, h2, h3, h4, _⟩ := hs
 have hsub : ∀ x, x ∈ ks → x ∈ es.map (·.key) := fun x hx => by
  obtain ⟨i, hi, rfl⟩ := List.getElem_of_mem hx
  obtain ⟨e, g1, g2, _⟩ := hv i hi (by omega)
  exact List.mem_map.2 ⟨e, g1, g2⟩
 exact ⟨hsub k, zDX h3 hsub (by simp; omega) k⟩
theorem zBX {es : List MapEntry} (hn : (es.map (·.key)).Nodup) {x y : MapEntry} (hx : x ∈ es) (hy : y ∈ es) (h : x.key = y.key) : x = y := by
 obtain ⟨i, hi, rfl⟩ := List.getElem_of_mem hx
 obtain ⟨j, hj, rfl⟩ := List.getElem_of_mem hy
 have : i = j := (Y1 hn (hi := by simpa using hi) (hj := by simpa using hj)).1 (by simpa using h)
 subst this; rfl
theorem zAB {k : Value} : ∀ {ks : List Value} {i : Nat}, ks.Nodup → ks[i]? = some k → zNn k ks = some i
 | [], i, _, h => by simp at h
 | x :: r, 0, hn, h => by
  simp at h; subst h
  simp [zNn]
 | x :: r, i + 1, hn, h => by
  simp at h
  have hx : ¬ x = k := fun e => by
   subst e
   exact (List.nodup_cons.1 hn).1 (List.mem_of_getElem? h)
  simp only [zNn, hx, if_false, zAB (List.nodup_cons.1 hn).2 h, Option.map_some]
theorem zG5 {t nx : Nat} {r : Option AV} {vr : Option Value} {K : Cont} (hs : SR E I loc σ a w) (hr : ∀ x, r = some x → ∃ v, vr = some v ∧ VR w I loc x v) (hr0 : r = none → vr = none) (h : P1 P t r σ.obj nx K) :
  ∃ v rd A w' loc' y, K v rd [(nx, A)] ∧ (Instr.makeMap t vr).run P w = .ok y w' ∧ SR E I loc' (σ.setO nx A) a w' ∧ VR w' I loc' v y := by
 have fin : ∀ (hnx : σ.obj nx = .unb), SR E I (q7 loc nx (.blk w.heap.size 0)) (σ.setO nx (.mapo [] [])) a (w.alloc (.map #[] 0)) ∧ VR (w.alloc (.map #[] 0)) I (q7 loc nx (.blk w.heap.size 0)) (.mp nx) (.map (some w.heap.size)) := fun hnx => by
  refine ⟨hs.born hnx _ ⟨w.heap.size, #[], 0, by simp [q7], heap_alloc_new w _, ⟨rfl, rfl, List.nodup_nil, List.nodup_nil, List.Pairwise.nil, fun e he => by simp at he⟩, fun i h => by simp at h⟩, .mp _ w.heap.size 0 (by simp [q7])⟩
 unfold P1 at h
 split at h
 ·obtain ⟨hnx, hK⟩ := h
  rw [hr0 rfl]
  refine ⟨_, _, _, _, _, _, hK, ?_, (fin hnx).1, (fin hnx).2⟩
  simp [Instr.makeMap]
 ·rename_i k n
  obtain ⟨hm, hnx, hK⟩ := h
  obtain ⟨v, hv, hvr⟩ := hr _ rfl
  have e := hvr.raw_eq
  subst e
  obtain ⟨⟨kt, et⟩, hmt⟩ := Option.isSome_iff_exists.1 hm
  refine ⟨_, _, _, _, _, _, hK, ?_, (fin hnx).1, (fin hnx).2⟩
  rw [hv]
  simp [Instr.makeMap, run_underlying (W6 hmt), asInt, asIntOf]
 ·exact h.elim
theorem zAS {k : TypeId} (hk : Maps.Keyed P k) {k' : Value} (hkb : zN4 P k k') {R : AV → Value → Prop} {es : List MapEntry} {ks : List Value} {xs : List AV} {clock : Nat} (hall : ∀ q, q ∈ ks → zN4 P k q) (hs : e8 ks xs.length es clock) (hv : MapVals R ks xs es) :
  ((Instr.findKey k k' es).run P w = .ok none w ∧ zNn k' ks = none) ∨ ∃ j i, ∃ h : j < es.length, ∃ hi : i < ks.length, ∃ hi' : i < xs.length, (Instr.findKey k k' es).run P w = .ok (some (j, es[j].val)) w ∧ zNn k' ks = some i ∧ es[j].key = k' ∧ ks[i] = k' ∧ R xs[i] es[j].val := by
 obtain ⟨l, hl⟩ := hkb
 have hes : ∀ e ∈ es, ∃ l, keyOf P k e.key = some l := fun e hm => hall _ ((L3 hs hv).2 (List.mem_map.2 ⟨e, hm, rfl⟩))
 rcases hk.find w hl es hes with ⟨h1, h2⟩ | ⟨j, e, h1, h2, h3⟩
 ·refine .inl ⟨h1, zB4 (fun hin => ?_)⟩
  obtain ⟨e, hm, hke⟩ := List.mem_map.1 ((L3 hs hv).1 hin)
  exact h2 e hm hke
 ·obtain ⟨hj, hje⟩ := List.getElem?_eq_some_iff.1 h2
  have hin : k' ∈ ks := (L3 hs hv).2 (List.mem_map.2 ⟨e, List.mem_of_getElem? h2, h3⟩)
  obtain ⟨i, hi, hie⟩ := List.getElem_of_mem hin
  have hi' : i < xs.length := by have := hs.1; omega
  obtain ⟨e', g1, g2, g3⟩ := hv i hi hi'
  have : e' = es[j] := zBX hs.2.2.2.1 g1 (List.getElem_mem hj) (by rw [g2, hje, h3, hie])
  subst this
  exact .inr ⟨j, i, hj, hi, hi', by rw [hje]; exact h1, zAB hs.2.2.1 (List.getElem?_eq_some_iff.2 ⟨hi, hie⟩), by rw [hje]; exact h3, hie, g3⟩
theorem zCM {t : TypeId} {m k x : AV} {vm vk vx : Value} {K : Cont} (hs : SR E I loc σ a w) (hm : VR w I loc m vm) (hk : VR w I loc k vk) (hx : VR w I loc x vx) (h : j9 P t m k x σ.obj K) :
    ∃ rd wr w' I', K (.tup []) rd wr ∧ (Instr.mapUpdate t vm vk vx).run P w = .ok () w' ∧ SR E I' loc (σ.writes wr) a w' := by
  unfold j9 at h
  split at h
  · rename_i kt et o kv hmt hkv
    generalize hA : σ.obj o = A at h
    cases A with
    | mapo ks xs =>
      obtain ⟨hK, hkb, hall, hp, hno, h⟩ := h
      have e := zCB hkv hk
      subst e
      cases hm with
      | pure hm => cases hm
      | mp _ b c hl =>
        have ho := hs.objs o
        rw [hA] at ho
        obtain ⟨b', es, clock, h1, h2, h3, h4⟩ := ho
        rw [hl] at h1; cases h1
        obtain ⟨h3a, h3b, h3c, h3k, h3d, h3e⟩ := id h3
        let fs := (zNW σ.obj 3 x).2
        have hs1 := hs.freeze fs
        have hofs : o ∉ fs := fun hin => by
          have : fs.contains o = true := by simpa using hin
          rw [hno] at this; cases this
        have hA1 : (o9 σ fs).obj o = .mapo ks xs := by rw [W3, if_neg hofs]; exact hA
        have hvx : PR w (zNg σ.obj (· ∈ fs) loc I) (zNW σ.obj 3 x).1 vx := (zBo hs hx (fun _ ho => ho)).toPR hp
        have hbI : ¬ zNg σ.obj (· ∈ fs) loc I b := (hs1.sep o b 0 (by rw [hA1]; rfl) hl).1
        have hsz : w.heap.size = (w.heap.setIfInBounds b (.map #[] 0)).size := by simp
        have hset : ∀ ob : Obj, (setObj b ob).run P w = .ok () { w with heap := w.heap.setIfInBounds b ob } := fun ob => MapKept.run_setObj_map ob h2
        have hblt : b < w.heap.size := (Array.getElem?_eq_some_iff.1 h2).1
        have hmono : ∀ ob : Obj, ∀ q, zNg σ.obj (· ∈ fs) loc I q → ({ w with heap := w.heap.setIfInBounds b ob } : World).heap[q]? = w.heap[q]? := fun ob q hq => by
          have : b ≠ q := fun e => hbI (e ▸ hq)
          simp [Array.getElem?_setIfInBounds, this]
        have h4' : MapVals (PR w (zNg σ.obj (· ∈ fs) loc I)) ks xs es.toList := h4.imp (fun i hi v hv => hv.mono (fun _ _ => rfl) (fun _ hb => .inl hb))
        obtain ⟨l, hkl⟩ := hkb
        have hchk := hK.check w false hkl
        have hxl : xs.length = es.size := by simpa using h3b
        have fin : ∀ (es' : Array MapEntry) (clock' : Nat) (ks' : List Value) (xs' : List AV), e8 ks' xs'.length es'.toList clock' → MapVals (PR w (zNg σ.obj (· ∈ fs) loc I)) ks' xs' es'.toList →
            zOE ks vk = ks' → zOF ks xs vk (zNW σ.obj 3 x).1 = xs' → (Instr.mapUpdate t (.map (some b)) vk vx).run P w = .ok () { w with heap := w.heap.setIfInBounds b (.map es' clock') } →
            ∃ rd wr w' I', K (.tup []) rd wr ∧ (Instr.mapUpdate t (.map (some b)) vk vx).run P w = .ok () w' ∧ SR E I' loc (σ.writes wr) a w' := by
          intro es' clock' ks' xs' hsh hpr e1 e2 hrun
          rw [e1, e2] at h
          refine ⟨_, _, _, _, h, hrun, SR.thenWrite (hs1.writeG (w' := { w with heap := w.heap.setIfInBounds b (.map es' clock') }) (A := .mapo ks' xs') (by rw [hA1]; rfl) hl rfl rfl rfl (by simp) (fun q hq => ?_) ⟨b, es', clock', hl, ?_, hsh, hpr.imp (fun i hi v hv => hv.mono (hmono _) (fun _ x => x))⟩ (by simp))⟩
          · simp [Array.getElem?_setIfInBounds, hq.symm]
          · simp [hblt]
        rcases zAS (w := w) hK ⟨l, hkl⟩ hall h3 h4' with ⟨g1, g2⟩ | ⟨j, i, hj, hi, hi', g1, g2, g3, g4, g5⟩
        · have hnew : vk ∉ ks := fun hin => by
            obtain ⟨i, hi, e⟩ := List.getElem_of_mem hin
            have := zAB h3c (List.getElem?_eq_some_iff.2 ⟨hi, e⟩)
            rw [g2] at this; cases this
          refine fin (es.push { key := vk, val := vx, born := clock }) (clock + 1) (ks ++ [vk]) (xs ++ [(zNW σ.obj 3 x).1]) ⟨by simp [h3a], by simp [hxl], ?_, ?_, ?_, ?_⟩ (fun i hi hi' => ?_) (by simp [zOE, g2]) (by simp [zOF, g2]) ?_
          · rw [List.nodup_append]
            refine ⟨h3c, by simp, fun p hp q hq => ?_⟩
            simp at hq; subst hq
            rintro rfl; exact hnew hp
          · rw [Array.toList_push, List.map_append, List.nodup_append]
            refine ⟨h3k, by simp, fun p hp q hq => ?_⟩
            simp at hq; subst hq
            rintro rfl
            exact hnew ((L3 h3 h4).2 hp)
          · rw [Array.toList_push, List.pairwise_append]
            exact ⟨h3d, by simp, fun p hp q hq => by simp at hq; subst hq; exact h3e p hp⟩
          · intro e he
            rw [Array.toList_push, List.mem_append] at he
            rcases he with he | he
            · have := h3e e he; omega
            · simp at he; subst he; simp
          · by_cases hlt : i < xs.length
            · obtain ⟨e, q1, q2, q3⟩ := h4' i (by omega) hlt
              exact ⟨e, by simp at q1 ⊢; exact .inl q1, by rw [List.getElem_append_left (by omega)]; exact q2, by rw [List.getElem_append_left hlt]; exact q3⟩
            · have hie : i = xs.length := by simp at hi'; omega
              refine ⟨{ key := vk, val := vx, born := clock }, by simp, ?_, ?_⟩
              · rw [List.getElem_append_right (by omega)]; simp
              · rw [List.getElem_append_right (by omega)]; simpa using hvx
          · simp [Instr.mapUpdate, run_underlying (W6 hmt), MapKept.run_getObj_map h2, hchk, g1, hset]
        · have hjs : j < es.size := by simpa using hj
          have hkey : es[j].key = vk := by simpa using g3
          have hst := hK.stays w hkl
          have hkm : (es.modify j fun e => { e with key := vk, val := vx }).toList.map (·.key) = es.toList.map (·.key) := by
            apply List.ext_getElem (by simp)
            intro i h1 h2
            simp only [List.getElem_map, Array.getElem_toList, Array.getElem_modify]
            split
            · rename_i e; subst e; exact hkey.symm
            · rfl
          refine fin (es.modify j fun e => { e with key := vk, val := vx }) clock ks (xs.set i (zNW σ.obj 3 x).1) ⟨by simp [h3a], by simp [hxl], h3c, by rw [hkm]; exact h3k, ?_, ?_⟩ (fun i2 hi2 hi2' => ?_) (by simp [zOE, g2]) (by simp [zOF, g2]) ?_
          · rw [List.pairwise_iff_getElem] at h3d ⊢
            intro i i' hi hi' hlt
            have := h3d i i' (by simpa using hi) (by simpa using hi') hlt
            simp only [Array.getElem_toList, Array.getElem_modify] at this ⊢
            split <;> split <;> simpa using this
          · intro e he
            obtain ⟨i, hi, rfl⟩ := List.getElem_of_mem he
            have := h3e (es[i]'(by simpa using hi)) (by simp)
            simp only [Array.getElem_toList, Array.getElem_modify]
            split <;> simpa using this
          · by_cases hii : i = i2
            · subst hii
              refine ⟨(es.modify j fun e => { e with key := vk, val := vx })[j]'(by simpa using hjs), Array.mem_toList_iff.2 (Array.getElem_mem _), ?_, ?_⟩
              · simp [Array.getElem_modify, g4]
              · simpa [Array.getElem_modify] using hvx
            · rw [List.getElem_set_ne hii]
              simp only [List.length_set] at hi2'
              obtain ⟨e, q1, q2, q3⟩ := h4' i2 hi2 hi2'
              obtain ⟨j2, hj2, rfl⟩ := List.getElem_of_mem q1
              have hne : j ≠ j2 := fun e => by
                subst e
                apply hii
                have : ks[i] = ks[i2] := by rw [g4, ← q2, g3]
                exact (Y1 h3c).1 this
              refine ⟨(es.modify j fun e => { e with key := vk, val := vx })[j2]'(by simpa using hj2), Array.mem_toList_iff.2 (Array.getElem_mem _), ?_, ?_⟩
              · simp only [Array.getElem_modify, if_neg hne]; simpa using q2
              · simp only [Array.getElem_modify, if_neg hne]; simpa using q3
          · simp [Instr.mapUpdate, run_underlying (W6 hmt), MapKept.run_getObj_map h2, hchk, g1, hset, hjs, hkey, hst]
    | _ => exact h.elim
  · exact h.elim
theorem zDo {z : Value} (h : z.cells.all (·.oneCell') = true) : PR w I (zAV z) z := by
 unfold zAV
 split
 ·exact .nil none 0
 ·exact .nmap
 ·have hv := K3 (w := w) (I := I) (loc := fun _ => .un) z
  refine hv.toPR ?_
  unfold r4
  split
  ·split
   ·exact .agg _ (fun c hc => by obtain ⟨v, _, rfl⟩ := List.mem_map.1 hc; exact .raw _)
   ·exact .any
  ·exact .any
  ·exact .raw _
theorem zG4 {t : TypeId} {m k : AV} {vm vk : Value} {ok : Bool} {K : Cont} (hs : SR E I loc σ a w) (hm : VR w I loc m vm) (hk : VR w I loc k vk) (h : Q8 P t m k ok σ.obj K) :
    ∃ v rd y, K v rd [] ∧ (Instr.lookup t vm vk ok).run P w = .ok y w ∧ VR w I loc v y := by
  unfold Q8 at h
  split at h
  · rename_i kt et kv hmt hkv
    cases hz : zeroT P et with
    | none => simp only [hz] at h
    | some z =>
      simp only [hz] at h
      obtain ⟨hK, hkb, hzo, h⟩ := h
      have e := zCB hkv hk
      subst e
      have hkb' := hkb
      obtain ⟨l, hkl⟩ := hkb
      have hzr : (zeroValue et).run P w = .ok z w := O6 hz
      have core : ∀ (ks : List Value) (xs : List AV) (b : Nat) (es : Array MapEntry) (clock : Nat), w.heap[b]? = some (.map es clock) → e8 ks xs.length es.toList clock → MapVals (PR w I) ks xs es.toList → (∀ q, q ∈ ks → zN4 P kt q) →
          ∃ y, (Instr.lookup t (.map (some b)) vk ok).run P w = .ok y w ∧ VR w I loc (if ok = true then .tup [c6 ks xs vk (zAV z), .raw (.bool (zON ks vk))] else c6 ks xs vk (zAV z)) y := by
        intro ks xs b es clock h2 h3 h4 hall
        have hchk := hK.check w es.isEmpty hkl
        rcases zAS (w := w) hK hkb' hall h3 h4 with ⟨g1, g2⟩ | ⟨j, i, hj, hi, hi', g1, g2, g3, g4, g5⟩
        · refine ⟨if ok = true then .tuple #[z, .bool false] else z, ?_, ?_⟩
          · simp [Instr.lookup, run_underlying (W6 hmt), MapKept.run_getObj_map h2, hchk, g1, hzr]
          · simp only [c6, zON, g2, Option.isSome_none]
            have hzp : VR w I loc (zAV z) z := .pure (zDo hzo)
            cases ok
            · exact hzp
            · refine .tup _ _ rfl (fun i hi hi' => ?_)
              have : i = 0 ∨ i = 1 := by simp at hi; omega
              rcases this with rfl | rfl
              · exact hzp
              · exact .pure (.raw _ rfl)
        · have hjs : j < es.size := by simpa using hj
          refine ⟨if ok = true then .tuple #[es[j].val, .bool true] else es[j].val, ?_, ?_⟩
          · have g1' : (Instr.findKey kt vk es.toList).run P w = .ok (some (j, es[j].val)) w := by simpa using g1
            simp [Instr.lookup, run_underlying (W6 hmt), MapKept.run_getObj_map h2, hchk, g1']
          · simp only [c6, zON, g2, Option.isSome_some]
            have hvp : VR w I loc (xs.getD i .any) es[j].val := by rw [w9 hi']; exact .pure (by simpa using g5)
            cases ok
            · exact hvp
            · refine .tup _ _ rfl (fun i hi hi' => ?_)
              have : i = 0 ∨ i = 1 := by simp at hi; omega
              rcases this with rfl | rfl
              · exact hvp
              · exact .pure (.raw _ rfl)
      split at h
      · rename_i ks xs
        obtain ⟨hall, h⟩ := h
        cases hm.toPR (.fmap _ _) with
        | nmap =>
          have hchk := hK.check w true hkl
          refine ⟨_, _, if ok = true then .tuple #[z, .bool false] else z, h, ?_, ?_⟩
          · have hf : (Instr.findKey kt vk []).run P w = .ok none w := by
              rcases zAS (w := w) hK hkb' (R := PR w I) (es := []) (ks := []) (xs := []) (clock := 0) (fun q hq => by simp at hq) ⟨rfl, rfl, List.nodup_nil, List.nodup_nil, List.Pairwise.nil, fun e he => by simp at he⟩ (fun i hi => by simp at hi) with ⟨g1, _⟩ | ⟨j, i, hj, _⟩
              · exact g1
              · simp at hj
            simp [Instr.lookup, run_underlying (W6 hmt), hchk, hf, hzr]
          · have hzp : VR w I loc (zAV z) z := .pure (zDo hzo)
            simp only [c6, zON, zNn, Option.isSome_none]
            cases ok
            · exact hzp
            · refine .tup _ _ rfl (fun i hi hi' => ?_)
              have : i = 0 ∨ i = 1 := by simp at hi; omega
              rcases this with rfl | rfl
              · exact hzp
              · exact .pure (.raw _ rfl)
        | fmap b es clock _ _ V hb hh hsh hV hpr =>
          obtain ⟨y, h1, h2⟩ := core ks xs b es clock hh hsh (PR.fmap_vals hV hpr) hall
          exact ⟨_, _, y, h, h1, h2⟩
      · rename_i o
        generalize hA : σ.obj o = A at h
        cases A with
        | mapo ks xs =>
          obtain ⟨hall, h⟩ := h
          cases hm with
          | pure hm => cases hm
          | mp _ b c hl =>
            have ho := hs.objs o
            rw [hA] at ho
            obtain ⟨b', es, clock, h1, h2, h3, h4⟩ := ho
            rw [hl] at h1; cases h1
            obtain ⟨y, h5, h6⟩ := core ks xs b es clock h2 h3 h4 hall
            exact ⟨_, _, y, h, h5, h6⟩
        | _ => exact h.elim
      · exact h.elim
  · exact h.elim
theorem zHx {t nx : Nat} {x : AV} {u : Value} {K : Cont} (hs : SR E I loc σ a w) (hx : VR w I loc x u) (h : O3 P t x σ.obj nx K) :
  ∃ v rd A w' loc' y, K v rd [(nx, A)] ∧ (Instr.range t u).run P w = .ok y w' ∧ SR E I loc' (σ.setO nx A) a w' ∧ VR w' I loc' v y := by
 unfold O3 at h
 split at h
 ·rename_i ks xs
  obtain ⟨hm, hnx, hK⟩ := h
  obtain ⟨⟨kt, et⟩, hmt⟩ := Option.isSome_iff_exists.1 hm
  cases hx.toPR (.fmap _ _) with
  | nmap =>
   refine ⟨_, _, _, w.alloc (.mapIter none 0 #[] 0), q7 loc nx (.blk w.heap.size 0), .pointer (some ⟨w.heap.size, 0, none⟩), hK, ?_, hs.born hnx _ ⟨w.heap.size, by simp [q7], .inl ⟨0, #[], 0, heap_alloc_new w _, rfl, rfl, rfl⟩⟩, .ptr _ _ _ 0 (by simp [q7])⟩
   simp [Instr.range, run_underlying (W6 hmt)]
  | fmap b es clock _ _ V hb hh hsh hV hpr =>
   have hbw := hs.imm b hb
   have hh' : (w.alloc (.mapIter (some b) clock #[] clock)).heap[b]? = some (.map es clock) := by rw [r6 _ _ _ hbw]; exact hh
   have hfil : es.toList.filter (fun e => !(#[] : Array Nat).contains e.born) = es.toList := List.filter_eq_self.2 (fun _ _ => by simp)
   refine ⟨_, _, _, w.alloc (.mapIter (some b) clock #[] clock), q7 loc nx (.blk w.heap.size 0), .pointer (some ⟨w.heap.size, 0, none⟩), hK, ?_, hs.born hnx _ ⟨w.heap.size, by simp [q7], .inr ⟨b, es, clock, #[], heap_alloc_new w _, hb, hh', ?_, ?_, ?_, fun p hp => by cases hp⟩⟩, .ptr _ _ _ 0 (by simp [q7])⟩
   ·simp [Instr.range, run_underlying (W6 hmt), MapKept.run_getObj_map hh]
   ·exact ⟨by simp, by simp, hsh.2.2.2.1, hsh.2.2.2⟩
   ·rw [hfil]; exact hsh
   ·rw [hfil]
    exact (PR.fmap_vals hV hpr).imp (fun i hi v hv => PR.alloc hs hv _)
 ·obtain ⟨hm, hnx, hK⟩ := h
  cases hx.toPR (.raw _) with
  | raw _ _ =>
   refine ⟨_, _, _, w.alloc (.stringIter _ 0), q7 loc nx (.blk w.heap.size 0), .pointer (some ⟨w.heap.size, 0, none⟩), hK, ?_, hs.born hnx _ ⟨w.heap.size, by simp [q7], heap_alloc_new w _⟩, .ptr _ _ _ 0 (by simp [q7])⟩
   simp [Instr.range, run_underlying (V8 hm)]
 ·exact h.elim
theorem M0 : ∀ (ys : List AV) (k : List UInt8 → Prop), X2 ys k → ∃ l : List UInt8, ys = l.map (fun b => .raw (.int .u8 (b.toNat : Int))) ∧ k l
 | [], k, h => ⟨[], rfl, h⟩
 | .raw (.int .u8 n) :: r, k, h => by
  obtain ⟨⟨h0, h1⟩, h⟩ := h
  obtain ⟨l, rfl, hk⟩ := M0 r _ h
  refine ⟨_, ?_, hk⟩
  have e : ((UInt8.ofNat n.toNat).toNat : Int) = n := by
   have : n.toNat < 256 := by omega
   rw [UInt8.toNat_ofNat_of_lt' (by simpa using this)]; omega
  rw [List.map_cons, e]
theorem C5 {k k' : List UInt8 → Prop} : ∀ (ys : List AV), X2 ys k → (∀ l, ys = l.map (fun b => .raw (.int .u8 (b.toNat : Int))) → k l → k' l) → X2 ys k'
  | [], h, f => f [] rfl h
  | .raw (.int .u8 n) :: r, ⟨⟨h0, h1⟩, h⟩, f => ⟨⟨h0, h1⟩, C5 r h (fun l e hk => f _ (by
      have e2 : ((UInt8.ofNat n.toNat).toNat : Int) = n := by
        have : n.toNat < 256 := by omega
        rw [UInt8.toNat_ofNat_of_lt' (by simpa using this)]; omega
      rw [List.map_cons, e2, ← e]) hk)⟩
theorem zEn {s d : TypeId} {x : AV} {u : Value} (hs : SR E I loc σ a w) (hsrc : (P.underlying s).isSome = true) (hx : VR w I loc x u) {K : Cont} (h : R1 P s d x σ.obj K) :
  ∃ v rd r, K v rd [] ∧ v = .raw r ∧ r.oneCell' = true ∧ (convert s d u).run P w = .ok r w := by
 unfold R1 at h
 split at h
 ·rename_i k _ n hk
  have e := hx.raw_eq; subst e
  cases hu : P.underlying s with
  | none => rw [hu] at hsrc; cases hsrc
  | some ds =>
   refine ⟨_, _, _, h, rfl, rfl, ?_⟩
   simp only [convert, Sem.run_bind, run_underlying hu, run_underlying (zAF hk), Result.andThen_ok]
   cases ds <;> rfl
 ·have e := hx.raw_eq; subst e
  exact ⟨_, _, _, h.2, rfl, rfl, run_convert_int_string w s d _ _ hsrc (V8 h.1)⟩
 ·have e := hx.raw_eq; subst e
  cases hu : P.underlying s with
  | none => rw [hu] at hsrc; cases hsrc
  | some ds =>
   refine ⟨_, _, _, h.2, rfl, rfl, ?_⟩
   simp only [convert, Sem.run_bind, run_underlying hu, run_underlying (V8 h.1), Result.andThen_ok]
   cases ds <;> rfl
 ·rename_i o z off len _
  obtain ⟨hd, h⟩ := h
  cases hsl : sliceT P s with
  | none => simp only [hsl] at h
  | some e =>
   cases hr : r9 σ.obj 1 (.own o z off len) with
   | none => simp only [hsl, hr] at h
   | some p =>
    obtain ⟨ys, rd⟩ := p
    simp only [hsl, hr] at h
    obtain ⟨he, hne, h⟩ := h
    obtain ⟨l, rfl, hK⟩ := M0 _ _ h
    have hse : P.underlying s = some (.slice e) := c9 hsl
    refine ⟨_, _, _, hK, rfl, rfl, ?_⟩
    rcases zAd hs hx hr (fun y hy => by obtain ⟨b, _, rfl⟩ := List.mem_map.1 hy; rfl) with ⟨h0, _⟩ | ⟨ad, c, news, rfl, hel, hc⟩
    ·exact absurd h0 hne
    ·rw [List.length_map]
     refine run_convert_bytes_back w s d e ad c l hse (zAF he) (V8 hd) (fun j hj => ?_)
     have hl : news.length = l.length := by have := hel.1; simp at this; omega
     have hv := hel.2 j (by simpa using hj) 0 (by simp [AV.cells]) (by simp; omega)
     simp only [List.getElem_map, AV.cells, List.getElem_singleton, Nat.mul_one, Nat.add_zero] at hv
     have := hv.raw_eq
     rw [hc j _ (by rw [List.getElem?_eq_getElem (by omega)])]
     exact congrArg some this
 ·exact h.elim
theorem SR.grown {w' : World} (h : SR E I loc σ a w) (ho : w'.os = w.os) (ht : w'.tape = w.tape) (hu : w'.output = w.output) (hz : w.heap.size ≤ w'.heap.size)
  (hk : ∀ k, k < w.heap.size → w'.heap[k]? = w.heap[k]?) (hd : S6 → w.drawn ≤ w'.drawn) : SR E I loc σ a w' := by
 have hI : ∀ b, I b → w'.heap[b]? = w.heap[b]? := fun b hb => hk b (h.imm b hb)
 exact ⟨h.defers.imp (fun r g1 g2 g3 g4 => ⟨by rw [hk r (Array.getElem?_eq_some_iff.1 g1).1]; exact g1, g2, g3, g4⟩), h.size, fun t => (h.tmps t).mono hI (fun _ x => x) (fun _ _ => rfl),
  fun o => (h.objs o).mono hI (fun _ x => x) (fun _ _ => rfl) (fun e => h.un e) (fun hl b c hb => hk b ((h.objs o).lt hl hb)), h.inj, fun b hb => by have := h.imm b hb; omega, h.sep,
  h.fr.of_same ho ht hu hz (fun b hb _ => hk b (by have := h.fr.size; omega)) hd, h.base, h.top, h.keep⟩
theorem SR.addI {b : Nat} {C : Array Value} {e : TypeId} {fr : Nat × Nat} (h : SR E I loc σ a w) (hb : w.heap[b]? = some (.cells C e fr)) (h0 : E.w0.heap.size ≤ b) (hn : ∀ o c, (σ.obj o).live = true → loc o ≠ .blk b c) : SR E (fun k => I k ∨ k = b) loc σ a w := by
 have hI : ∀ k, I k → I k ∨ k = b := fun k hk => .inl hk
 refine ⟨h.defers.imp (fun r g1 g2 g3 g4 => ⟨g1, fun hr => hr.elim g2 (fun e => by rw [e, hb] at g1; cases g1), g3, g4⟩), h.size, fun t => (h.tmps t).mono (fun _ _ => rfl) hI (fun _ _ => rfl),
  fun o => (h.objs o).mono (fun _ _ => rfl) hI (fun _ _ => rfl) (fun e => h.un e) (fun _ _ _ _ => rfl), h.inj, fun k hk => hk.elim (h.imm k) (fun e => by rw [e]; exact (Array.getElem?_eq_some_iff.1 hb).1), fun o k c hl hk => ⟨fun hi => hi.elim (h.sep o k c hl hk).1 (fun e => hn o c hl (e ▸ hk)), (h.sep o k c hl hk).2⟩,
  h.fr, fun k hk => .inl (h.base k hk), fun k hk => hk.elim (h.top k) (fun e => .inr (.inl (e ▸ h0))), h.keep⟩
theorem zEo {s d : TypeId} {x : AV} {u : Value} (hs : SR E I loc σ a w) (hsrc : (P.underlying s).isSome = true) (hx : VR w I loc x u) {K : Cont} (h : R2 P s d x σ.obj K) :
  ∃ v rd w' I' r, K v rd [] ∧ (convert s d u).run P w = .ok r w' ∧ SR E I' loc σ a w' ∧ VR w' I' loc v r := by
 unfold R2 at h
 split at h
 ·rename_i e b hd
  obtain ⟨h1, h2, hK⟩ := h
  have ev := hx.raw_eq
  subst ev
  have hrun := Lib.run_convert_string_bytes (P := P) w s d e b (V8 h1) (c9 hd) (zAF h2)
  have hs1 := hs.grown (w' := Lib.bytesWorld w e b) rfl rfl rfl (by rw [Lib.bytesWorld_size]; omega) (fun k hk => Lib.bytesWorld_at_old w e b k hk) (fun _ => Nat.le_succ _)
  have hs2 := hs1.addI (b := w.heap.size) (Lib.bytesWorld_at_new w e b) hs.fr.size (fun o c hl hk => by have := (hs.objs o).lt hl hk; omega)
  refine ⟨_, _, _, _, _, hK, hrun, hs2, .pure ?_⟩
  by_cases hb : zNw b = []
  ·rw [hb]
   have : b.size = 0 := by rw [← zDR, hb]; rfl
   rw [this]
   exact .nil _ _
  ·have hl := zDR b
   have hge := grownCap_ge w b.size 0 e
   have hp : PR (Lib.bytesWorld w e b) (fun k => I k ∨ k = w.heap.size) (.list (zNw b)) (.slice (some ⟨w.heap.size, 0, none⟩) (zNw b).length (grownCap w b.size 0 e)) := by
    refine .list w.heap.size 0 _ 1 (zNw b) (fun i _ => .int .u8 ((b.data.toList.getD i 0).toNat : Int)) (.inr rfl) (by omega) (by omega) (fun i hi => ?_) (fun i j hi hj => ?_) (fun i hi j hj => ?_)
    ·obtain ⟨c, _, h2⟩ := zDQ hi
     rw [h2]; rfl
    ·have hj0 : j = 0 := by omega
     subst hj0
     rw [show 0 + i * 1 + 0 = i by omega]
     exact Lib.bytesWorld_cell w e b i (by omega)
    ·obtain ⟨c, h1, h2⟩ := zDQ hi
     have hj0 : j = 0 := by
      rw [h2] at hj
      simp only [AV.cells, List.length_cons, List.length_nil] at hj
      omega
     subst hj0
     rw [List.getD_eq_getElem?_getD, h1, Option.getD_some]
     simp only [h2, AV.cells, List.getElem_cons_zero]
     exact .raw _ rfl
   rw [hl] at hp
   exact hp
 ·obtain ⟨v, rd, r, hK, rfl, h1, h2⟩ := zEn (P := P) hs hsrc hx h
  exact ⟨_, _, w, I, r, hK, h2, hs, .pure (.raw _ h1)⟩
theorem zGa {t : TypeId} {x : AV} {u : Value} (hx : VR w I loc x u) {K : Cont} (h : L2 P t x K) : ∃ v r, K v [] [] ∧ (Instr.makeInterface t u).run P w = .ok r w ∧ VR w I loc v r := by
 obtain ⟨hc, h⟩ := h
 have hr : (Instr.makeInterface t u).run P w = .ok (.iface t u) w := by
  unfold B3 at hc
  unfold Instr.makeInterface
  cases hu : P.underlying t with
  | none => rw [hu] at hc; cases hc
  | some d =>
   rw [hu] at hc
   rw [Sem.run_bind, run_underlying hu]
   cases d <;> first | rfl | cases hc
 cases x with
 | raw v => have e := hx.raw_eq; subst e; exact ⟨_, _, h, hr, .pure (.raw _ rfl)⟩
 | ptr o off =>
  cases hx with
  | pure hp => cases hp
  | ptr _ _ b c hb => exact ⟨_, _, h, hr, .ifp _ _ _ b c hb⟩
 | agg cs =>
  simp only at h
  cases hq : l0 cs with
  | none => simp only [hq] at h
  | some l =>
   simp only [hq] at h
   obtain ⟨vs, rfl, hl, hv⟩ := hx.agg_inv
   have e : vs.toList = l := K5 hq vs.toList (by simpa using hl) (fun i h h' => by have := hv i h (by simpa using h'); simpa using this)
   have e2 : vs = l.toArray := by rw [← e]
   subst e2
   exact ⟨_, _, h, hr, .pure (.raw _ rfl)⟩
 | _ => exact h.elim
theorem zHG {x : AV} {u : Value} {K : Cont} {ty : TypeId} (hs : SR E I loc σ a w) (hx : VR w I loc x u) (h : P6 x σ.obj K) :
  ∃ v rd wr y w', K v rd wr ∧ (Instr.next u true ty).run P w = .ok y w' ∧ SR E I loc (σ.writes wr) a w' ∧ VR w' I loc v y := by
 unfold P6 at h
 split at h
 ·rename_i o
  generalize hA : σ.obj o = A at h
  cases A with
  | siter s pos =>
   obtain ⟨k1, k2⟩ := h
   cases hx with
   | pure hx => cases hx
   | ptr _ _ b c hl =>
    have ho := hs.objs o
    rw [hA] at ho
    have hlive : (σ.obj o).live = true := by rw [hA]; rfl
    obtain ⟨b', h1, h2⟩ := ho
    rw [hl] at h1; cases h1
    by_cases hp : pos < s.size
    ·refine ⟨_, _, _, _, _, k1 hp, Lib.run_next_any_at w b s pos ty h2 hp, ?_, .tup _ _ rfl (fun i hi hi' => ?_)⟩
     ·exact hs.writeG (w' := w.iterAt b s (pos + (Utf8.decode s pos).2)) (A := .siter s (pos + (Utf8.decode s pos).2)) hlive hl rfl rfl rfl (by simp [World.iterAt]) (fun k hk => by simp [World.iterAt, Array.getElem?_setIfInBounds, hk.symm]) ⟨b, hl, Lib.iterAt_heap w b s pos _ h2⟩ (by simp)
     ·have : i = 0 ∨ i = 1 ∨ i = 2 := by simp at hi; omega
      rcases this with rfl | rfl | rfl <;> exact .pure (.raw _ rfl)
    ·refine ⟨_, _, _, _, _, k2 hp, Lib.run_next_end_at w b s pos ty h2 hp, ?_, .tup _ _ rfl (fun i hi hi' => ?_)⟩
     ·exact hs.writeG (A := .siter s pos) hlive hl rfl rfl rfl rfl (fun _ _ => rfl) ⟨b, hl, h2⟩ (by simp)
     ·have : i = 0 := by simp at hi; omega
      subst this; exact .pure (.raw _ rfl)
  | _ => exact h.elim
 ·exact h.elim
theorem zFC {x : AV} {u : Value} {K : Cont} (hs : SR E I loc σ a w) (hx : VR w I loc x u) (h : R3 x σ.obj K) :
  ∃ v rd y, K v rd [] ∧ (Instr.entry u).run P w = .ok y w ∧ VR w I loc v y := by
 unfold R3 at h
 split at h
 ·rename_i o
  generalize hA : σ.obj o = A at h
  cases A with
  | iter cur ks xs =>
   cases cur with
   | none => exact h.elim
   | some p =>
    obtain ⟨k, x⟩ := p
    simp only at h
    cases hx with
    | pure hx => cases hx
    | ptr _ _ b c hl =>
     have ho := hs.objs o
     rw [hA] at ho
     obtain ⟨b', h1, ⟨_, _, _, _, h2, _⟩ | ⟨m, es, clock, seen, h2, h3, h4, h5, h6, h7, h8⟩⟩ := ho
     ·cases h2
     ·rw [hl] at h1; cases h1
      obtain ⟨e, g1, g2, g3, g4⟩ := h8 _ rfl
      have hseen : ∃ s' : Array Nat, seen = s'.push e.born := by
       have hne : seen ≠ #[] := fun e => by subst e; simp at g2
       obtain ⟨s', y, rfl⟩ := Array.exists_push_of_ne_empty hne
       simp at g2; subst g2; exact ⟨s', rfl⟩
      obtain ⟨s', rfl⟩ := hseen
      have hborn : (es.toList.map (·.born)).Nodup := by
       rw [List.nodup_iff_pairwise_ne, List.pairwise_map]
       exact h5.2.2.2.2.1.imp (fun h => by omega)
      refine ⟨_, _, _, h, run_entry_at w b m clock s' es clock e h2 h4 g1 hborn, ?_⟩
      refine .tup _ _ rfl (fun i hi hi' => ?_)
      have : i = 0 ∨ i = 1 := by simp at hi; omega
      rcases this with rfl | rfl
      ·subst g3; exact K3 _
      ·exact .pure g4
  | _ => exact h.elim
 ·exact h.elim
end
end Go.Abs

namespace Go.Abs
open Go
section
variable {P : Program} {E : Env} {I : Nat → Prop} {loc : Nat → Loc} {σ : AS} {a : Act} {w : World}
theorem SR.putD (h : SR E I loc σ a w) {d : Option Tmp} {v : AV} {x : Value} (hv : VR w I loc v x) (hd : ∀ t, d = some t → t < σ.n) : SR E I loc (σ.putD d v) (a.put d x) w := by
 cases d with
 | none => exact h
 | some t => exact h.put hv (hd t rfl)
theorem S5 {o : Oper} {x : Value} {w' : World} {next : Act → World → Prop} {Q : Exit → Act → World → Prop} (hr : (execOp a.eval o).run P w = .ok (.value x) w') (h : next (a.put o.dst x) w') : o.wp P a w next Q := by
 unfold Oper.wp; rw [hr]; exact h
theorem zA1 {o : Oper} {w' : World} {next : Act → World → Prop} {Q : Exit → Act → World → Prop} (hr : (execOp a.eval o).run P w = .ok .skip w') (h : next (a.put o.dst undef) w') : o.wp P a w next Q := by
 unfold Oper.wp; rw [hr]; exact h
theorem zJy {o : Oper} {f : FuncId} {args : Array Value} {w' : World} {next : Act → World → Prop} {Q : Exit → Act → World → Prop} (hr : (execOp a.eval o).run P w = .ok (.enter f args) w')
  (h : Calls P f args w' fun e w'' => ∃ v, e = .returned v ∧ next (a.put o.dst v) w'') : o.wp P a w next Q := by
 unfold Oper.wp; rw [hr]
 exact h.mono (fun e w'' ⟨v, he, hv⟩ => by subst he; exact hv)
theorem U1 : VR w I loc (.tup []) undef := .tup [] #[] rfl (fun i h => by simp at h)
theorem zAg {f : FuncId} (h : r8 P f = true) (args : Array Value) : (callFunc f args).run P w = .ok (.enter f args) w := by
 unfold r8 at h
 cases hf : P.funcs[f]? with
 | none => rw [hf] at h; cases h
 | some fn =>
  rw [hf] at h
  simp at h
  obtain ⟨h1, h2⟩ := h
  have h3 : fn.body.isNone = false := by cases hb : fn.body <;> simp_all
  simp only [callFunc, Sem.run_bind, run_program, Result.andThen_ok, hf]
  have h4 : (fn.name == "runtime.NumGoroutine") = false := by simpa using h2
  simp [h4, h3]
theorem X5 (hs : SR E I loc σ a w) (args : Array Operand) : (args.toList.map σ.ev).length = (args.map a.eval).size ∧ ∀ i (h : i < (args.toList.map σ.ev).length) (h' : i < (args.map a.eval).size), VR w I loc (args.toList.map σ.ev)[i] (args.map a.eval)[i] := by
 refine ⟨by simp, fun i h h' => ?_⟩
 simp only [List.getElem_map, Array.getElem_toList, Array.getElem_map]
 exact hs.ev _
theorem H0 (hs : SR E I loc σ a w) {o : Oper} {nx : Nat} {K : Cont} (h : zNj P o σ.ev σ.obj nx K) (hd : ∀ d, o.dst = some d → d < σ.n) {next : Act → World → Prop} {Q : Exit → Act → World → Prop}
    (hn : ∀ v rd wr a' w', K v rd wr → St E ((σ.writes wr).putD o.dst v) a' w' → next a' w') : o.wp P a w next Q := by
  have hdw : ∀ wr, ∀ d, o.dst = some d → d < (σ.writes wr).n := fun wr d e => by rw [(f9 wr σ).1]; exact hd d e
  -- the ways to end
  have val : ∀ {v rd x}, K v rd [] → (execOp a.eval o).run P w = .ok (.value x) w → VR w I loc v x → o.wp P a w next Q := fun {v rd x} hK hr hv =>
    S5 hr (hn v rd [] _ _ hK ⟨I, loc, hs.putD hv hd⟩)
  have mem : ∀ {v rd wr x w' I' loc'}, K v rd wr → (execOp a.eval o).run P w = .ok (.value x) w' → SR E I' loc' (σ.writes wr) a w' → VR w' I' loc' v x → o.wp P a w next Q := fun {v rd wr x w' I' loc'} hK hr hsr hv =>
    S5 hr (hn v rd wr _ _ hK ⟨I', loc', hsr.putD hv (hdw wr)⟩)
  have call : ∀ {f avs vs}, (execOp a.eval o).run P w = .ok (.enter f vs) w → y4 P f avs σ.obj nx K → avs.length = vs.size → (∀ i (h : i < avs.length) (h' : i < vs.size), VR w I loc avs[i] vs[i]) → o.wp P a w next Q := by
    intro f avs vs hr hc hl hv
    obtain ⟨r, rd, wr, hK, hc⟩ := zEd hs hl hv hc
    refine zJy hr (hc.mono ?_)
    rintro e w' ⟨v, I', loc', he, hsr, hvr⟩
    exact ⟨v, he, hn _ _ _ _ _ hK ⟨I', loc', hsr.putD hvr (hdw _)⟩⟩
  unfold zNj at h
  cases hop : o.op <;> rw [hop] at h <;> simp only at h <;> try (first | exact h.elim | skip)
  case move x => exact val h (by simp [execOp, hop]) (hs.ev x)
  case assign x => exact val h (by simp [execOp, hop]) (hs.ev x)
  case pick c x y =>
    obtain ⟨v, z, hK, hr, hv⟩ := zHe (P := P) (hs.ev c) (hs.ev x) (hs.ev y) h
    exact val hK (by simp only [execOp, hop]; exact hr) hv
  case alloc t =>
    obtain ⟨v, rd, A, w', loc', y, hK, hr, hsr, hv⟩ := zDx hs h
    exact mem hK (by simp only [execOp, hop, Sem.run_bind, hr, Result.andThen_ok, Sem.run_pure]) hsr hv
  case box t x =>
    obtain ⟨v, rd, A, w', loc', y, hK, hr, hsr, hv⟩ := zEX (P := P) (t := t) hs (hs.ev x) h
    exact mem hK (by simp only [execOp, hop, Sem.run_bind, hr, Result.andThen_ok, Sem.run_pure]) hsr hv
  case build t ps =>
    obtain ⟨v, y, hK, hr, hv⟩ := zEa hs h
    exact val hK (by simp only [execOp, hop, Sem.run_bind, hr, Result.andThen_ok, Sem.run_pure]) hv
  case buildSlice t n ps =>
    obtain ⟨v, rd, wr, w', I', loc', y, hK, hr, hsr, hv⟩ := zEc hs h
    exact mem hK (by simp only [execOp, hop, Sem.run_bind, hr, Result.andThen_ok, Sem.run_pure]) hsr hv
  case load t x =>
    obtain ⟨v, rd, y, hK, hr, hv⟩ := zCJ (P := P) hs (hs.ev x) h
    exact val hK (by simp only [execOp, hop, Sem.run_bind, hr, Result.andThen_ok, Sem.run_pure]) hv
  case store t x y =>
    obtain ⟨rd, ob, A, w', hK, hr, hsr⟩ := zJd (P := P) hs (hs.ev x) (hs.ev y) h
    exact zA1 (by simp only [execOp, hop, Sem.run_bind, hr, Result.andThen_ok, Sem.run_pure]) (hn _ _ _ _ _ hK ⟨I, loc, SR.putD (σ := σ.writes [(ob, A)]) hsr U1 (hdw [(ob, A)])⟩)
  case nilCheck x =>
    obtain ⟨hK, hv⟩ := zHM (hs.ev x) h
    refine val hK ?_ (hs.ev x)
    simp only [execOp, hop]
    revert hv
    generalize a.eval x = v
    intro hv
    cases v with
    | pointer p => cases p with
      | none => exact hv.elim
      | some p => simp
    | func fn f c => cases fn with
      | method n => exact hv.elim
      | _ => simp
    | nilFunc => exact hv.elim
    | nilIface => exact hv.elim
    | _ => simp
  case binOp op t x y u =>
    obtain ⟨z, r, hK, rfl, hr1, hr⟩ := zEW (P := P) (ox := x) (oy := y) (hs.ev x) (hs.ev y) h
    unfold I6 at hr
    exact val hK (by simp only [execOp, hop]; rw [Sem.run_bind, hr]; rfl) (.pure (.raw _ hr1))
  case unOp op t x =>
    obtain ⟨z, r, hK, rfl, hr1, hr⟩ := zJq (P := P) (w := w) (hs.ev x) h
    exact val hK (by simp only [execOp, hop, Sem.run_bind, hr, Result.andThen_ok, Sem.run_pure]) (.pure (.raw _ hr1))
  case convert s d x =>
    obtain ⟨z, rd, w', I', r, hK, hr, hsr, hv⟩ := zEo (P := P) (w := w) hs h.1 (hs.ev x) h.2
    exact mem hK (by simp only [execOp, hop, Sem.run_bind, hr, Result.andThen_ok, Sem.run_pure]) hsr hv
  case makeInterface t x =>
    obtain ⟨z, r, hK, hr, hv⟩ := zGa (P := P) (hs.ev x) h
    exact val hK (by simp only [execOp, hop, Sem.run_bind, hr, Result.andThen_ok, Sem.run_pure]) hv
  case makeFunc fn first cs =>
    cases fn with
    | func f =>
      obtain ⟨rfl, h⟩ := h
      obtain ⟨h1, h2⟩ := X5 hs cs
      exact val h (by simp [execOp, hop, Instr.makeFunc]) (.fn _ _ _ h1 h2)
    | _ => exact h.elim
  case makeSlice t x y =>
    obtain ⟨v, rd, A, w', loc', r, hK, hr, hsr, hv⟩ := zG6 hs (hs.ev x) (hs.ev y) h
    exact mem hK (by simp only [execOp, hop, Sem.run_bind, hr, Result.andThen_ok, Sem.run_pure]) hsr hv
  case slice t x lo hi mx =>
    have hopt : ∀ (z : Option Operand), (∀ x, z.map σ.ev = some x → ∃ v, z.map a.eval = some v ∧ VR w I loc x v) ∧ (z.map σ.ev = none → z.map a.eval = none) := fun z => by
      cases z with
      | none => exact ⟨fun x h => by simp at h, fun _ => rfl⟩
      | some z => exact ⟨fun x h => by simp at h; subst h; exact ⟨_, rfl, hs.ev z⟩, fun h => by simp at h⟩
    obtain ⟨v, y, hK, hr, hv⟩ := zIR (P := P) (hs.ev x) (hopt lo).1 (hopt lo).2 (hopt hi).1 (hopt hi).2 (hopt mx).2 h
    exact val hK (by simp only [execOp, hop, Sem.run_bind, hr, Result.andThen_ok, Sem.run_pure]) hv
  case fieldAddr s x f =>
    obtain ⟨v, y, hK, hr, hv⟩ := zFM (P := P) (hs.ev x) h
    exact val hK (by simp only [execOp, hop, Sem.run_bind, hr, Result.andThen_ok, Sem.run_pure]) hv
  case field s x f =>
    obtain ⟨v, y, hK, hr, hv⟩ := zFL (P := P) (hs.ev x) h
    exact val hK (by simp only [execOp, hop, Sem.run_bind, hr, Result.andThen_ok, Sem.run_pure]) hv
  case indexAddr t x i =>
    obtain ⟨v, y, hK, hr, hv⟩ := zGc (P := P) (hs.ev x) (hs.ev i) h
    exact val hK (by simp only [execOp, hop, Sem.run_bind, hr, Result.andThen_ok, Sem.run_pure]) hv
  case index t x i =>
    obtain ⟨v, y, hK, hr, hv⟩ := zGb (P := P) (hs.ev x) (hs.ev i) h
    exact val hK (by simp only [execOp, hop, Sem.run_bind, hr, Result.andThen_ok, Sem.run_pure]) hv
  case extract x i =>
    obtain ⟨v, y, hK, hr, hv⟩ := zFJ (P := P) (hs.ev x) h
    exact val hK (by simp only [execOp, hop, Sem.run_bind, hr, Result.andThen_ok, Sem.run_pure]) hv
  case makeMap t r =>
    have hopt : ∀ (z : Option Operand), (∀ x, z.map σ.ev = some x → ∃ v, z.map a.eval = some v ∧ VR w I loc x v) ∧ (z.map σ.ev = none → z.map a.eval = none) := fun z => by
      cases z with
      | none => exact ⟨fun x h => by simp at h, fun _ => rfl⟩
      | some z => exact ⟨fun x h => by simp at h; subst h; exact ⟨_, rfl, hs.ev z⟩, fun h => by simp at h⟩
    obtain ⟨v, rd, A, w', loc', y, hK, hr, hsr, hv⟩ := zG5 (P := P) hs (hopt r).1 (hopt r).2 h
    exact mem hK (by simp only [execOp, hop, Sem.run_bind, hr, Result.andThen_ok, Sem.run_pure]) hsr hv
  case mapUpdate t m k x =>
    obtain ⟨rd, wr, w', I', hK, hr, hsr⟩ := zCM (P := P) hs (hs.ev m) (hs.ev k) (hs.ev x) h
    exact zA1 (by simp only [execOp, hop, Sem.run_bind, hr, Result.andThen_ok, Sem.run_pure]) (hn _ _ _ _ _ hK ⟨I', loc, SR.putD (σ := σ.writes wr) hsr U1 (hdw wr)⟩)
  case insert t m k x =>
    obtain ⟨rd, wr, w', I', hK, hr, hsr⟩ := zCM (P := P) hs (hs.ev m) (hs.ev k) (hs.ev x) h
    exact zA1 (by simp only [execOp, hop, Sem.run_bind, hr, Result.andThen_ok, Sem.run_pure]) (hn _ _ _ _ _ hK ⟨I', loc, SR.putD (σ := σ.writes wr) hsr U1 (hdw wr)⟩)
  case lookup t m k ok =>
    obtain ⟨v, rd, y, hK, hr, hv⟩ := zG4 (P := P) hs (hs.ev m) (hs.ev k) h
    exact val hK (by simp only [execOp, hop, Sem.run_bind, hr, Result.andThen_ok, Sem.run_pure]) hv
  case range t x =>
    obtain ⟨v, rd, A, w', loc', y, hK, hr, hsr, hv⟩ := zHx (P := P) hs (hs.ev x) h
    exact mem hK (by simp only [execOp, hop, Sem.run_bind, hr, Result.andThen_ok, Sem.run_pure]) hsr hv
  case next x b =>
    obtain ⟨rfl, h⟩ := h
    obtain ⟨v, rd, wr, y, w', hK, hr, hsr, hv⟩ := zHG (P := P) (ty := o.type) hs (hs.ev x) h
    exact mem hK (by simp only [execOp, hop, Sem.run_bind, hr, Result.andThen_ok, Sem.run_pure]) hsr hv
  case entry x =>
    obtain ⟨v, rd, y, hK, hr, hv⟩ := zFC (P := P) hs (hs.ev x) h
    exact val hK (by simp only [execOp, hop, Sem.run_bind, hr, Result.andThen_ok, Sem.run_pure]) hv
  case call c =>
    obtain ⟨callee, args, ts⟩ := c
    cases callee with
    | invoke r m => exact h.elim
    | builtin b =>
      simp only [R0] at h
      have hexec : (execOp a.eval o).run P w = (builtin b ts o.type (args.map fun | .const _ => true | _ => false) (args.map a.eval)).run P w := by
        simp only [execOp, hop, resolve, Sem.run_bind, Sem.run_pure, Result.andThen_ok, invoke]
        rfl
      unfold N9 at h
      split at h
      · rename_i x hx
        obtain ⟨h0, h⟩ := h
        cases hn' : L5 P (ts.getD 0 0) x with
        | none => simp only [hn'] at h
        | some n =>
          simp only [hn'] at h
          obtain ⟨g1, g2⟩ := X5 hs args
          rw [hx] at g1
          have hsz : (args.map a.eval).size = 1 := by simpa using g1.symm
          have hargs : args.map a.eval = #[(args.map a.eval)[0]'(by omega)] := by
            apply Array.ext
            · simpa using hsz
            · intro i h1 h2; have : i = 0 := by omega
              subst this; rfl
          have hv0 : VR w I loc x ((args.map a.eval)[0]'(by omega)) := by
            have := g2 0 (by rw [hx]; simp) (by omega)
            simpa only [hx, List.getElem_cons_zero] using this
          have hr := zGu (P := P) hv0 hn' ts rfl h0 o.type
          rw [← hargs] at hr
          exact val h (by rw [hexec]; simp only [builtin, Sem.run_bind, hr, Result.andThen_ok, Sem.run_pure]) (.pure (.raw _ rfl))
      · rename_i s x hx
        obtain ⟨g1, g2⟩ := X5 hs args
        rw [hx] at g1
        have hsz : (args.map a.eval).size = 2 := by simpa using g1.symm
        have hargs : args.map a.eval = #[(args.map a.eval)[0]'(by omega), (args.map a.eval)[1]'(by omega)] := by
          apply Array.ext
          · simpa using hsz
          · intro i h1 h2
            have : i = 0 ∨ i = 1 := by omega
            rcases this with rfl | rfl <;> rfl
        have hv0 : VR w I loc s ((args.map a.eval)[0]'(by omega)) := by
          have := g2 0 (by rw [hx]; simp) (by omega)
          simpa only [hx, List.getElem_cons_zero] using this
        have hv1 : VR w I loc x ((args.map a.eval)[1]'(by omega)) := by
          have := g2 1 (by rw [hx]; simp) (by omega)
          simpa only [hx, List.getElem_cons_succ, List.getElem_cons_zero] using this
        obtain ⟨z, rd, wr, w', loc', r, hK, hr, hsr, hv⟩ : ∃ z rd wr w' loc' r, K z rd wr ∧ (Builtin.append_ ts o.type (args.map a.eval)).run P w = .ok r w' ∧ SR E I loc' (σ.writes wr) a w' ∧ VR w' I loc' z r := by
          split at h
          · obtain ⟨hts, h⟩ := h
            rw [hargs, hts]
            exact zDz (P := P) (ty := o.type) hs hv0 hv1 h (fun ys k hk => M0 ys k hk)
          · obtain ⟨hts, h⟩ := h
            rw [hargs, hts]
            exact zDy (P := P) (ty := o.type) hs hv0 hv1 h
        exact mem hK (by rw [hexec]; simp only [builtin, Sem.run_bind, hr, Result.andThen_ok, Sem.run_pure]) hsr hv
      · rename_i ob sz len hx
        obtain ⟨rfl, h⟩ := h
        obtain ⟨g1, g2⟩ := X5 hs args
        rw [hx] at g1
        have hsz : (args.map a.eval).size = 1 := by simpa using g1.symm
        have hv0 : VR w I loc (.own ob 1 0 (len + 1)) ((args.map a.eval)[0]'(by omega)) := by
          have := g2 0 (by rw [hx]; simp) (by omega)
          simpa only [hx, List.getElem_cons_zero] using this
        have hargs : args.map a.eval = #[(args.map a.eval)[0]'(by omega)] := by
          apply Array.ext
          · simpa using hsz
          · intro i h1 h2; have : i = 0 := by omega
            subst this; rfl
        generalize (args.map a.eval)[0]'(by omega) = v0 at hv0 hargs
        rcases hv0.own_inv with ⟨_, _, hx0, _⟩ | ⟨b, c, ad, cap, hl, rfl, q1, q2, q3⟩
        · cases hx0
        · have had := q3 (by omega)
          subst had
          refine val (x := .pointer (some ⟨b, 0 * 1, none⟩)) h (by rw [hexec, hargs]; simp only [builtin, Sem.run_bind, Lib.run_unsafeSliceData_row _ _ _ _ _ _ (show cap ≠ 0 by omega), Result.andThen_ok, Sem.run_pure]) ?_
          have := VR.eptr (w := w) (I := I) (loc := loc) ob 1 0 0 b c hl
          simpa using this
      · rename_i ob sz k n hx
        generalize hA : σ.obj ob = A at h
        cases A with
        | brow e l =>
          obtain ⟨rfl, rfl, rfl, hne, hmx, hce, hpt, h⟩ := h
          obtain ⟨g1, g2⟩ := X5 hs args
          rw [hx] at g1
          have hsz : (args.map a.eval).size = 2 := by simpa using g1.symm
          have hv0 : VR w I loc (.eptr ob 1 0 0) ((args.map a.eval)[0]'(by omega)) := by
            have := g2 0 (by rw [hx]; simp) (by omega)
            simpa only [hx, List.getElem_cons_zero] using this
          have hv1 : (args.map a.eval)[1]'(by omega) = .int .i64 (l.length : Int) := by
            have := g2 1 (by rw [hx]; simp) (by omega)
            simp only [hx, List.getElem_cons_succ, List.getElem_cons_zero] at this
            exact this.raw_eq
          have hargs : args.map a.eval = #[(args.map a.eval)[0]'(by omega), .int .i64 (l.length : Int)] := by
            apply Array.ext
            · simpa using hsz
            · intro i h1 h2
              have : i = 0 ∨ i = 1 := by omega
              rcases this with rfl | rfl
              · rfl
              · exact hv1
          generalize (args.map a.eval)[0]'(by omega) = v0 at hv0 hargs
          have hor := hs.objs ob
          rw [hA] at hor
          have hlive : (σ.obj ob).live = true := by rw [hA]; rfl
          cases hv0 with
          | pure hp => cases hp
          | eptr _ _ _ _ b c hl =>
            rcases hor with ⟨hn, _⟩ | ⟨b', C, hl', hC, hel⟩
            · rw [hl] at hn; cases hn
            rw [hl] at hl'; cases hl'
            have hlC : l.length ≤ C.size := by
              have := congrArg List.length hel
              simp at this; omega
            cases hpu : P.underlying (ts.getD 0 0) with
            | none => rw [hpu] at hpt; exact hpt.elim
            | some d =>
              rw [hpu] at hpt
              cases d with
              | pointer e' =>
                obtain ⟨rfl, hts⟩ := hpt
                have hrun : (Builtin.unsafeString_ ts o.type #[.pointer (some ⟨b, 0, none⟩), .int .i64 (l.length : Int)]).run P w = .ok (.string ⟨l.toArray⟩) (w.freeze ⟨b, 0, none⟩ l.length) := by
                  have := Lib.run_unsafeString_row (P := P) w (ts.getD 0 0) (ts.getD 1 0) o.type e' hpu hce b C.size (by simp [World.shape?, hC]) l hne (by omega) hmx (fun j x hj => by
                    have hjl : j < l.length := (List.getElem?_eq_some_iff.1 hj).1
                    rw [l4, Nat.zero_add, j6 hC (by omega)]
                    have h4 := congrArg (fun q => q[j]?) hel
                    simp only [List.getElem?_take, if_pos hjl, List.getElem?_map, hj, Option.map_some] at h4
                    have hjC : j < C.size := by omega
                    have h5 : C.toList[j]? = some C[j] := by simp [hjC]
                    rw [h5] at h4
                    exact h4)
                  unfold Builtin.unsafeString_ at this ⊢
                  have e0 : ts[0]? = some (ts.getD 0 0) := by
                    rw [Array.getElem?_eq_getElem hts]
                    simp [hts]
                  rw [e0]
                  exact this
                have h0 : l.length ≠ 0 := fun e => hne (List.eq_nil_of_length_eq_zero e)
                have hz : (w.freeze ⟨b, 0, none⟩ l.length).heap.size = w.heap.size := by simp [World.freeze, h0]
                have hsr := hs.writeG (w' := w.freeze ⟨b, 0, none⟩ l.length) (A := .dead) hlive hl (by simp [World.freeze, h0]) (by simp [World.freeze, h0]) (by simp [World.freeze, h0]) hz (fun k hk => by
                  simp only [World.freeze, if_neg h0, Array.getElem?_modify]
                  rw [if_neg (fun e => hk e.symm)]) trivial (by simp) (fun _ => by simp [World.freeze, h0])
                refine mem h (by rw [hexec, hargs]; simp only [builtin, Nat.zero_mul, Nat.zero_add, Sem.run_bind, hrun, Result.andThen_ok, Sem.run_pure]) hsr (.pure (.raw _ rfl))
              | _ => exact hpt.elim
        | _ => exact h.elim
      all_goals first
        | exact h.elim
        | (rename_i k x k' y hx
           obtain ⟨g1, g2⟩ := X5 hs args
           rw [hx] at g1
           have hsz : (args.map a.eval).size = 2 := by simpa using g1.symm
           have hv0 : (args.map a.eval)[0]'(by omega) = .int k x := by
             have := g2 0 (by rw [hx]; simp) (by omega)
             simp only [hx, List.getElem_cons_zero] at this
             exact this.raw_eq
           have hv1 : (args.map a.eval)[1]'(by omega) = .int k' y := by
             have := g2 1 (by rw [hx]; simp) (by omega)
             simp only [hx, List.getElem_cons_succ, List.getElem_cons_zero] at this
             exact this.raw_eq
           have hargs : args.map a.eval = #[.int k x, .int k' y] := by
             apply Array.ext
             · simpa using hsz
             · intro i h1 h2
               have : i = 0 ∨ i = 1 := by omega
               rcases this with rfl | rfl
               · exact hv0
               · exact hv1
           exact val h (by rw [hexec, hargs]; simp [builtin, Builtin.max_, Builtin.min_, Builtin.max2, Builtin.min2, zOX, zOh]) (.pure (.raw _ rfl)))
    | value fo =>
      simp only [R0] at h
      have hfo := hs.ev fo
      obtain ⟨g1, g2⟩ := X5 hs args
      unfold M1 at h
      split at h
      · rename_i f fs caps hfe
        obtain ⟨hc, rfl, rfl, h⟩ := h
        rw [hfe] at hfo
        have e := hfo.raw_eq
        refine call ?_ h g1 g2
        simp only [execOp, hop, resolve, e, Deferred.ofValue, Sem.run_bind, Sem.run_pure, Result.andThen_ok, invoke, Array.append_empty, Array.empty_append]
        exact zAg hc _
      · rename_i f caps hfe
        obtain ⟨hc, h⟩ := h
        rw [hfe] at hfo
        generalize hfv : a.eval fo = fv at hfo
        cases hfo with
        | pure hp => cases hp
        | fn _ _ vs q1 q2 =>
          refine call (vs := args.map a.eval ++ vs) ?_ h (by simp only [List.length_append, Array.size_append]; omega) (fun i h1 h2 => ?_)
          · simp only [execOp, hop, resolve, hfv, Deferred.ofValue, Sem.run_bind, Sem.run_pure, Result.andThen_ok, invoke, Array.empty_append]
            exact zAg hc _
          · by_cases hlt : i < (args.toList.map σ.ev).length
            · rw [List.getElem_append_left hlt, Array.getElem_append_left (by omega)]
              exact g2 i hlt _
            · rw [List.getElem_append_right (by omega), Array.getElem_append_right (by omega)]
              have e3 : i - (args.map a.eval).size = i - (args.toList.map σ.ev).length := by omega
              simp only [e3]
              exact q2 _ _ _
      · exact h.elim
end
end Go.Abs

namespace Go.Abs
open Go
def Fix (F : (Nat → AObj) → Cont → Prop) : Prop := ∀ H K, F H K → ∃ v rd wr, K v rd wr ∧ ∀ H', (∀ o, o ∈ rd → H' o = H o) → ∀ K' : Cont, K' v rd wr → F H' K'
theorem Fix.out (v : AV) (rd : List Nat) (wr : List (Nat × AObj)) : Fix (fun _ K => K v rd wr) := fun _ _ h => ⟨v, rd, wr, h, fun _ _ _ h' => h'⟩
theorem Fix.no : Fix (fun _ _ => False) := fun _ _ h => h.elim
theorem Fix.and {A : Prop} {F : (Nat → AObj) → Cont → Prop} (h : Fix F) : Fix (fun H K => A ∧ F H K) := fun H K ⟨ha, hf⟩ =>
 let ⟨v, rd, wr, h1, h2⟩ := h H K hf
 ⟨v, rd, wr, h1, fun H' hh K' hk => ⟨ha, h2 H' hh K' hk⟩⟩
theorem Fix.ite {c : Prop} [Decidable c] {F G : (Nat → AObj) → Cont → Prop} (hf : Fix F) (hg : Fix G) : Fix (fun H K => if c then F H K else G H K) := fun H K h => by
 by_cases hc : c
 ·simp only [hc, if_true] at h ⊢; exact hf H K h
 ·simp only [hc, if_false] at h ⊢; exact hg H K h
theorem zFp (c a b : AV) : Fix (fun _ K => O0 c a b K) := by
 unfold O0
 split
 ·exact Fix.out _ _ _
 ·exact Fix.no
theorem zFO (P : Program) (t : TypeId) (nx : Nat) : Fix (fun H K => S7 P t H nx K) := by
 intro H K h
 unfold S7 at h ⊢
 cases hz : zeroT P t with
 | none => simp only [hz] at h
 | some z =>
  simp only [hz] at h ⊢
  exact ⟨_, _, _, h.2.2, fun H' hh K' hk => ⟨h.1, by rw [hh nx (by simp)]; exact h.2.1, hk⟩⟩
theorem zFS (x : AV) (nx : Nat) : Fix (fun H K => zOV x H nx K) := fun H K h =>
 ⟨_, _, _, h.2.2, fun H' hh K' hk => ⟨h.1, by rw [hh nx (by simp)]; exact h.2.1, hk⟩⟩
theorem zFj (P : Program) (t : TypeId) (x : AV) : Fix (fun H K => Z1 P t x H K) := by
 intro H K h
 unfold Z1 at h ⊢
 cases x with
 | ptr o off =>
  simp only at h ⊢
  cases hA : H o with
  | box cs =>
   simp only [hA] at h
   cases hg : v8 P t with
   | none => simp only [hg] at h
   | some ag =>
    cases hs : sizeT P t with
    | none => cases ag <;> simp only [hg, hs] at h
    | some n =>
     cases ag <;> simp only [hg, hs] at h
     ·exact ⟨_, _, _, h.2, fun H' hh K' hk => by simp only [hh o (by simp), hA]; exact ⟨h.1, hk⟩⟩
     ·exact ⟨_, _, _, h.2, fun H' hh K' hk => by simp only [hh o (by simp), hA]; exact ⟨h.1, hk⟩⟩
  | tbox e0 cs =>
   simp only [hA] at h
   cases hg : v8 P t with
   | none => simp only [hg] at h
   | some ag =>
    cases hs : sizeT P t with
    | none => cases ag <;> simp only [hg, hs] at h
    | some n =>
     cases ag <;> simp only [hg, hs] at h
     exact ⟨_, _, _, h.2, fun H' hh K' hk => by simp only [hh o (by simp), hA]; exact ⟨h.1, hk⟩⟩
  | _ => simp only [hA] at h
 | eptr o sz i off =>
  simp only at h ⊢
  cases hA : H o with
  | row sz' xs =>
   simp only [hA] at h
   obtain ⟨h1, h2, h⟩ := h
   cases hg : v8 P t with
   | none => simp only [hg] at h
   | some ag =>
    cases hs : sizeT P t with
    | none => cases ag <;> simp only [hg, hs] at h
    | some n =>
     cases ag <;> simp only [hg, hs] at h
     ·exact ⟨_, _, _, h.2, fun H' hh K' hk => by simp only [hh o (by simp), hA]; exact ⟨h1, h2, h.1, hk⟩⟩
     ·exact ⟨_, _, _, h.2, fun H' hh K' hk => by simp only [hh o (by simp), hA]; exact ⟨h1, h2, h.1, hk⟩⟩
  | box cs =>
   simp only [hA] at h
   cases hg : v8 P t with
   | none => simp only [hg] at h
   | some ag =>
    cases hs : sizeT P t with
    | none => cases ag <;> simp only [hg, hs] at h
    | some n =>
     cases ag <;> simp only [hg, hs] at h
     ·exact ⟨_, _, _, h.2, fun H' hh K' hk => by simp only [hh o (by simp), hA]; exact ⟨h.1, hk⟩⟩
     ·exact ⟨_, _, _, h.2, fun H' hh K' hk => by simp only [hh o (by simp), hA]; exact ⟨h.1, hk⟩⟩
  | _ => simp only [hA] at h
 | elt x =>
  simp only at h ⊢
  cases hg : v8 P t with
  | none => simp only [hg] at h
  | some ag =>
   cases hs : sizeT P t with
   | none => cases ag <;> simp only [hg, hs] at h
   | some n =>
    cases ag <;> simp only [hg, hs] at h
    ·exact ⟨_, _, _, h.2, fun H' hh K' hk => ⟨h.1, hk⟩⟩
    ·exact ⟨_, _, _, h.2, fun H' hh K' hk => ⟨h.1, hk⟩⟩
 | _ => exact h.elim
theorem zFs (P : Program) (t : TypeId) (a x : AV) : Fix (fun H K => V7 P t a x H K) := by
 intro H K h
 unfold V7 at h ⊢
 cases a with
 | ptr o off =>
  simp only at h ⊢
  cases hA : H o with
  | box cs =>
   simp only [hA] at h
   exact ⟨_, _, _, h.2.2.2, fun H' hh K' hk => by simp only [hh o (by simp), hA]; exact ⟨h.1, h.2.1, h.2.2.1, hk⟩⟩
  | tbox e0 cs =>
   simp only [hA] at h
   exact ⟨_, _, _, h.2.2.2.2, fun H' hh K' hk => by simp only [hh o (by simp), hA]; exact ⟨h.1, h.2.1, h.2.2.1, h.2.2.2.1, hk⟩⟩
  | _ => simp only [hA] at h
 | eptr o sz i off =>
  simp only at h ⊢
  cases hA : H o with
  | row sz' xs =>
   simp only [hA] at h
   obtain ⟨h1, h2, h3, h4, h5, h⟩ := h
   by_cases hc : off = 0 ∧ x.cells.length = sz
   ·rw [if_pos hc] at h
    exact ⟨_, _, _, h, fun H' hh K' hk => by simp only [hh o (by simp), hA]; exact ⟨h1, h2, h3, h4, h5, by rw [if_pos hc]; exact hk⟩⟩
   ·rw [if_neg hc] at h
    exact ⟨_, _, _, h.2, fun H' hh K' hk => by simp only [hh o (by simp), hA]; exact ⟨h1, h2, h3, h4, h5, by rw [if_neg hc]; exact ⟨h.1, hk⟩⟩⟩
  | box cs =>
   simp only [hA] at h
   exact ⟨_, _, _, h.2.2.2, fun H' hh K' hk => by simp only [hh o (by simp), hA]; exact ⟨h.1, h.2.1, h.2.2.1, hk⟩⟩
  | _ => simp only [hA] at h
 | _ => exact h.elim
theorem zFo (x : AV) : Fix (fun _ K => zOQ x K) := by
 unfold zOQ
 split <;> first | exact Fix.out _ _ _ | exact Fix.no
theorem zFi (op : BinOp) (k : IntKind) (a b : Int) : Fix (fun _ K => zOI op k a b K) := by
 unfold zOI
 split
 case h_10 =>
  split <;> first | exact Fix.out _ _ _ | exact Fix.no
 all_goals first | exact Fix.out _ _ _ | exact Fix.and (Fix.out _ _ _)
theorem zFt (op : BinOp) (a b : ByteArray) : Fix (fun _ K => zOR op a b K) := by
 unfold zOR
 split <;> first | exact Fix.out _ _ _ | exact Fix.and (Fix.out _ _ _) | exact Fix.no
theorem zFR (P : Program) (op : BinOp) (t : TypeId) (x y : AV) : Fix (fun _ K => zOB P op t x y K) := by
 unfold zOB
 split
 ·split
  ·exact Fix.and (Fix.out _ _ _)
  ·exact Fix.and (Fix.out _ _ _)
  ·exact Fix.and (zFi _ _ _ _)
 ·exact zFt _ _ _
 ·split
  ·split <;> first | exact Fix.out _ _ _ | exact Fix.no
  ·exact Fix.no
 ·unfold I4
  split
  ·split
   ·split <;> first | exact Fix.out _ _ _ | exact Fix.no
   ·exact Fix.no
  ·exact Fix.no
 ·unfold G8
  split
  ·split <;> first | exact Fix.out _ _ _ | exact Fix.no
  ·exact Fix.no
 ·exact Fix.no
theorem zFu (op : UnOp) (x : AV) : Fix (fun _ K => unA op x K) := by
 unfold unA
 split <;> first | exact Fix.out _ _ _ | exact Fix.no
theorem zFe (P : Program) (s : TypeId) (x : AV) (f : Nat) : Fix (fun _ K => X6 P s x f K) := by
 unfold X6
 split
 ·split
  ·refine Fix.and ?_
   split
   ·exact Fix.out _ _ _
   ·exact Fix.out _ _ _
   ·exact Fix.and (Fix.ite (Fix.out _ _ _) (Fix.and (Fix.and (Fix.and (Fix.out _ _ _)))))
   ·exact Fix.no
  ·exact Fix.no
 ·exact Fix.no
theorem zBi (P : Program) (u : TypeId) (cs : List AV) (off : Nat) : Fix (fun _ K => T5 P u cs off K) := by
 unfold T5
 split <;> first | exact Fix.out _ _ _ | exact Fix.and (Fix.out _ _ _) | exact Fix.no
theorem zFd (P : Program) (s : TypeId) (x : AV) (f : Nat) : Fix (fun _ K => R5 P s x f K) := by
 unfold R5
 split
 ·exact zBi _ _ _ _
 ·exact Fix.no
theorem zFh (P : Program) (t : TypeId) (x i : AV) : Fix (fun _ K => W1 P t x i K) := by
 unfold W1
 split
 ·split
  ·exact Fix.and (Fix.and (Fix.out _ _ _))
  ·exact Fix.and (Fix.and (Fix.out _ _ _))
  ·split
   ·split
    ·exact Fix.and (Fix.out _ _ _)
    ·exact Fix.no
   ·exact Fix.no
  ·exact Fix.no
 ·exact Fix.no
theorem zFg (P : Program) (t : TypeId) (x i : AV) : Fix (fun _ K => R8 P t x i K) := by
 unfold R8
 split
 ·exact Fix.and (Fix.and (Fix.out _ _ _))
 ·split
  ·split
   ·exact Fix.and (zBi _ _ _ _)
   ·exact Fix.no
  ·exact Fix.no
 ·exact Fix.no
theorem zFr (P : Program) (t : TypeId) (x : AV) (lo hi mx : Option AV) : Fix (fun _ K => O8 P t x lo hi mx K) := by
 unfold O8
 split
 ·exact Fix.no
 ·split
  ·refine Fix.and ?_
   split
   ·exact Fix.and (Fix.out _ _ _)
   ·exact Fix.no
  ·split
   ·split
    ·exact Fix.and (Fix.and (Fix.out _ _ _))
    ·exact Fix.no
   ·exact Fix.no
  ·split
   ·exact Fix.and (Fix.and (Fix.out _ _ _))
   ·exact Fix.no
  ·exact Fix.no
theorem zFc (x : AV) (i : Nat) : Fix (fun _ K => R4 x i K) := by
 unfold R4
 split
 ·exact Fix.and (Fix.out _ _ _)
 ·exact Fix.no
theorem zFT (P : Program) (t : TypeId) (ps : List (Nat × AV)) : Fix (fun _ K => buildA P t ps K) := by
 unfold buildA
 split
 ·refine Fix.and (Fix.and (Fix.and ?_))
  split
  ·exact Fix.out _ _ _
  ·exact Fix.no
 ·refine Fix.and (Fix.and ?_)
  split
  ·split
   ·exact Fix.out _ _ _
   ·exact Fix.no
  ·exact Fix.no
 ·exact Fix.no
theorem A4 {H H' : Nat → AObj} : ∀ (n : Nat) (x : AV), Pure (zNW H n x).1 → (∀ o, o ∈ (zNW H n x).2 → H' o = H o) → zNW H' n x = zNW H n x
 | 0, x, _, _ => rfl
 | n + 1, x, hp, hh => by
  have each : ∀ cs : List AV, (∀ c, c ∈ cs → Pure (zNW H n c).1) → (∀ c, c ∈ cs → ∀ o, o ∈ (zNW H n c).2 → H' o = H o) → ∀ c, c ∈ cs → zNW H' n c = zNW H n c := fun cs h1 h2 c hc => A4 n c (h1 c hc) (h2 c hc)
  unfold zNW at hp hh ⊢
  cases x with
  | own o sz off len =>
   simp only at hp hh ⊢
   cases hA : H o with
   | row sz' xs =>
    simp only [hA] at hp hh
    by_cases hc : sz' = sz ∧ off + len ≤ xs.length
    ·rw [if_pos hc] at hp hh
     rw [hh o (by simp), hA]
    ·rw [if_neg hc] at hp; cases hp
   | box cs =>
    simp only [hA] at hp hh
    by_cases hc : sz = 1 ∧ off = 0 ∧ len = cs.length ∧ cs.all (fun c => u1 (zNW H n c).1) = true
    ·rw [if_pos hc] at hp hh
     rw [hh o (by simp), hA]
     simp only
     have hall := hc.2.2.2
     rw [List.all_eq_true] at hall
     have heq := each cs (fun c hm => (M6 (hall c hm)).1) (fun c hm q hq => hh q (by simp; exact .inr ⟨_, ⟨c, hm, rfl⟩, hq⟩))
     have e1 : cs.map (fun c => (zNW H' n c).1) = cs.map (fun c => (zNW H n c).1) := List.map_congr_left (fun c hm => by rw [heq c hm])
     have e2 : cs.map (fun c => (zNW H' n c).2) = cs.map (fun c => (zNW H n c).2) := List.map_congr_left (fun c hm => by rw [heq c hm])
     have e3 : cs.all (fun c => u1 (zNW H' n c).1) = cs.all (fun c => u1 (zNW H n c).1) := by
      rw [Bool.eq_iff_iff, List.all_eq_true, List.all_eq_true]
      exact ⟨fun g c hm => by rw [← heq c hm]; exact g c hm, fun g c hm => by rw [heq c hm]; exact g c hm⟩
     rw [e1, e2, e3]
    ·rw [if_neg hc] at hp; cases hp
   | _ => simp only [hA] at hp; cases hp
  | mp o =>
   simp only at hp hh ⊢
   cases hA : H o with
   | mapo ks xs => simp only [hA] at hh; rw [hh o (by simp), hA]
   | _ => simp only [hA] at hp; cases hp
  | agg cs =>
   simp only at hp hh ⊢
   have hps : ∀ c, c ∈ cs → Pure (zNW H n c).1 := fun c hm => by
    cases hp with
    | agg _ hp => exact hp _ (List.mem_map.2 ⟨c, hm, rfl⟩)
   have heq := each cs hps (fun c hm q hq => hh q (by simp; exact ⟨_, ⟨c, hm, rfl⟩, hq⟩))
   have e1 : cs.map (fun c => (zNW H' n c).1) = cs.map (fun c => (zNW H n c).1) := List.map_congr_left (fun c hm => by rw [heq c hm])
   have e2 : cs.map (fun c => (zNW H' n c).2) = cs.map (fun c => (zNW H n c).2) := List.map_congr_left (fun c hm => by rw [heq c hm])
   rw [e1, e2]
  | raw v =>
   clear hp hh
   cases v with
   | slice a m c => cases a <;> cases m <;> cases c <;> rfl
   | _ => rfl
  | _ => rfl
theorem zFU (P : Program) (t : TypeId) (n : Nat) (ps : List (Nat × AV)) (nx : Nat) : Fix (fun H K => buildSliceA P t n ps H nx K) := by
 intro H K h
 unfold buildSliceA at h ⊢
 cases ht : sliceT P t with
 | none => simp only [ht] at h
 | some e =>
  simp only [ht] at h ⊢
  cases hs : sizeT P e with
  | none => simp only [hs] at h
  | some sz =>
   cases hz : zeroT P e with
   | none => simp only [hs, hz] at h
   | some z =>
    simp only [hs, hz] at h ⊢
    obtain ⟨h1, h2, h3, h4, h6, h⟩ := h
    by_cases hr : zNt z = true
    ·rw [if_pos hr] at h
     obtain ⟨g1, g2, h⟩ := h
     exact ⟨_, _, _, h, fun H' hh K' hk => ⟨h1, h2, h3, h4, by rw [hh nx (by simp)]; exact h6, by rw [if_pos hr]; exact ⟨g1, g2, hk⟩⟩⟩
    ·rw [if_neg hr] at h
     obtain ⟨g, h⟩ := h
     refine ⟨_, _, _, h, fun H' hh K' hk => ⟨h1, h2, h3, h4, by rw [hh nx (by simp)]; exact h6, ?_⟩⟩
     rw [if_neg hr]
     have heq : ∀ p, p ∈ ps → zNW H' 3 p.2 = zNW H 3 p.2 := fun p hm => A4 3 p.2 (g p hm).1 (fun o ho => hh o (by
      rw [List.mem_append]
      exact .inl (List.mem_flatten.2 ⟨_, List.mem_map.2 ⟨p, hm, rfl⟩, ho⟩)))
     have e1 : ps.map (fun p => (zNW H' 3 p.2).2) = ps.map (fun p => (zNW H 3 p.2).2) := List.map_congr_left (fun p hm => by rw [heq p hm])
     have e2 : ps.map (fun p => (zNW H' 3 p.2).1) = ps.map (fun p => (zNW H 3 p.2).1) := List.map_congr_left (fun p hm => by rw [heq p hm])
     rw [e1, e2]
     exact ⟨fun p hm => by rw [heq p hm]; exact g p hm, hk⟩
theorem zFm (P : Program) (t : TypeId) (l c : AV) (nx : Nat) : Fix (fun H K => P2 P t l c H nx K) := by
 intro H K h
 unfold P2 at h ⊢
 split at h
 ·rename_i e k n k' m ht
  cases hs : sizeT P e with
  | none => simp only [hs] at h
  | some sz =>
   cases hb : bytesT P e with
   | none => simp only [hs, hb] at h
   | some b =>
    cases hz : zeroT P e with
    | none => simp only [hs, hb, hz] at h
    | some z =>
     simp only [hs, hb, hz] at h
     obtain ⟨h1, h2, h3, h4, h5, h6, h7, h⟩ := h
     by_cases hr : zNt z = true
     ·rw [if_pos hr] at h
      exact ⟨_, _, _, h.2, fun H' hh K' hk => by simp only [ht, hs, hb, hz]; exact ⟨h1, h2, h3, h4, h5, h6, by rw [hh nx (by simp)]; exact h7, by rw [if_pos hr]; exact ⟨h.1, hk⟩⟩⟩
     ·rw [if_neg hr] at h
      exact ⟨_, _, _, h, fun H' hh K' hk => by simp only [ht, hs, hb, hz]; exact ⟨h1, h2, h3, h4, h5, h6, by rw [hh nx (by simp)]; exact h7, by rw [if_neg hr]; exact hk⟩⟩
 ·exact h.elim
theorem O4 {H H' : Nat → AObj} {sz : Nat} {x : AV} {ys : List AV} {rd : List Nat} (h : r9 H sz x = some (ys, rd)) (hh : ∀ o, o ∈ rd → H' o = H o) : r9 H' sz x = some (ys, rd) := by
 unfold r9 at h ⊢
 split at h
 ·exact h
 ·rename_i o sz' off len
  cases hA : H o with
  | row s xs =>
   simp only [hA] at h
   split at h
   ·rename_i hc
    simp at h
    rw [hh o (by rw [← h.2]; simp), hA]
    simp only
    rw [if_pos hc, h.1, h.2]
   ·cases h
  | box cs =>
   simp only [hA] at h
   split at h
   ·rename_i hc
    simp only [Option.some.injEq, Prod.mk.injEq] at h
    rw [hh o (by rw [← h.2]; simp), hA]
    simp only
    rw [if_pos hc, h.1, h.2]
   ·cases h
  | _ => simp [hA] at h
 ·exact h
 ·cases h
theorem zFP (P : Program) (t : TypeId) (s x : AV) (nx : Nat) : Fix (fun H K => appendA P t s x H nx K) := by
 intro H K h
 unfold appendA at h ⊢
 cases ht : sliceT P t with
 | none => simp only [ht] at h
 | some e =>
  simp only [ht] at h ⊢
  cases hs : sizeT P e with
  | none => simp only [hs] at h
  | some sz =>
   cases hb : bytesT P e with
   | none => simp only [hs, hb] at h
   | some b =>
    cases hz : zeroT P e with
    | none => simp only [hs, hb, hz] at h
    | some z =>
     cases hr : r9 H ((some sz).getD 0) x with
     | none => simp only [hs, hb, hz, hr] at h
     | some yr =>
      obtain ⟨ys, rd⟩ := yr
      simp only [hs, hb, hz, hr] at h
      obtain ⟨h1, h2, h3, h⟩ := h
      by_cases hz' : zNt z = true
      ·rw [if_pos hz'] at h
       split at h
       ·rename_i o sz' len
        generalize hA : H o = A at h
        cases A with
        | box cs =>
         obtain ⟨g1, g2, g3, g4, g5, g6, g7, g⟩ := h
         refine ⟨_, _, _, g, fun H' hh K' hk => ?_⟩
         have hr' := O4 (H' := H') hr (fun o ho => hh o (by simp [ho]))
         simp only [hs, hb, hz, hr', if_pos hz', hh o (by simp), hA]
         exact ⟨h1, h2, h3, g1, g2, g3, g4, by rw [hh nx (by simp)]; exact g5, g6, g7, hk⟩
        | _ => exact h.elim
       ·obtain ⟨g1, g2, g3, g4, g5, g⟩ := h
        refine ⟨_, _, _, g, fun H' hh K' hk => ?_⟩
        have hr' := O4 (H' := H') hr (fun o ho => hh o (by simp [ho]))
        simp only [hs, hb, hz, hr', if_pos hz']
        exact ⟨h1, h2, h3, g1, g2, by rw [hh nx (by simp)]; exact g3, g4, g5, hk⟩
       ·exact h.elim
      ·rw [if_neg hz'] at h
       obtain ⟨hpu, h⟩ := h
       split at h
       ·rename_i o sz' len
        generalize hA : H o = A at h
        cases A with
        | row sz'' xs =>
         obtain ⟨g1, g2, g3, g4, g5, g6, g⟩ := h
         refine ⟨_, _, _, g, fun H' hh K' hk => ?_⟩
         have hr' := O4 (H' := H') hr (fun o ho => hh o (by simp [ho]))
         simp only [hs, hb, hz, hr', if_neg hz', hh o (by simp), hA]
         exact ⟨h1, h2, h3, hpu, g1, g2, g3, by rw [hh nx (by simp)]; exact g4, g5, g6, hk⟩
        | _ => exact h.elim
       ·obtain ⟨g1, g2, g3, g⟩ := h
        refine ⟨_, _, _, g, fun H' hh K' hk => ?_⟩
        have hr' := O4 (H' := H') hr (fun o ho => hh o (by simp [ho]))
        simp only [hs, hb, hz, hr', if_neg hz']
        exact ⟨h1, h2, h3, hpu, by rw [hh nx (by simp)]; exact g1, g2, g3, hk⟩
       ·exact h.elim
theorem zBj {e : TypeId} {s : AV} {l2 : List UInt8} {rd : List Nat} {H : Nat → AObj} {nx : Nat} {K : Cont} (h : zOA e s l2 rd H nx K) : ∃ v rd' wr, K v rd' wr ∧ (∀ o, o ∈ rd → o ∈ rd') ∧ (nx ∈ rd') ∧ ∀ H' : Nat → AObj, (∀ o, o ∈ rd' → H' o = H o) → ∀ K' : Cont, K' v rd' wr → zOA e s l2 rd H' nx K' := by
 unfold zOA at h
 split at h
 ·rename_i o sz' len
  generalize hA : H o = A at h
  cases A with
  | brow e' l =>
   obtain ⟨g1, g2, g3, g4, g⟩ := h
   refine ⟨_, _, _, g, fun q hq => by simp [hq], by simp, fun H' hh K' hk => ?_⟩
   unfold zOA
   simp only [hh o (by simp), hA]
   exact ⟨g1, g2, g3, g4, hk⟩
  | _ => exact h.elim
 ·obtain ⟨g1, g⟩ := h
  refine ⟨_, _, _, g, fun q hq => by simp [hq], by simp, fun H' hh K' hk => ?_⟩
  unfold zOA
  exact ⟨g1, hk⟩
 ·exact h.elim
theorem zFQ (P : Program) (t u : TypeId) (s x : AV) (nx : Nat) : Fix (fun H K => S9 P t u s x H nx K) := by
 intro H K h
 unfold S9 at h ⊢
 cases hts : sliceT P t with
 | none => simp only [hts] at h
 | some e =>
  simp only [hts] at h ⊢
  obtain ⟨h1, h2, h⟩ := h
  unfold zOY at h ⊢
  split at h
  ·obtain ⟨h3, h4, h5⟩ := h
   obtain ⟨v, rd', wr, g1, g2, g3, g4⟩ := zBj h5
   exact ⟨v, rd', wr, g1, fun H' hh K' hk => ⟨h1, by rw [hh nx g3]; exact h2, h3, h4, g4 H' hh K' hk⟩⟩
  ·rename_i o z off len
   obtain ⟨h3, h⟩ := h
   cases hr : r9 H 1 (.own o z off len) with
   | none => simp only [hr] at h
   | some p =>
    obtain ⟨ys, rd⟩ := p
    simp only [hr] at h
    obtain ⟨h4, h⟩ := h
    obtain ⟨l, hl, hne, h5⟩ := M0 _ _ h
    obtain ⟨v, rd', wr, g1, g2, g3, g4⟩ := zBj h5
    refine ⟨v, rd', wr, g1, fun H' hh K' hk => ⟨h1, by rw [hh nx g3]; exact h2, h3, ?_⟩⟩
    rw [O4 hr (fun q hq => hh q (g2 q hq))]
    refine ⟨h4, C5 ys h (fun l' hl' hk2 => ?_)⟩
    have : l' = l := by
     have h3 : l'.map (fun b : UInt8 => AV.raw (.int .u8 (b.toNat : Int))) = l.map (fun b : UInt8 => AV.raw (.int .u8 (b.toNat : Int))) := by rw [← hl', ← hl]
     exact (List.map_inj_right (fun x y hxy => by
      injection hxy with hxy
      injection hxy with _ hxy
      exact UInt8.toNat_inj.1 (by omega))).1 h3
    rw [this]; exact ⟨hne, g4 H' hh K' hk⟩
  ·exact h.elim
theorem zFV (P : Program) (b : Builtin) (ts : Array TypeId) (xs : List AV) (nx : Nat) : Fix (fun H K => N9 P b ts xs H nx K) := by
 unfold N9
 split
 ·refine Fix.and ?_
  split
  ·exact Fix.out _ _ _
  ·exact Fix.no
 ·exact Fix.ite (Fix.and (zFQ _ _ _ _ _ _)) (Fix.and (zFP _ _ _ _ _))
 ·exact Fix.and (Fix.out _ _ _)
 ·intro H K h
  rename_i o sz k n
  generalize hA : H o = A at h
  cases A with
  | brow e l => exact ⟨_, _, _, h.2.2.2.2.2.2.2, fun H' hh K' hk => by simp only [hh o (by simp), hA]; exact ⟨h.1, h.2.1, h.2.2.1, h.2.2.2.1, h.2.2.2.2.1, h.2.2.2.2.2.1, h.2.2.2.2.2.2.1, hk⟩⟩
  | _ => exact h.elim
 ·exact Fix.out _ _ _
 ·exact Fix.out _ _ _
 ·exact Fix.no
theorem Xp.congr {H H' : Nat → AObj} {ρ : Nat → Option (Option Nat)} {F : Nat → Prop} (hh : ∀ o, F o → H' o = H o) {x y : AV} (h : Xp H ρ F x y) : Xp H' ρ F x y := by
 induction h with
 | any x => exact .any x
 | same x h => exact .same x h
 | ptr k o off h => exact .ptr k o off h
 | eptr k o sz i off h => exact .eptr k o sz i off h
 | own k o sz off len h => exact .own k o sz off len h
 | mp k o h => exact .mp k o h
 | yld k o h => exact .yld k o h
 | ifp t k o off h => exact .ifp t k o off h
 | nil k sz h => exact .nil k sz h
 | nill => exact .nill
 | nmapl => exact .nmapl
 | froz o sz off len xs h1 h2 h3 => exact .froz o sz off len xs ((hh o h2).trans h1) h2 h3
 | frozm o ks ks' xs xs' h1 h2 h3 => exact .frozm o ks ks' xs xs' ((hh o h2).trans h1) h2 h3
 | frozb o off len cs xs h1 h2 h3 h4 h5 h6 _ ih => exact .frozb o off len cs xs ((hh o h2).trans h1) h2 h3 h4 h5 h6 ih
 | agg cs ds hl _ ih => exact .agg cs ds hl ih
 | tup cs ds hl _ ih => exact .tup cs ds hl ih
 | fn f cs ds hl _ ih => exact .fn f cs ds hl ih
theorem All2.imp {R S : AV → AV → Prop} (h : ∀ x y, R x y → S x y) {xs ys : List AV} (ha : All2 R xs ys) : All2 S xs ys := by
 induction ha with
 | nil => exact .nil
 | cons h1 _ ih => exact .cons (h _ _ h1) ih
theorem OXp.congr {H H' : Nat → AObj} {ρ : Nat → Option (Option Nat)} {F : Nat → Prop} (hh : ∀ o, F o → H' o = H o) {A B : AObj} (h : OXp H ρ F A B) : OXp H' ρ F A B := by
 cases A <;> cases B <;> first | exact h | exact h.elim | exact ⟨h.1, fun i h1 h2 => (h.2 i h1 h2).congr hh⟩ | exact ⟨h.1, h.2.1, fun i h1 h2 => Xp.congr hh (h.2.2 i h1 h2)⟩ | exact ⟨h.1, h.2.1, fun t => Xp.congr hh (h.2.2 t)⟩
theorem zFW (P : Program) (f : FuncId) (avs : List AV) (nx : Nat) : Fix (fun H K => I8 P f avs H nx K) := by
 intro H K h
 obtain ⟨ids, ex, args, fp, r, out, hm, hK⟩ := h
 refine ⟨_, _, _, hK, fun H' hh K' hk => ⟨ids, ex, args, fp, r, out, ?_, hk⟩⟩
 have hex : ∀ o, o ∈ ex → H' o = H o := fun o ho => hh o (by simp [ho])
 refine ⟨hm.spec, hm.nodup, hm.apart, hm.args.imp (fun _ _ h => h.congr hex), hm.fpl, fun k hk' => ?_, hm.scal, fun j hj => ?_, hm.unb⟩
 ·obtain ⟨h1, h2⟩ := hm.fps k hk'
  have hid : ids.getD k 0 ∈ ids := by
   have : k < ids.length := by rw [← hm.fpl]; exact hk'
   rw [w9 this]; exact List.getElem_mem this
  rw [hh _ (by simp only [List.mem_append]; exact .inl (.inl hid))]
  exact ⟨h1, h2.congr hex⟩
 ·rw [hh _ (by simp only [List.mem_append, i7, List.mem_map, List.mem_range]; exact .inr ⟨j, hj, rfl⟩)]
  exact hm.fresh j hj
theorem zBg (P : Program) (f : FuncId) (avs : List AV) (nx : Nat) : Fix (fun H K => y4 P f avs H nx K) := by
 intro H K h
 obtain ⟨gone, as', hx, h⟩ := h
 obtain ⟨v, rd, wr, hK, hfix⟩ := zFW P f as' nx _ _ h
 refine ⟨_, _, _, hK, fun H' hh K' hk => ⟨gone, as', hx.imp (fun _ _ h => h.congr (fun o ho => hh o (by simp [ho]))), hfix _ (fun o ho => ?_) _ hk⟩⟩
 by_cases hg : o ∈ gone
 ·simp only [hg, if_true]
 ·simp only [hg, if_false]; exact hh o (by simp [ho])
theorem zFl (P : Program) (t : TypeId) (r : Option AV) (nx : Nat) : Fix (fun H K => P1 P t r H nx K) := by
 intro H K h
 unfold P1 at h ⊢
 split at h
 ·exact ⟨_, _, _, h.2, fun H' hh K' hk => ⟨by rw [hh nx (by simp)]; exact h.1, hk⟩⟩
 ·exact ⟨_, _, _, h.2.2, fun H' hh K' hk => ⟨h.1, by rw [hh nx (by simp)]; exact h.2.1, hk⟩⟩
 ·exact h.elim
theorem zBh (P : Program) (t : TypeId) (m k x : AV) : Fix (fun H K => j9 P t m k x H K) := by
 intro H K h
 unfold j9 at h ⊢
 split at h
 ·rename_i kt et o kv hmt hkv
  generalize hA : H o = A at h
  cases A with
  | mapo ks xs =>
   obtain ⟨h1, h2, h3, h4, h5, h⟩ := h
   refine ⟨_, _, _, h, fun H' hh K' hk => ?_⟩
   have he := A4 3 x h4 (fun q hq => hh q (by simp [hq]))
   simp only [hmt, hkv, hh o (by simp), hA, he]
   exact ⟨h1, h2, h3, h4, h5, hk⟩
  | _ => exact h.elim
 ·exact h.elim
theorem zFk (P : Program) (t : TypeId) (m k : AV) (ok : Bool) : Fix (fun H K => Q8 P t m k ok H K) := by
 intro H K h
 unfold Q8 at h ⊢
 split at h
 ·rename_i kt et kv hmt hkv
  cases hz : zeroT P et with
  | none => simp only [hz] at h
  | some z =>
   simp only [hz] at h
   obtain ⟨h1, h2, h3, h⟩ := h
   split at h
   ·exact ⟨_, _, _, h.2, fun H' hh K' hk => by simp only [hmt, hkv, hz]; exact ⟨h1, h2, h3, h.1, hk⟩⟩
   ·rename_i o
    generalize hA : H o = A at h
    cases A with
    | mapo ks xs => exact ⟨_, _, _, h.2, fun H' hh K' hk => by simp only [hmt, hkv, hz, hh o (by simp), hA]; exact ⟨h1, h2, h3, h.1, hk⟩⟩
    | _ => exact h.elim
   ·exact h.elim
 ·exact h.elim
theorem zFq (P : Program) (t : TypeId) (x : AV) (nx : Nat) : Fix (fun H K => O3 P t x H nx K) := by
 intro H K h
 unfold O3 at h ⊢
 split at h
 ·exact ⟨_, _, _, h.2.2, fun H' hh K' hk => ⟨h.1, by rw [hh nx (by simp)]; exact h.2.1, hk⟩⟩
 ·exact ⟨_, _, _, h.2.2, fun H' hh K' hk => ⟨h.1, by rw [hh nx (by simp)]; exact h.2.1, hk⟩⟩
 ·exact h.elim
theorem zFY (P : Program) (s d : TypeId) (x : AV) : Fix (fun H K => R1 P s d x H K) := by
 unfold R1
 split
 ·exact Fix.out _ _ _
 ·exact Fix.and (Fix.out _ _ _)
 ·exact Fix.and (Fix.out _ _ _)
 ·refine Fix.and ?_
  intro H K h
  cases hsl : sliceT P s with
  | none => simp only [hsl] at h
  | some e =>
   rename_i o z off len _
   cases hr : r9 H 1 (.own o z off len) with
   | none => simp only [hsl, hr] at h
   | some p =>
    obtain ⟨ys, rd⟩ := p
    simp only [hsl, hr] at h ⊢
    obtain ⟨he, hne, h⟩ := h
    obtain ⟨l, hl, hK⟩ := M0 _ _ h
    refine ⟨_, rd, [], hK, fun H' hh K' hk => ?_⟩
    rw [O4 hr hh]
    refine ⟨he, hne, C5 ys h (fun l' hl' _ => ?_)⟩
    have : l' = l := by
     have h3 : l'.map (fun b : UInt8 => AV.raw (.int .u8 (b.toNat : Int))) = l.map (fun b : UInt8 => AV.raw (.int .u8 (b.toNat : Int))) := by rw [← hl', ← hl]
     exact (List.map_inj_right (fun x y hxy => by
      injection hxy with hxy
      injection hxy with _ hxy
      exact UInt8.toNat_inj.1 (by omega))).1 h3
    rw [this]; exact hk
 ·exact Fix.no
theorem zFZ (P : Program) (s d : TypeId) (x : AV) : Fix (fun H K => R2 P s d x H K) := by
 unfold R2
 split
 ·exact Fix.and (Fix.and (Fix.out _ _ _))
 ·exact zFY _ _ _ _
theorem zFf (P : Program) (t : TypeId) (x : AV) : Fix (fun _ K => L2 P t x K) := by
 unfold L2
 refine Fix.and ?_
 split
 ·exact Fix.out _ _ _
 ·exact Fix.out _ _ _
 ·split
  ·exact Fix.out _ _ _
  ·exact Fix.no
 ·exact Fix.no
theorem zFn (x : AV) : Fix (fun H K => P6 x H K) := by
 intro H K h
 unfold P6 at h ⊢
 split at h
 ·rename_i o
  generalize hA : H o = A at h
  cases A with
  | siter s pos =>
   obtain ⟨k1, k2⟩ := h
   by_cases hp : pos < s.size
   ·exact ⟨_, _, _, k1 hp, fun H' hh K' hk => by simp only [hh o (by simp), hA]; exact ⟨fun _ => hk, fun hn => absurd hp hn⟩⟩
   ·exact ⟨_, _, _, k2 hp, fun H' hh K' hk => by simp only [hh o (by simp), hA]; exact ⟨fun hn => absurd hn hp, fun _ => hk⟩⟩
  | _ => exact h.elim
 ·exact h.elim
theorem zFa (x : AV) : Fix (fun H K => R3 x H K) := by
 intro H K h
 unfold R3 at h ⊢
 split at h
 ·rename_i o
  generalize hA : H o = A at h
  cases A with
  | iter cur ks xs =>
   cases cur with
   | none => exact h.elim
   | some p => exact ⟨_, _, _, h, fun H' hh K' hk => by simp only [hh o (by simp), hA]; exact hk⟩
  | _ => exact h.elim
 ·exact h.elim
theorem zFX (P : Program) (x : AV) (avs : List AV) (nx : Nat) : Fix (fun H K => M1 P x avs H nx K) := by
 unfold M1
 split
 ·exact Fix.and (Fix.and (Fix.and (zBg _ _ _ _)))
 ·exact Fix.and (zBg _ _ _ _)
 ·exact Fix.no
theorem zFb (P : Program) (o : Oper) (ev : Operand → AV) (nx : Nat) : Fix (fun H K => zNj P o ev H nx K) := by
 unfold zNj
 split
 ·exact Fix.out _ _ _
 ·exact Fix.out _ _ _
 ·exact zFp _ _ _
 ·exact zFO _ _ _
 ·exact zFS _ _
 ·exact zFT _ _ _
 ·exact zFU _ _ _ _ _
 ·exact zFj _ _ _
 ·exact zFs _ _ _ _
 ·exact zFo _
 ·exact zFR _ _ _ _ _
 ·exact zFu _ _
 ·exact Fix.and (zFZ _ _ _ _)
 ·unfold zAR
  split
  ·exact Fix.and (Fix.out _ _ _)
  ·exact Fix.no
 ·exact zFm _ _ _ _ _
 ·exact zFr _ _ _ _ _ _
 ·exact zFe _ _ _ _
 ·exact zFd _ _ _ _
 ·exact zFh _ _ _ _
 ·exact zFg _ _ _ _
 ·exact zFc _ _
 ·exact zFl _ _ _ _
 ·exact zBh _ _ _ _ _
 ·exact zBh _ _ _ _ _
 ·exact zFk _ _ _ _ _
 ·exact zFq _ _ _ _
 ·exact Fix.and (zFn _)
 ·exact zFa _
 ·exact zFf _ _ _
 ·unfold R0
  split
  ·exact zFV _ _ _ _ _
  ·exact zFX _ _ _ _
  ·exact Fix.no
 ·exact Fix.no
theorem zFH {P : Program} {o : Oper} {ev ev' : Operand → AV} {H : Nat → AObj} {nx : Nat} {K : Cont} (h : ∀ x, x ∈ o.op.operands → ev' x = ev x) (he : zNj P o ev H nx K) : zNj P o ev' H nx K := by
 unfold zNj at he ⊢
 cases hop : o.op <;> rw [hop] at he h <;> simp only at he ⊢ <;> try (first | exact he.elim | skip)
 case build t ps =>
  have e : (ps.toList.map fun p => (p.1, ev' p.2)) = ps.toList.map fun p => (p.1, ev p.2) := List.map_congr_left (fun p hp => by rw [h p.2 (by simp [Op.operands]; exact ⟨p.1, by simpa using hp⟩)])
  rw [e]; exact he
 case buildSlice t n ps =>
  have e : (ps.toList.map fun p => (p.1, ev' p.2)) = ps.toList.map fun p => (p.1, ev p.2) := List.map_congr_left (fun p hp => by rw [h p.2 (by simp [Op.operands]; exact ⟨p.1, by simpa using hp⟩)])
  rw [e]; exact he
 case makeFunc fn first cs =>
  have e : cs.toList.map ev' = cs.toList.map ev := List.map_congr_left (fun p hp => h p (by simp [Op.operands]; exact .inr (by simpa using hp)))
  rw [e]; exact he
 case slice t x lo hi mx =>
  have e0 := h x (by simp [Op.operands])
  have e1 : lo.map ev' = lo.map ev := by cases lo with
   | none => rfl
   | some y => simp only [Option.map_some]; rw [h y (by simp [Op.operands])]
  have e2 : hi.map ev' = hi.map ev := by cases hi with
   | none => rfl
   | some y => simp only [Option.map_some]; rw [h y (by simp [Op.operands])]
  have e3 : mx.map ev' = mx.map ev := by cases mx with
   | none => rfl
   | some y => simp only [Option.map_some]; rw [h y (by simp [Op.operands])]
  rw [e0, e1, e2, e3]; exact he
 case makeMap t r =>
  have e1 : r.map ev' = r.map ev := by cases r with
   | none => rfl
   | some y => simp only [Option.map_some]; rw [h y (by simp [Op.operands])]
  rw [e1]; exact he
 case mapUpdate t m k x =>
  rw [h m (by simp [Op.operands]), h k (by simp [Op.operands]), h x (by simp [Op.operands])]; exact he
 case insert t m k x =>
  rw [h m (by simp [Op.operands]), h k (by simp [Op.operands]), h x (by simp [Op.operands])]; exact he
 case lookup t m k ok =>
  rw [h m (by simp [Op.operands]), h k (by simp [Op.operands])]; exact he
 case call c =>
  have e : c.args.toList.map ev' = c.args.toList.map ev := List.map_congr_left (fun p hp => h p (by simp [Op.operands, Go.Call.operands]; exact .inr (by simpa using hp)))
  rw [e]
  obtain ⟨callee, args, ts⟩ := c
  cases callee with
  | value f =>
   have e2 := h f (by simp [Op.operands, Go.Call.operands])
   simp only [R0] at he ⊢
   rw [e2]; exact he
  | _ => exact he
 all_goals
  first
  | (rw [h _ (by simp [Op.operands])]; exact he)
  | (rw [h _ (by simp [Op.operands]), h _ (by simp [Op.operands])]; exact he)
  | (rw [h _ (by simp [Op.operands]), h _ (by simp [Op.operands]), h _ (by simp [Op.operands])]; exact he)
  | exact he
  | (simp only [h _ (by simp [Op.operands])]; exact he)
end Go.Abs

namespace Go.Abs
open Go
def nxF : Nat → List (Nat × AObj) → Nat
 | m, [] => m
 | m, (k, _) :: r => nxF (if k < m then m else k + 1) r
def AS.nx (σ : AS) : Nat := nxF 0 σ.objs
def gIf (b want : Bool) (Y N : Prop) : Prop := (b = want → Y) ∧ (b = !want → N)
def l8 (all : List Oper) (σ : AS) (o : Oper) (Y N : Prop) : Prop := match o.guard with
 | none => Y
 | some (j, want) => match (all[j]?).bind (·.dst) with
  | some d => (match σ.get d with
   | .raw (.bool b) => gIf b want Y N
   | .tup [] => N
   | _ => False)
  | none => False
structure Touch where
 rd : List Nat
 wr : List Nat
def ltN (a b : Nat) : Prop := a < b
def q8 (P : Program) (all : List Oper) (K : AS → List Touch → Prop) : List Oper → AS → List Touch → Prop
  | [], σ, ts => K σ ts
  | o :: rest, σ, ts => l8 all σ o
      ((match o.dst with | some d => ltN d σ.n | none => True) ∧
        zNj P o σ.ev σ.obj σ.nx (fun v rd wr => q8 P all K rest ((σ.writes wr).putD o.dst v) (ts ++ [⟨rd, wr.map (·.1)⟩])))
      ((match o.dst with | some d => ltN d σ.n | none => True) ∧ q8 P all K rest (σ.putD o.dst (.tup [])) (ts ++ [⟨[], []⟩]))
section
variable {P : Program} {E : Env}
theorem zFx {a : Act} {d : Nat} {b : Bool} (h : a.tmps.getD d undef = .bool b) : a.tmps[d]? = some (.bool b) := by
 by_cases hd : d < a.tmps.size
 ·simp [hd] at h ⊢; exact h
 ·simp [hd, undef] at h
theorem L0 {I : Nat → Prop} {loc : Nat → Loc} {σ : AS} {a : Act} {w : World} (hs : SR E I loc σ a w) {all : List Oper} {o : Oper} {Y N : Prop} (h : l8 all σ o Y N) :
    (Region.wanted o (yielded all.toArray a.tmps) = true ∧ Y) ∨ (Region.wanted o (yielded all.toArray a.tmps) = false ∧ N) := by
  unfold l8 at h
  unfold Region.wanted
  cases hg : o.guard with
  | none => rw [hg] at h; exact .inl ⟨rfl, h⟩
  | some jw =>
    obtain ⟨j, want⟩ := jw
    rw [hg] at h
    simp only at h ⊢
    cases hd : (all[j]?).bind (·.dst) with
    | none => simp only [hd] at h
    | some d =>
      simp only [hd] at h
      have hy : ∀ v, a.tmps.getD d undef = v → yielded all.toArray a.tmps j = (match a.tmps[d]? with | some (.bool b) => some b | _ => none) := fun v _ => by
        unfold yielded
        have : (all.toArray[j]?).bind (·.dst) = some d := by simpa using hd
        rw [this]; rfl
      have hv := hs.tmps d
      split at h
      · rename_i b hb
        rw [hb] at hv
        have e := hv.raw_eq
        rw [hy _ e, zFx e]
        cases b <;> cases want <;> simp_all [gIf]
      · rename_i hb
        rw [hb] at hv
        have e : a.tmps.getD d undef = undef := by
          generalize a.tmps.getD d undef = u at hv
          cases hv with
          | pure hv => cases hv
          | tup _ vs h1 _ => simp at h1; have : vs = #[] := Array.eq_empty_of_size_eq_zero h1.symm
                             rw [this]; rfl
        right
        refine ⟨?_, h⟩
        rw [hy _ e]
        have : ∀ b, a.tmps[d]? ≠ some (.bool b) := fun b hb' => by
          have : a.tmps.getD d undef = .bool b := by simp only [Array.getD_eq_getD_getElem?, hb', Option.getD_some]
          rw [e] at this; simp [undef] at this
        cases hq : a.tmps[d]? with
        | none => simp
        | some v => cases v <;> simp <;> exact absurd hq (this _)
      · exact h.elim
theorem zAf {all : List Oper} {K : AS → List Touch → Prop} {Q : Exit → Act → World → Prop} (hK : ∀ σ ts a w, K σ ts → St E σ a w → Q .normal a w) :
  ∀ (l : List Oper) (σ : AS) (ts : List Touch) (a : Act) (w : World), q8 P all K l σ ts → St E σ a w → wpList P all.toArray Q l a w
 | [], σ, ts, a, w, h, hs => hK σ ts a w h hs
 | o :: rest, σ, ts, a, w, h, ⟨I, loc, hs⟩ => by
  unfold wpList
  rcases L0 hs h with ⟨hw, hd, he⟩ | ⟨hw, hd, hr⟩
  ·rw [if_pos hw]
   refine .inl (H0 hs he (fun d e => by rw [e] at hd; exact hd) (fun v rd wr a' w' hk hst => zAf hK rest _ _ a' w' hk hst))
  ·rw [hw, if_neg (by simp)]
   exact zAf hK rest _ _ _ _ hr ⟨I, loc, hs.putD U1 (fun d e => by rw [e] at hd; exact hd)⟩
structure Evt where
 want : Bool
 v : AV
 rd : List Nat
 wr : List (Nat × AObj)
 nx : Nat
def Evt.touch (e : Evt) : Touch := ⟨e.rd, e.wr.map (·.1)⟩
structure Fits (P : Program) (all : List Oper) (o : Oper) (σ : AS) (e : Evt) : Prop where
 guard : match o.guard with
  | none => e.want = true
  | some (j, want) => ∃ d, (all[j]?).bind (·.dst) = some d ∧ ((∃ b, σ.get d = .raw (.bool b) ∧ e.want = (b == want)) ∨ (σ.get d = .tup [] ∧ e.want = false))
 dst : ∀ d, o.dst = some d → d < σ.n
 run : e.want = true → ∀ ev H (K : Cont), (∀ x, x ∈ o.op.operands → ev x = σ.ev x) → (∀ k, k ∈ e.rd → H k = σ.obj k) → K e.v e.rd e.wr → zNj P o ev H e.nx K
 skip : e.want = false → e.v = .tup [] ∧ e.rd = [] ∧ e.wr = []
def Evt.app (e : Evt) (o : Oper) (σ : AS) : AS := (σ.writes e.wr).putD o.dst e.v
inductive Chain (P : Program) (all : List Oper) : List Oper → AS → List Evt → AS → Prop
 | nil (σ : AS) : Chain P all [] σ [] σ
 | cons {o : Oper} {l : List Oper} {σ σ' : AS} {e : Evt} {es : List Evt} : Fits P all o σ e → Chain P all l (e.app o σ) es σ' → Chain P all (o :: l) σ (e :: es) σ'
theorem C8 {all : List Oper} {K : AS → List Touch → Prop} : ∀ (l : List Oper) (σ : AS) (ts : List Touch), q8 P all K l σ ts → ∃ es σ', Chain P all l σ es σ' ∧ K σ' (ts ++ es.map Evt.touch)
  | [], σ, ts, h => ⟨[], σ, .nil σ, by simpa [q8] using h⟩
  | o :: rest, σ, ts, h => by
    have yes : ((match o.dst with | some d => ltN d σ.n | none => True) ∧ zNj P o σ.ev σ.obj σ.nx (fun v rd wr => q8 P all K rest ((σ.writes wr).putD o.dst v) (ts ++ [⟨rd, wr.map (·.1)⟩]))) →
        (match o.guard with | none => True | some (j, want) => ∃ d, (all[j]?).bind (·.dst) = some d ∧ ∃ b, σ.get d = .raw (.bool b) ∧ true = (b == want)) → ∃ es σ', Chain P all (o :: rest) σ es σ' ∧ K σ' (ts ++ es.map Evt.touch) := by
      rintro ⟨hd, he⟩ hg
      obtain ⟨v, rd, wr, hk, hf⟩ := zFb P o σ.ev σ.nx σ.obj _ he
      obtain ⟨es, σ', hc, hK⟩ := C8 rest _ _ hk
      refine ⟨⟨true, v, rd, wr, σ.nx⟩ :: es, σ', .cons ⟨?_, (by intro d e; rw [e] at hd; exact hd), fun _ ev H K hev hH hK => zFH hev (hf H hH K hK), (by intro h; cases h)⟩ hc, by simpa [Evt.touch] using hK⟩
      cases hgo : o.guard with
      | none => rfl
      | some jw =>
        rw [hgo] at hg
        obtain ⟨d, h1, b, h2, h3⟩ := hg
        exact ⟨d, h1, .inl ⟨b, h2, h3⟩⟩
    have no : ((match o.dst with | some d => ltN d σ.n | none => True) ∧ q8 P all K rest (σ.putD o.dst (.tup [])) (ts ++ [⟨[], []⟩])) →
        (match o.guard with | none => False | some (j, want) => ∃ d, (all[j]?).bind (·.dst) = some d ∧ ((∃ b, σ.get d = .raw (.bool b) ∧ false = (b == want)) ∨ σ.get d = .tup [])) → ∃ es σ', Chain P all (o :: rest) σ es σ' ∧ K σ' (ts ++ es.map Evt.touch) := by
      rintro ⟨hd, hr⟩ hg
      obtain ⟨es, σ', hc, hK⟩ := C8 rest _ _ hr
      refine ⟨⟨false, .tup [], [], [], σ.nx⟩ :: es, σ', .cons ⟨?_, (by intro d e; rw [e] at hd; exact hd), (by intro h; cases h), fun _ => ⟨rfl, rfl, rfl⟩⟩ hc, by simpa [Evt.touch] using hK⟩
      cases hgo : o.guard with
      | none => rw [hgo] at hg; exact hg.elim
      | some jw =>
        rw [hgo] at hg
        obtain ⟨d, h1, h2⟩ := hg
        exact ⟨d, h1, h2.imp id (fun h => ⟨h, rfl⟩)⟩
    unfold q8 l8 at h
    cases hg : o.guard with
    | none => rw [hg] at h; exact yes h (by rw [hg]; trivial)
    | some jw =>
      obtain ⟨j, want⟩ := jw
      rw [hg] at h
      simp only at h
      cases hd : (all[j]?).bind (·.dst) with
      | none => simp only [hd] at h
      | some d =>
        simp only [hd] at h
        split at h
        · rename_i b hb
          by_cases hbw : b = want
          · exact yes (h.1 hbw) (by rw [hg]; exact ⟨d, hd, b, hb, by simp [hbw]⟩)
          · have : b = !want := by cases b <;> cases want <;> simp_all
            exact no (h.2 this) (by rw [hg]; exact ⟨d, hd, .inl ⟨b, hb, by simp [hbw]⟩⟩)
        · rename_i hb
          exact no h (by rw [hg]; exact ⟨d, hd, .inr hb⟩)
        · exact h.elim
def stL (L : Nat → Bool) : Nat → List Oper → List Evt → AS → AS
 | k, o :: l, e :: es, σ => stL L (k + 1) l es (if L k then e.app o σ else σ)
 | _, _, _, σ => σ
theorem N7 (e : Evt) (o : Oper) (σ : AS) (t : Nat) : (e.app o σ).get t = if o.dst = some t then e.v else σ.get t := by
 unfold Evt.app AS.putD
 cases hd : o.dst with
 | none => simp [(f9 e.wr σ).2]
 | some d =>
  simp only [AS.get_put, Option.some.injEq]
  split
  ·rfl
  ·exact (f9 e.wr σ).2 t
theorem zBE (e : Evt) (o : Oper) (σ : AS) : (e.app o σ).n = σ.n := by
 unfold Evt.app AS.putD
 cases o.dst with
 | none => exact (f9 e.wr σ).1
 | some d => exact (f9 e.wr σ).1
theorem zA3 : ∀ (wr : List (Nat × AObj)) (σ σ' : AS) (o : Nat), (o ∈ wr.map (·.1) ∨ σ.obj o = σ'.obj o) → (σ.writes wr).obj o = (σ'.writes wr).obj o
 | [], σ, σ', o, h => by simpa [AS.writes] using h
 | q :: wr, σ, σ', o, h => by
  refine zA3 wr (σ.setO q.1 q.2) (σ'.setO q.1 q.2) o ?_
  by_cases hq : q.1 = o
  ·right; rw [AS.obj_setO, AS.obj_setO, if_pos hq, if_pos hq]
  ·rcases h with h | h
   ·left
    simp only [List.map_cons, List.mem_cons] at h
    exact h.resolve_left (fun e => hq e.symm)
   ·right; rw [AS.obj_setO, AS.obj_setO, if_neg hq, if_neg hq]; exact h
theorem zA5 : ∀ (wr : List (Nat × AObj)) (σ : AS) (o : Nat), o ∉ wr.map (·.1) → (σ.writes wr).obj o = σ.obj o
 | [], _, _, _ => rfl
 | q :: wr, σ, o, h => by
  have h' : q.1 ≠ o ∧ o ∉ wr.map (·.1) := by
   simp only [List.map_cons, List.mem_cons] at h
   exact ⟨fun e => h (.inl e.symm), fun e => h (.inr e)⟩
  have := zA5 wr (σ.setO q.1 q.2) o h'.2
  rw [AS.obj_setO, if_neg h'.1] at this
  exact this
theorem N8 (e : Evt) (o : Oper) (σ : AS) (k : Nat) : (e.app o σ).obj k = (σ.writes e.wr).obj k := by
 unfold Evt.app AS.putD
 cases o.dst <;> rfl
theorem Y5 (L : Nat → Bool) : ∀ (k : Nat) (l : List Oper) (es : List Evt) (σ : AS), (stL L k l es σ).n = σ.n
 | k, o :: l, e :: es, σ => by
  simp only [stL]
  rw [Y5 L (k + 1) l es]
  split
  ·exact zBE e o σ
  ·rfl
 | _, [], _, _ => rfl
 | _, _ :: _, [], _ => rfl
theorem J1 {L L' : Nat → Bool} {t : Nat} : ∀ (k : Nat) (l : List Oper) (es : List Evt) (σ σ' : AS), σ.get t = σ'.get t → (∀ i (h : i < l.length), (l[i]).dst = some t → L (k + i) = L' (k + i)) →
    (stL L k l es σ).get t = (stL L' k l es σ').get t
  | k, o :: l, e :: es, σ, σ', h, hL => by
    simp only [stL]
    refine J1 (k + 1) l es _ _ ?_ (fun i hi hd => by have := hL (i + 1) (by simpa using hi) (by simpa using hd); rwa [Nat.add_assoc, Nat.add_comm 1 i])
    by_cases hd : o.dst = some t
    · have := hL 0 (by simp) (by simpa using hd)
      simp only [Nat.add_zero] at this
      rw [this]
      cases L' k
      · exact h
      · rw [if_pos rfl, if_pos rfl, N7, N7, if_pos hd, if_pos hd]
    · have e1 : ∀ (b : Bool) (τ : AS), (if b = true then e.app o τ else τ).get t = τ.get t := fun b τ => by
        cases b
        · rfl
        · rw [if_pos rfl, N7, if_neg hd]
      rw [e1, e1]; exact h
  | _, [], _, _, _, h, _ => h
  | _, _ :: _, [], _, _, h, _ => h
theorem J2 {L L' : Nat → Bool} {q : Nat} : ∀ (k : Nat) (l : List Oper) (es : List Evt) (σ σ' : AS), σ.obj q = σ'.obj q → (∀ i (h : i < es.length), q ∈ (es[i]).wr.map (·.1) → L (k + i) = L' (k + i)) →
    (stL L k l es σ).obj q = (stL L' k l es σ').obj q
  | k, o :: l, e :: es, σ, σ', h, hL => by
    simp only [stL]
    refine J2 (k + 1) l es _ _ ?_ (fun i hi hd => by have := hL (i + 1) (by simpa using hi) (by simpa using hd); rwa [Nat.add_assoc, Nat.add_comm 1 i])
    by_cases hd : q ∈ e.wr.map (·.1)
    · have := hL 0 (by simp) (by simpa using hd)
      simp only [Nat.add_zero] at this
      rw [this]
      cases L' k
      · exact h
      · rw [if_pos rfl, if_pos rfl, N8, N8]; exact zA3 e.wr _ _ q (.inl hd)
    · have e1 : ∀ (b : Bool) (τ : AS), (if b = true then e.app o τ else τ).obj q = τ.obj q := fun b τ => by
        cases b
        · rfl
        · rw [if_pos rfl, N8, zA5 _ _ _ hd]
      rw [e1, e1]; exact h
  | _, [], _, _, _, h, _ => h
  | _, _ :: _, [], _, _, h, _ => h
theorem zDL {L : Nat → Bool} {t j : Nat} : ∀ (k : Nat) (l : List Oper) (es : List Evt) (σ : AS) (hj : j < l.length) (hj' : j < es.length), l.length = es.length → (l[j]).dst = some t → L (k + j) = true →
    (∀ i (h : i < l.length), j < i → (l[i]).dst = some t → L (k + i) = false) → (stL L k l es σ).get t = (es[j]).v
  | k, o :: l, e :: es, σ, hj, hj', hlen, hd, hL, hno => by
    simp only [stL]
    cases j with
    | zero =>
      simp only [Nat.add_zero] at hL
      rw [hL, if_pos rfl]
      have : (stL L (k + 1) l es (e.app o σ)).get t = (stL (fun _ => false) (k + 1) l es (e.app o σ)).get t :=
        J1 (k + 1) l es _ _ rfl (fun i hi hdi => by have := hno (i + 1) (by simpa using hi) (by omega) (by simpa using hdi); rwa [Nat.add_assoc, Nat.add_comm 1 i])
      rw [this]
      have hnone : ∀ (k : Nat) (l : List Oper) (es : List Evt) (τ : AS), (stL (fun _ => false) k l es τ) = τ := fun k l => by
        induction l generalizing k with
        | nil => exact fun es τ => by cases es <;> rfl
        | cons o l ih => exact fun es τ => by
                           cases es with
                           | nil => rfl
                           | cons e es => simp only [stL]; exact ih _ _ _
      rw [hnone, N7, if_pos (by simpa using hd)]; rfl
    | succ j =>
      have := zDL (j := j) (t := t) (L := L) (k + 1) l es (if L k then e.app o σ else σ) (by simpa using hj) (by simpa using hj') (by simpa using hlen) (by simpa using hd) (by rw [Nat.add_assoc, Nat.add_comm 1 j]; exact hL)
        (fun i hi hij hdi => by have := hno (i + 1) (by simpa using hi) (by omega) (by simpa using hdi); rwa [Nat.add_assoc, Nat.add_comm 1 i])
      simpa using this
theorem zDM {L : Nat → Bool} {q j : Nat} : ∀ (k : Nat) (l : List Oper) (es : List Evt) (σ τ : AS) (hj : j < es.length), l.length = es.length → q ∈ (es[j]).wr.map (·.1) → L (k + j) = true →
    (∀ i (h : i < es.length), j < i → q ∈ (es[i]).wr.map (·.1) → L (k + i) = false) → (stL L k l es σ).obj q = (τ.writes (es[j]).wr).obj q
  | k, o :: l, e :: es, σ, τ, hj, hlen, hd, hL, hno => by
    simp only [stL]
    cases j with
    | zero =>
      simp only [Nat.add_zero] at hL
      rw [hL, if_pos rfl]
      have : (stL L (k + 1) l es (e.app o σ)).obj q = (stL (fun _ => false) (k + 1) l es (e.app o σ)).obj q :=
        J2 (k + 1) l es _ _ rfl (fun i hi hdi => by have := hno (i + 1) (by simpa using hi) (by omega) (by simpa using hdi); rwa [Nat.add_assoc, Nat.add_comm 1 i])
      rw [this]
      have hnone : ∀ (k : Nat) (l : List Oper) (es : List Evt) (τ : AS), (stL (fun _ => false) k l es τ) = τ := fun k l => by
        induction l generalizing k with
        | nil => exact fun es τ => by cases es <;> rfl
        | cons o l ih => exact fun es τ => by
                           cases es with
                           | nil => rfl
                           | cons e es => simp only [stL]; exact ih _ _ _
      rw [hnone, N8]
      exact zA3 _ _ _ _ (.inl (by simpa using hd))
    | succ j =>
      have := zDM (j := j) (q := q) (L := L) (k + 1) l es (if L k then e.app o σ else σ) τ (by simpa using hj) (by simpa using hlen) (by simpa using hd) (by rw [Nat.add_assoc, Nat.add_comm 1 j]; exact hL)
        (fun i hi hij hdi => by have := hno (i + 1) (by simpa using hi) (by omega) (by simpa using hdi); rwa [Nat.add_assoc, Nat.add_comm 1 i])
      simpa using this
  | _, [], e :: es, _, _, _, hlen, _, _, _ => by simp at hlen
  | _, _, [], _, _, hj, _, _, _, _ => by simp at hj
theorem Chain.fits {all : List Oper} : ∀ {l : List Oper} {σ σ' : AS} {es : List Evt} (k : Nat), Chain P all l σ es σ' → l.length = es.length ∧ σ' = stL (fun _ => true) k l es σ ∧
    ∀ j (hj : j < l.length) (hj' : j < es.length), Fits P all (l[j]) (stL (fun i => decide (i < k + j)) k l es σ) (es[j])
  | _, _, _, _, k, .nil σ => ⟨rfl, rfl, fun j hj => by simp at hj⟩
  | _, _, _, _, k, .cons (o := o) (l := l) (σ := σ) (e := e) (es := es) hf hc => by
    obtain ⟨h1, h2, h3⟩ := Chain.fits (k + 1) hc
    refine ⟨by simp [h1], by simp only [stL, if_true]; exact h2, fun j hj hj' => ?_⟩
    cases j with
    | zero =>
      have hnone : ∀ (k' : Nat), k ≤ k' → ∀ (l : List Oper) (es : List Evt) (τ : AS), (stL (fun i => decide (i < k + 0)) k' l es τ) = τ := fun k' hk l => by
        induction l generalizing k' with
        | nil => exact fun es τ => by cases es <;> rfl
        | cons o l ih => exact fun es τ => by
                           cases es with
                           | nil => rfl
                           | cons e es => simp only [stL]; rw [if_neg (by simp; omega)]; exact ih _ (by omega) _ _
      simp only [List.getElem_cons_zero]
      rw [hnone k (Nat.le_refl _)]; exact hf
    | succ j =>
      simp only [stL, List.getElem_cons_succ]
      rw [if_pos (by simp)]
      have := h3 j (by simpa using hj) (by simpa using hj')
      have e1 : (fun i => decide (i < k + 1 + j)) = (fun i => decide (i < k + (j + 1))) := by funext i; congr 1; rw [Nat.add_assoc, Nat.add_comm 1 j]
      rw [e1] at this; exact this
def L7 (acc : List Nat) (o : Oper) : Nat := o.after.toList.foldl (fun s e => if Region.binds .any e = true then s ||| (2 ^ e.on ||| acc.getD e.on 0) else s) 0
def P3 : List Oper → List Nat → List Nat
 | [], acc => acc
 | o :: r, acc => P3 r (acc ++ [L7 acc o])
def P9 (a b : List Nat) : Bool := a.any (fun x => b.contains x)
def S8 (ops : Array Oper) (o1 o2 : Oper) (t1 t2 : Touch) : Bool := o1.apart ops o2 && (!P9 t1.wr (t2.rd ++ t2.wr) && !P9 t2.wr t1.rd)
def T1 (ops : List Oper) (ts : List Touch) : Bool :=
 (List.range ops.length).all (fun j => (List.range j).all fun i => ((P3 ops []).getD j 0).testBit i || S8 ops.toArray (ops.getD i default) (ops.getD j default) (ts.getD i ⟨[], []⟩) (ts.getD j ⟨[], []⟩))
def M3 (ops : List Oper) : Bool := (List.range ops.length).all fun j => (ops.getD j default).after.all fun e => !Region.binds .any e || decide (e.on < j)
def J9 (ops : List Oper) (L : Nat → Bool) : Prop := ∀ i (h : i < ops.length), L i = true → ∀ e, e ∈ (ops[i]).after → Region.binds .any e = true → L e.on = true
def zOZ (ops : List Oper) (acc : List Nat) : Prop := ∀ j (h : j < acc.length) (h' : j < ops.length) (L : Nat → Bool), J9 ops L → (∀ e, e ∈ (ops[j]).after → Region.binds .any e = true → L e.on = true) → ∀ i, (acc[j]).testBit i = true → L i = true
theorem zHB {acc : List Nat} {o : Oper} {i : Nat} (h : (L7 acc o).testBit i = true) : ∃ e, e ∈ o.after ∧ Region.binds .any e = true ∧ (i = e.on ∨ (acc.getD e.on 0).testBit i = true) := by
 unfold L7 at h
 have key : ∀ (l : List Edge) (s : Nat), (l.foldl (fun s e => if Region.binds .any e = true then s ||| (2 ^ e.on ||| acc.getD e.on 0) else s) s).testBit i = true → s.testBit i = true ∨ ∃ e, e ∈ l ∧ Region.binds .any e = true ∧ (i = e.on ∨ (acc.getD e.on 0).testBit i = true) := by
  intro l
  induction l with
  | nil => exact fun s h => .inl h
  | cons e l ih =>
   intro s h
   simp only [List.foldl_cons] at h
   rcases ih _ h with h | ⟨e', h1, h2⟩
   ·by_cases hb : Region.binds .any e = true
    ·rw [if_pos hb, Nat.testBit_or, Nat.testBit_or, Bool.or_eq_true, Bool.or_eq_true] at h
     rcases h with h | h | h
     ·exact .inl h
     ·refine .inr ⟨e, by simp, hb, .inl ?_⟩
      rw [Nat.testBit_two_pow] at h
      exact (of_decide_eq_true h).symm
     ·exact .inr ⟨e, by simp, hb, .inr h⟩
    ·rw [if_neg hb] at h; exact .inl h
   ·exact .inr ⟨e', by simp [h1], h2⟩
 rcases key _ 0 h with h | ⟨e, h1, h2⟩
 ·simp at h
 ·exact ⟨e, by simpa using h1, h2⟩
theorem zCN (ops : List Oper) : ∀ (l : List Oper) (acc : List Nat), ops.drop acc.length = l → zOZ ops acc → zOZ ops (P3 l acc) ∧ (P3 l acc).length = acc.length + l.length
 | [], acc, _, h => ⟨h, rfl⟩
 | o :: r, acc, hd, h => by
  have hlt : acc.length < ops.length := by
   have := congrArg List.length hd
   simp at this; omega
  have ho : ops[acc.length] = o := by
   have h0 := congrArg (fun l => l[0]?) hd
   simp only [List.getElem?_drop, Nat.add_zero, List.getElem?_cons_zero, List.getElem?_eq_getElem hlt, Option.some.injEq] at h0
   exact h0
  have hg : zOZ ops (acc ++ [L7 acc o]) := by
   intro j hj hj' L hL hed i hi
   by_cases hlt' : j < acc.length
   ·rw [List.getElem_append_left hlt'] at hi
    exact h j hlt' hj' L hL hed i hi
   ·have e : j = acc.length := by simp at hj; omega
    subst e
    simp only [List.getElem_append_right (Nat.le_refl _), Nat.sub_self, List.getElem_cons_zero] at hi
    obtain ⟨e, h1, h2, h3⟩ := zHB hi
    rw [← ho] at h1
    have hLe := hed e h1 h2
    rcases h3 with rfl | h3
    ·exact hLe
    ·by_cases hel : e.on < acc.length
     ·rw [w9 hel] at h3
      exact h e.on hel (by omega) L hL (fun e' he' hb' => hL e.on (by omega) hLe e' he' hb') i h3
     ·rw [List.getD, List.getElem?_eq_none (by omega)] at h3
      simp at h3
  obtain ⟨g1, g2⟩ := zCN ops r (acc ++ [L7 acc o]) (by
   have := congrArg (List.drop 1) hd
   simpa [List.drop_drop] using this) hg
  exact ⟨g1, by rw [P3, g2]; simp; omega⟩
theorem zG2 {ops : Array Oper} {o : Oper} {j d : Nat} {want : Bool} (hg : o.guard = some (j, want)) (hd : (ops[j]?).bind (·.dst) = some d) : d ∈ o.looksAt ops := by
 unfold Oper.looksAt; rw [hg]; simp [hd]
theorem zG3 {ops : Array Oper} {o : Oper} {t : Nat} (h : Operand.tmp t ∈ o.op.operands) : t ∈ o.looksAt ops := by
 unfold Oper.looksAt
 simp only [List.mem_append, List.mem_filterMap]
 exact .inl ⟨.tmp t, by simpa using h, rfl⟩
theorem zAY {a b : List Nat} (h : P9 a b = false) {x : Nat} (ha : x ∈ a) : x ∉ b := by
 unfold P9 at h
 rw [List.any_eq_false] at h
 have := h x ha
 simpa using this
theorem zEr {all : List Oper} {es : List Evt} {σ0 σ1 : AS} (hind : T1 all (es.map Evt.touch) = true) (hed : M3 all = true) (hc : Chain P all all σ0 es σ1) {Q : Exit → Act → World → Prop} (hQ : ∀ a w, St E σ1 a w → Q .normal a w) :
    ∀ (fuel : Nat) (listed : Array Bool) (a : Act) (w : World), listed.size = all.length → J9 all (fun i => listed.getD i false) → ((List.range all.length).filter fun i => !listed.getD i true).length ≤ fuel →
      St E (stL (fun i => listed.getD i false) 0 all es σ0) a w → wpAny P .any all.toArray Q fuel listed a w := by
  obtain ⟨hlen, hfin, hfits⟩ := hc.fits 0
  have hgood := zCN all all [] (by simp) (fun j h => by simp at h)
  have hord : ∀ i j (hi : i < all.length) (hj : j < all.length), i < j → ((∀ L, J9 all L → (∀ e, e ∈ (all[j]).after → Region.binds .any e = true → L e.on = true) → L i = true) ∨ S8 all.toArray (all[i]) (all[j]) ((es[i]'(by omega)).touch) ((es[j]'(by omega)).touch) = true) := by
    intro i j hi hj hij
    unfold T1 at hind
    rw [List.all_eq_true] at hind
    have h1 := hind j (by simpa using hj)
    rw [List.all_eq_true] at h1
    have h2 := h1 i (by simpa using hij)
    rw [Bool.or_eq_true] at h2
    rcases h2 with h2 | h2
    · have hjm : j < (P3 all []).length := by rw [hgood.2]; simpa using hj
      rw [w9 hjm] at h2
      exact .inl (fun L hL he => hgood.1 j hjm hj L hL he i h2)
    · rw [w9 hi, w9 hj, w9 (by simpa using (by omega : i < es.length)), w9 (by simpa using (by omega : j < es.length))] at h2
      simp only [List.getElem_map] at h2
      exact .inr h2
  have hedge : ∀ j (hj : j < all.length) e, e ∈ (all[j]).after → Region.binds .any e = true → e.on < j := by
    intro j hj e he hb
    unfold M3 at hed
    rw [List.all_eq_true] at hed
    have h1 := hed j (by simpa using hj)
    rw [w9 hj, Array.all_eq_true_iff_forall_mem] at h1
    have h2 := h1 e he
    rw [hb] at h2
    simpa using h2
  have hdone : ∀ (listed : Array Bool), listed.size = all.length → Region.ready .any all.toArray listed = [] → ∀ i, i < all.length → listed.getD i false = true := by
    intro listed hsz hr i
    induction i using Nat.strongRecOn with
    | _ i ih =>
      intro hi
      by_cases hn : listed.getD i false = true
      · exact hn
      · exfalso
        have hmem : i ∈ Region.ready .any all.toArray listed := by
          rw [mem_ready]
          refine ⟨?_, all[i], by simp [hi], fun e he hb => ih e.on (hedge i hi e he hb) (by have := hedge i hi e he hb; omega)⟩
          have : i < listed.size := by omega
          simp [this] at hn ⊢; exact hn
        rw [hr] at hmem; cases hmem
  have hend : ∀ (listed : Array Bool) a w, listed.size = all.length → Region.ready .any all.toArray listed = [] → St E (stL (fun i => listed.getD i false) 0 all es σ0) a w → Q .normal a w := by
    intro listed a w hsz hr ⟨I, loc, hs⟩
    refine hQ a w ⟨I, loc, hs.congr ?_ (fun t => ?_) (fun o => ?_)⟩
    · rw [hfin, Y5, Y5]
    · rw [hfin]
      exact J1 0 all es σ0 σ0 rfl (fun i hi _ => by rw [Nat.zero_add, hdone listed hsz hr i hi])
    · rw [hfin]
      exact J2 0 all es σ0 σ0 rfl (fun i hi _ => by rw [Nat.zero_add, hdone listed hsz hr i (by omega)])
  intro fuel
  induction fuel with
  | zero =>
    intro listed a w hsz hcl hun hst
    have hr : Region.ready .any all.toArray listed = [] := by
      have hnil := List.eq_nil_of_length_eq_zero (Nat.le_zero.1 hun)
      cases hrr : Region.ready .any all.toArray listed with
      | nil => rfl
      | cons x xs =>
        exfalso
        have hx : x ∈ Region.ready .any all.toArray listed := by rw [hrr]; simp
        obtain ⟨h0, o, ho, _⟩ := mem_ready.1 hx
        have hxl : x < all.length := by simpa using (Array.getElem?_eq_some_iff.1 ho).1
        have : x ∈ (List.range all.length).filter fun i => !listed.getD i true := List.mem_filter.2 ⟨by simpa using hxl, by rw [h0]; rfl⟩
        rw [hnil] at this; cases this
    exact ⟨hr, hend listed a w hsz hr hst⟩
  | succ fuel ih =>
    intro listed a w hsz hcl hun hst
    refine ⟨fun hr => hend listed a w hsz hr hst, fun j hj => ?_⟩
    obtain ⟨hj0, o, ho, hedg⟩ := mem_ready.1 hj
    have hjl : j < all.length := by simpa using (Array.getElem?_eq_some_iff.1 ho).1
    have hoe : all[j] = o := by simpa [hjl] using ho
    have hje : j < es.length := by omega
    have hjs : j < listed.size := by omega
    have hLj : listed.getD j false = false := by simp [hjs] at hj0 ⊢; exact hj0
    have hedg' : ∀ e, e ∈ (all[j]).after → Region.binds .any e = true → listed.getD e.on false = true := fun e he hb => hedg e (by rw [← hoe]; exact he) hb
    have hfj := hfits j hjl hje
    simp only [Nat.zero_add] at hfj
    -- one that was listed and stands behind j is apart from it
    have hbehind : ∀ i (hi : i < all.length), j < i → listed.getD i false = true → S8 all.toArray (all[j]) (all[i]) ((es[j]).touch) ((es[i]'(by omega)).touch) = true := by
      intro i hi hji hLi
      rcases hord j i hjl hi hji with h | h
      · have := h (fun k => listed.getD k false) hcl (fun e he hb => hcl i hi hLi e he hb)
        rw [hLj] at this; cases this
      · exact h
    have hahead : ∀ i (hi : i < all.length), i < j → listed.getD i false = true ∨ S8 all.toArray (all[i]) (all[j]) ((es[i]'(by omega)).touch) ((es[j]).touch) = true := by
      intro i hi hij
      rcases hord i j hi hjl hij with h | h
      · exact .inl (h (fun k => listed.getD k false) hcl hedg')
      · exact .inr h
    have happ : ∀ {ops : Array Oper} {o1 o2 : Oper} {t1 t2 : Touch}, S8 ops o1 o2 t1 t2 = true → o1.apart ops o2 = true ∧ P9 t1.wr (t2.rd ++ t2.wr) = false ∧ P9 t2.wr t1.rd = false := fun {ops o1 o2 t1 t2} h => by
      unfold S8 at h
      simp only [Bool.and_eq_true, Bool.not_eq_true'] at h
      exact h
    have hreadT : ∀ t, t ∈ (all[j]).looksAt all.toArray → (stL (fun i => listed.getD i false) 0 all es σ0).get t = (stL (fun i => decide (i < j)) 0 all es σ0).get t := by
      intro t ht
      refine J1 0 all es σ0 σ0 rfl (fun i hi hd => ?_)
      rw [Nat.zero_add]
      rcases Nat.lt_trichotomy i j with h | h | h
      · simp only [h, decide_true]
        rcases hahead i hi h with h' | h'
        · exact h'
        · exact absurd ht ((Oper.apart_spec (happ h').1).1 t hd)
      · subst h; simp only [Nat.lt_irrefl, decide_false]; exact hLj
      · simp only [show ¬ i < j by omega, decide_false]
        by_cases hLi : listed.getD i false = true
        · exact absurd ht ((Oper.apart_spec (happ (hbehind i hi h hLi)).1).2.2 t hd)
        · simpa using hLi
    have hreadO : ∀ q, q ∈ (es[j]).rd → (stL (fun i => listed.getD i false) 0 all es σ0).obj q = (stL (fun i => decide (i < j)) 0 all es σ0).obj q := by
      intro q hq
      refine J2 0 all es σ0 σ0 rfl (fun i hi hd => ?_)
      rw [Nat.zero_add]
      have hil : i < all.length := by omega
      rcases Nat.lt_trichotomy i j with h | h | h
      · simp only [h, decide_true]
        rcases hahead i hil h with h' | h'
        · exact h'
        · exact absurd (List.mem_append.2 (.inl hq)) (zAY (happ h').2.1 hd)
      · subst h; simp only [Nat.lt_irrefl, decide_false]; exact hLj
      · simp only [show ¬ i < j by omega, decide_false]
        by_cases hLi : listed.getD i false = true
        · exact absurd hq (zAY (happ (hbehind i hil h hLi)).2.2 hd)
        · simpa using hLi
    obtain ⟨I, loc, hs⟩ := hst
    have hsetL : ∀ i, (listed.setIfInBounds j true).getD i false = if i = j then true else listed.getD i false := fun i => by
      by_cases e : i = j
      · subst e; simp [hjs]
      · rw [if_neg e, getD_set_ne false (fun h => e h.symm)]
    have hnext : ∀ a' w', St E ((es[j]).app o (stL (fun i => listed.getD i false) 0 all es σ0)) a' w' → wpAny P .any all.toArray Q fuel (listed.setIfInBounds j true) a' w' := by
      intro a' w' ⟨I', loc', hs'⟩
      refine ih _ a' w' (by simpa using hsz) ?_ ?_ ⟨I', loc', hs'.congr ?_ (fun t => ?_) (fun q => ?_)⟩
      · intro i hi hLi e he hb
        have hLi : (listed.setIfInBounds j true).getD i false = true := hLi
        show (listed.setIfInBounds j true).getD e.on false = true
        rw [hsetL] at hLi
        rw [hsetL]
        split
        · rfl
        · by_cases e1 : i = j
          · subst e1; exact hedg' e he hb
          · rw [if_neg e1] at hLi; exact hcl i hi hLi e he hb
      · have hlt : ((List.range all.length).filter fun i => !(listed.setIfInBounds j true).getD i true).length < ((List.range all.length).filter fun i => !listed.getD i true).length := by
          have hsub : ((List.range all.length).filter fun i => !(listed.setIfInBounds j true).getD i true) = ((List.range all.length).filter fun i => !listed.getD i true).filter (fun i => decide (i ≠ j)) := by
            rw [List.filter_filter]
            apply List.filter_congr
            intro i _
            by_cases e : i = j
            · subst e; simp [hjs]
            · rw [getD_set_ne true (fun h => e h.symm)]; simp [e]
          rw [hsub]
          have hmem : j ∈ (List.range all.length).filter fun i => !listed.getD i true := List.mem_filter.2 ⟨by simpa using hjl, by rw [hj0]; rfl⟩
          refine Nat.lt_of_le_of_ne (List.length_filter_le _ _) (fun e => ?_)
          have := (List.length_filter_eq_length_iff.1 e) j hmem
          simp at this
        omega
      · rw [zBE, Y5, Y5]
      · rw [N7]
        by_cases hd : o.dst = some t
        · rw [if_pos hd]
          refine zDL 0 all es σ0 hjl hje hlen (by rw [hoe]; exact hd) (by rw [Nat.zero_add, hsetL, if_pos rfl]) (fun i hi hji hdi => ?_)
          rw [Nat.zero_add, hsetL, if_neg (by omega)]
          by_cases hLi : listed.getD i false = true
          · have hap := Oper.apart_spec (happ (hbehind i hi hji hLi)).1
            exact absurd hdi (hap.2.1 t (by rw [hoe]; exact hd))
          · simpa using hLi
        · rw [if_neg hd]
          refine J1 0 all es σ0 σ0 rfl (fun i hi hdi => ?_)
          rw [Nat.zero_add, hsetL, if_neg]
          intro e; subst e; rw [hoe] at hdi; exact hd hdi
      · rw [N8]
        by_cases hq : q ∈ (es[j]).wr.map (·.1)
        · refine (zDM 0 all es σ0 (stL (fun i => listed.getD i false) 0 all es σ0) hje hlen hq (by rw [Nat.zero_add, hsetL, if_pos rfl]) (fun i hi hji hdi => ?_))
          rw [Nat.zero_add, hsetL, if_neg (by omega)]
          by_cases hLi : listed.getD i false = true
          · exact absurd (List.mem_append.2 (.inr hdi)) (zAY (happ (hbehind i (by omega) hji hLi)).2.1 hq)
          · simpa using hLi
        · rw [zA5 _ _ _ hq]
          refine J2 0 all es σ0 σ0 rfl (fun i hi hdi => ?_)
          rw [Nat.zero_add, hsetL, if_neg]
          intro e; subst e; exact hq hdi
    unfold wpOp
    rw [ho]
    simp only
    have hguard : l8 all (stL (fun i => listed.getD i false) 0 all es σ0) o ((es[j]).want = true) ((es[j]).want = false) := by
      have hg := hfj.guard
      rw [hoe] at hg
      unfold l8
      cases hgo : o.guard with
      | none => rw [hgo] at hg; exact hg
      | some jw =>
        obtain ⟨j', want⟩ := jw
        rw [hgo] at hg
        obtain ⟨d, h1, h2⟩ := hg
        simp only [h1]
        have hlk : d ∈ (all[j]).looksAt all.toArray := by
          rw [hoe]
          exact zG2 hgo (by simpa using h1)
        rw [hreadT d hlk]
        rcases h2 with ⟨b, h2, h3⟩ | ⟨h2, h3⟩
        · rw [h2]; simp only
          exact ⟨fun e => by rw [h3, e]; simp, fun e => by rw [h3, e]; cases want <;> rfl⟩
        · rw [h2]; exact h3
    rcases L0 hs hguard with ⟨hw, hwant⟩ | ⟨hw, hwant⟩
    · rw [if_pos hw]
      refine .inl (H0 (nx := (es[j]).nx) (K := fun v rd wr => v = (es[j]).v ∧ wr = (es[j]).wr) hs ?_ (fun d hd => ?_) ?_)
      · have := hfj.run hwant (stL (fun i => listed.getD i false) 0 all es σ0).ev (stL (fun i => listed.getD i false) 0 all es σ0).obj (fun v rd wr => v = (es[j]).v ∧ wr = (es[j]).wr) (fun x hx => ?_) hreadO ⟨rfl, rfl⟩
        · rw [hoe] at this; exact this
        · cases x with
          | tmp t => exact hreadT t (zG3 hx)
          | _ => rfl
      · rw [Y5]; have := hfj.dst d (by rw [hoe]; exact hd); rw [Y5] at this; exact this
      · rintro v rd wr a' w' ⟨rfl, rfl⟩ hst
        exact hnext a' w' hst
    · rw [hw, if_neg (by simp)]
      obtain ⟨hv, _, hwr⟩ := hfj.skip hwant
      refine hnext _ _ ⟨I, loc, ?_⟩
      unfold Evt.app
      rw [hv, hwr]
      exact hs.putD U1 (fun d hd => by rw [Y5]; have := hfj.dst d (by rw [hoe]; exact hd); rw [Y5] at this; exact this)
end
end Go.Abs

namespace Go.Abs
open Go
def J4 (P : Program) (t : TypeId) : Bool := match P.underlying t with
 | some (.struct fs) => fs.all (fun f => (sizeT P f.type).isSome)
 | _ => false
def baC (z : Value) (sz : Nat) (ps : List (Nat × AV)) (K : Cont) : Prop := z.cells.all (·.oneCell') = true ∧ (∀ p, p ∈ ps → p.2.sized = true) ∧ (match X8 sz (z.cells.toList.map .raw) ps with
 | some cs => K (.agg cs) [] []
 | none => False)
theorem buildA_array {P : Program} {t n e : TypeId} {z : Value} {sz : Nat} (h : P.underlying t = some (.array n e)) (hz : zeroT P t = some z) (hs : sizeT P e = some sz) (ps : List (Nat × AV)) (K : Cont) : buildA P t ps K = baC z sz ps K := by
 unfold buildA baC
 simp only [h, hz, hs]
 rfl
theorem zEb {P : Program} {t : TypeId} (h : J4 P t = true) (ps : List (Nat × AV)) (K : Cont) : buildA P t ps K = (match zeroT P t with
  | some z => z.cells.all (·.oneCell') = true ∧ (∀ p, p ∈ ps → p.2.sized = true) ∧ (match X7 P t (z.cells.toList.map .raw) ps with
   | some cs => K (.agg cs) [] []
   | none => False)
  | none => False) := by
 unfold J4 at h
 unfold buildA
 split at h
 ·rename_i fs hf
  simp only [hf]
  have h' : ∀ f, f ∈ fs → (sizeT P f.type).isSome = true := fun f hf' => by
   obtain ⟨i, hi, rfl⟩ := Array.mem_iff_getElem.1 hf'
   exact (Array.all_eq_true.1 h) i hi
  cases zeroT P t with
  | none => rfl
  | some z =>
   simp only [eq_iff_iff]
   constructor
   ·rintro ⟨h1, h2, h3, h4⟩; exact ⟨h1, h3, h4⟩
   ·rintro ⟨h1, h3, h4⟩; exact ⟨h1, h', h3, h4⟩
 ·cases h
def zN5 (E : Env) (Q : Exit → AS → Prop) : Exit → Act → World → Prop := fun e a w => ∃ σ, Q e σ ∧ St E σ a w
def Hold (P : Program) (E : Env) (c : Code) (Q : Exit → AS → Prop) (σ : AS) : Prop := ∀ a w, St E σ a w → c.wp P (zN5 E Q) a w
def z3 (next : AS → Prop) (Q : Exit → AS → Prop) : Exit → AS → Prop
 | .normal, σ => next σ
 | e, σ => Q e σ
def z4 (id : Nat) (Q : Exit → AS → Prop) : Exit → AS → Prop
 | .exit j, σ => if j = id then Q .normal σ else Q (.exit j) σ
 | e, σ => Q e σ
section
variable {P : Program} {E : Env} {Q : Exit → AS → Prop} {σ : AS}
theorem Hold.mono {c : Code} {Q' : Exit → AS → Prop} (h : Hold P E c Q σ) (hq : ∀ e σ, Q e σ → Q' e σ) : Hold P E c Q' σ :=
 fun a w hs => wp_mono (h a w hs) (fun e _ _ ⟨σ', h1, h2⟩ => ⟨σ', hq e σ' h1, h2⟩)
theorem zGR {x y : Code} (h : Hold P E x (z3 (Hold P E y Q) Q) σ) : Hold P E (.seq x y) Q σ := fun a w hs =>
 wp_seq (wp_mono (h a w hs) (fun e a w ⟨σ', h1, h2⟩ => by
  cases e with
  | normal => exact h1 a w h2
  | _ => exact ⟨σ', h1, h2⟩))
theorem zGS (h : Q .normal σ) : Hold P E .skip Q σ := fun _ _ hs => wp_skip ⟨σ, h, hs⟩
theorem zGM {l : Nat} (h : Q .normal σ) : Hold P E (.label l) Q σ := fun _ _ hs => wp_label ⟨σ, h, hs⟩
theorem zGL {id : Nat} (h : Q (.exit id) σ) : Hold P E (.exit id) Q σ := fun _ _ hs => wp_exit ⟨σ, h, hs⟩
theorem zGQ (h : Q .ret σ) : Hold P E .ret Q σ := fun _ _ hs => wp_ret ⟨σ, h, hs⟩
theorem zGI {id : Nat} {c : Code} (h : Hold P E c (z4 id Q) σ) : Hold P E (.block id c) Q σ := fun a w hs =>
 wp_block (wp_mono (h a w hs) (fun e a w ⟨σ', h1, h2⟩ => by
  cases e with
  | exit j =>
   simp only [z4] at h1
   simp only [Exit.inBlock]
   split
   ·rename_i hj; rw [if_pos hj] at h1; exact ⟨σ', h1, h2⟩
   ·rename_i hj; rw [if_neg hj] at h1; exact ⟨σ', h1, h2⟩
  | _ => exact ⟨σ', h1, h2⟩))
theorem zGJ {c : Operand} {x y : Code} {b : Bool} (hc : σ.ev c = .raw (.bool b)) (ht : b = true → Hold P E x Q σ) (hf : b = false → Hold P E y Q σ) : Hold P E (.cond c x y) Q σ := fun a w hs => by
 obtain ⟨I, loc, hs'⟩ := hs
 have hv := hs'.ev c
 rw [hc] at hv
 exact wp_cond_split hv.raw_eq (fun e => ht e a w ⟨I, loc, hs'⟩) (fun e => hf e a w ⟨I, loc, hs'⟩)
theorem zGP {id : Nat} {ops : List Oper} (h : q8 P ops (fun σ' _ => Q .normal σ') ops σ []) : Hold P E (.region id ops.toArray false) Q σ := fun a w hs =>
 wp_region_list (zAf (fun σ' _ a' w' h1 h2 => ⟨σ', h1, h2⟩) ops σ [] a w h hs)
theorem zGK {id : Nat} {ops : List Oper} (hm : P.follows .mixedOrders = true) (he : M3 ops = true) (h : q8 P ops (fun σ' ts => T1 ops ts = true ∧ Q .normal σ') ops σ []) : Hold P E (.region id ops.toArray true) Q σ := fun a w hs => by
  obtain ⟨es, σ', hc, hi, hq⟩ := C8 ops σ [] h
  refine wp_region_any hm ?_
  have hcl : J9 ops (fun i => (Array.replicate ops.toArray.size false).getD i false) := fun i _ hL => by
    exfalso
    have h2 : (Array.replicate ops.toArray.size false).getD i false = true := hL
    by_cases hi : i < ops.length <;> simp [hi] at h2
  have hst : St E (stL (fun i => (Array.replicate ops.toArray.size false).getD i false) 0 ops es σ) a { w with drawn := w.drawn + 1 } := by
    obtain ⟨I, loc, hs⟩ := hs
    have hs2 := hs.heap (w' := { w with drawn := w.drawn + 1 }) rfl rfl rfl rfl
    have hno : ∀ (k : Nat) (l : List Oper) (es : List Evt) (τ : AS), stL (fun i => (Array.replicate ops.toArray.size false).getD i false) k l es τ = τ := fun k l => by
      induction l generalizing k with
      | nil => exact fun es τ => by cases es <;> rfl
      | cons o l ih => exact fun es τ => by
                         cases es with
                         | nil => rfl
                         | cons e es =>
                           simp only [stL]
                           rw [if_neg]
                           · exact ih _ _ _
                           · by_cases hk : k < ops.length <;> simp [hk]
    rw [hno]; exact ⟨I, loc, hs2⟩
  have := zEr (by simpa using hi) he hc (Q := zN5 E Q) (fun a w h => ⟨σ', hq, h⟩) ops.length (Array.replicate ops.toArray.size false) a { w with drawn := w.drawn + 1 } (by simp) hcl (Nat.le_trans (List.length_filter_le _ _) (by simp)) hst
  simpa using this
end
def zNu (m : List (Option Nat)) : Nat → Option (Option Nat) := fun k => m[k]?
mutual
def XpF (H : Nat → AObj) (m : List (Option Nat)) (ex : List Nat) : AV → AV → Prop
 | .any, _ => True
 | .ptr k off, .ptr o off' => m[k]? = some (some o) ∧ off = off'
 | .eptr k sz i off, .eptr o sz' i' off' => m[k]? = some (some o) ∧ sz = sz' ∧ i = i' ∧ off = off'
 | .own k sz off len, .own o sz' off' len' => m[k]? = some (some o) ∧ sz = sz' ∧ off = off' ∧ len = len'
 | .own k _ off len, .raw v => m[k]? = some none ∧ off = 0 ∧ len = 0 ∧ v = .slice none 0 0
 | .mp k, .mp o => m[k]? = some (some o)
 | .yld k, .yld o => m[k]? = some (some o)
 | .ifp t k off, .ifp t' o off' => m[k]? = some (some o) ∧ t = t' ∧ off = off'
 | .raw v, .raw v' => v = v'
 | .list xs, .list ys => xs = ys
 | .list xs, .own o sz off len => o ∈ ex ∧ (match H o with
  | .row sz' zs => sz' = sz ∧ off + len ≤ zs.length ∧ xs = (zs.drop off).take len
  | .box cs => sz = 1 ∧ off = 0 ∧ len = cs.length ∧ (∀ x, x ∈ xs → u1 x = true) ∧ (xs = cs ∨ XpL H m ex xs cs)
  | _ => False)
 | .fmap ks xs, .fmap ks' xs' => ks = ks' ∧ xs = xs'
 | .fmap ks xs, .mp o => o ∈ ex ∧ (match H o with
  | .mapo ks' xs' => MPerm ks xs ks' xs'
  | _ => False)
 | .fmap ks xs, .raw v => ks = [] ∧ xs = [] ∧ v = .map none
 | .list xs, .raw v => xs = [] ∧ v = .slice none 0 0
 | .elt x, .elt y => x = y
 | .agg cs, .agg ds => XpL H m ex cs ds
 | .tup cs, .tup ds => XpL H m ex cs ds
 | .fn f cs, .fn g ds => f = g ∧ XpL H m ex cs ds
 | _, _ => False
def XpL (H : Nat → AObj) (m : List (Option Nat)) (ex : List Nat) : List AV → List AV → Prop
 | [], [] => True
 | x :: xs, y :: ys => XpF H m ex x y ∧ XpL H m ex xs ys
 | _, _ => False
end
mutual
theorem XpF.sound {H : Nat → AObj} {m : List (Option Nat)} {ex : List Nat} : ∀ {x y : AV}, XpF H m ex x y → Xp H (zNu m) (· ∈ ex) x y
 | .any, y, _ => .any y
 | .ptr k off, .ptr o off', h => by simp only [XpF] at h; obtain ⟨h1, rfl⟩ := h; exact .ptr _ _ _ h1
 | .eptr k sz i off, .eptr o sz' i' off', h => by simp only [XpF] at h; obtain ⟨h1, rfl, rfl, rfl⟩ := h; exact .eptr _ _ _ _ _ h1
 | .own k sz off len, .own o sz' off' len', h => by simp only [XpF] at h; obtain ⟨h1, rfl, rfl, rfl⟩ := h; exact .own _ _ _ _ _ h1
 | .own k sz off len, .raw v, h => by simp only [XpF] at h; obtain ⟨h1, rfl, rfl, rfl⟩ := h; exact .nil _ _ h1
 | .mp k, .mp o, h => by simp only [XpF] at h; exact .mp _ _ h
 | .yld k, .yld o, h => by simp only [XpF] at h; exact .yld _ _ h
 | .ifp t k off, .ifp t' o off', h => by simp only [XpF] at h; obtain ⟨h1, rfl, rfl⟩ := h; exact .ifp _ _ _ _ h1
 | .raw v, .raw v', h => by simp only [XpF] at h; subst h; exact .same _ (.raw _)
 | .list xs, .list ys, h => by simp only [XpF] at h; subst h; exact .same _ (.list _)
 | .list xs, .own o sz off len, h => by
  simp only [XpF] at h
  obtain ⟨h1, h⟩ := h
  generalize hA : H o = A at h
  cases A with
  | row sz' zs => obtain ⟨rfl, h3, rfl⟩ := h; exact .froz _ _ _ _ _ hA h1 h3
  | box cs =>
   obtain ⟨rfl, rfl, rfl, hf, h⟩ := h
   rcases h with rfl | h
   ·exact .frozb o 0 _ xs xs hA h1 (by omega) rfl rfl (fun x hx => M6 (hf x hx)) (fun i hi hi' => .same _ (M6 (hf _ (List.getElem_mem hi))).1)
   ·obtain ⟨h3, h4⟩ := XpL.sound h
    exact .frozb o 0 _ cs xs hA h1 (by omega) rfl h3 (fun x hx => M6 (hf x hx)) h4
  | _ => exact h.elim
 | .fmap ks xs, .fmap ks' xs', h => by simp only [XpF] at h; obtain ⟨rfl, rfl⟩ := h; exact .same _ (.fmap _ _)
 | .fmap ks xs, .mp o, h => by
  simp only [XpF] at h
  obtain ⟨h1, h⟩ := h
  generalize hA : H o = A at h
  cases A with
  | mapo ks' xs' => exact .frozm o _ _ _ _ hA h1 h
  | _ => exact h.elim
 | .fmap ks xs, .raw v, h => by simp only [XpF] at h; obtain ⟨rfl, rfl, rfl⟩ := h; exact .nmapl
 | .list xs, .raw v, h => by simp only [XpF] at h; obtain ⟨rfl, rfl⟩ := h; exact .nill
 | .elt x, .elt y, h => by simp only [XpF] at h; subst h; exact .same _ (.elt _)
 | .agg cs, .agg ds, h => by simp only [XpF] at h; obtain ⟨h1, h2⟩ := XpL.sound h; exact .agg _ _ h1 h2
 | .tup cs, .tup ds, h => by simp only [XpF] at h; obtain ⟨h1, h2⟩ := XpL.sound h; exact .tup _ _ h1 h2
 | .fn f cs, .fn g ds, h => by simp only [XpF] at h; obtain ⟨rfl, h⟩ := h; obtain ⟨h1, h2⟩ := XpL.sound h; exact .fn _ _ _ h1 h2
theorem XpL.sound {H : Nat → AObj} {m : List (Option Nat)} {ex : List Nat} : ∀ {xs ys : List AV}, XpL H m ex xs ys → xs.length = ys.length ∧ ∀ i (h : i < xs.length) (h' : i < ys.length), Xp H (zNu m) (· ∈ ex) xs[i] ys[i]
 | [], [], _ => ⟨rfl, fun i h => by simp at h⟩
 | x :: xs, y :: ys, h => by
  simp only [XpL] at h
  obtain ⟨h1, h2⟩ := h
  obtain ⟨h3, h4⟩ := XpL.sound h2
  refine ⟨by simp [h3], fun i hi hi' => ?_⟩
  cases i with
  | zero => exact XpF.sound h1
  | succ i => simp only [List.getElem_cons_succ]; exact h4 i _ _
end
theorem XpL.all2 {H : Nat → AObj} {m : List (Option Nat)} {ex : List Nat} : ∀ {xs ys : List AV}, XpL H m ex xs ys → All2 (Xp H (zNu m) (· ∈ ex)) xs ys
 | [], [], _ => .nil
 | x :: xs, y :: ys, h => by
  simp only [XpL] at h
  exact .cons (XpF.sound h.1) (XpL.all2 h.2)
theorem XpF.refl {H : Nat → AObj} {m : List (Option Nat)} {ex : List Nat} : ∀ {x : AV}, Pure x → XpF H m ex x x := by
 intro x h
 induction h with
 | any => simp only [XpF]
 | raw v => simp only [XpF]
 | list xs => simp only [XpF]
 | elt x => simp only [XpF]
 | fmap ks xs => simp [XpF]
 | agg cs _ ih =>
  simp only [XpF]
  have : ∀ l : List AV, (∀ c, c ∈ l → XpF H m ex c c) → XpL H m ex l l := fun l => by
   induction l with
   | nil => exact fun _ => by simp only [XpL]
   | cons c l ihl => exact fun h => by simp only [XpL]; exact ⟨h c (by simp), ihl (fun d hd => h d (by simp [hd]))⟩
  exact this cs ih
def envG (H : Nat → AObj) (m : List (Option Nat)) (ex : List Nat) (env' : List (Nat × AV)) : List (Nat × AV) → Prop
 | [] => True
 | (t, x) :: r => XpF H m ex x (lkV env' t) ∧ envG H m ex env' r
theorem envG.sound {H : Nat → AObj} {m : List (Option Nat)} {ex : List Nat} {env' : List (Nat × AV)} : ∀ {env : List (Nat × AV)}, envG H m ex env' env → ∀ t, Xp H (zNu m) (· ∈ ex) (lkV env t) (lkV env' t)
 | [], _, t => .any _
 | (k, x) :: r, h, t => by
  simp only [lkV]
  split
  ·rename_i e; subst e; exact XpF.sound h.1
  ·exact envG.sound h.2 t
def OXpF (H : Nat → AObj) (m : List (Option Nat)) (ex : List Nat) : AObj → AObj → Prop
 | .dead, _ => True
 | .box cs, .box ds => XpL H m ex cs ds
 | .row s xs, .row s' ys => s = s' ∧ xs = ys
 | .mapo ks xs, .mapo ks' xs' => ks = ks' ∧ xs = xs'
 | .iter c ks xs, .iter c' ks' xs' => c = c' ∧ ks = ks' ∧ xs = xs'
 | .siter s p, .siter s' p' => s = s' ∧ p = p'
 | .brow e l, .brow e' l' => e = e' ∧ l = l'
 | .tbox e cs, .tbox e' ds => e = e' ∧ XpL H m ex cs ds
 | .loopo L env p, .loopo L' env' p' => L = L' ∧ p = p' ∧ envG H m ex env' env
 | _, _ => False
theorem OXpF.sound {H : Nat → AObj} {m : List (Option Nat)} {ex : List Nat} {A B : AObj} (h : OXpF H m ex A B) : OXp H (zNu m) (· ∈ ex) A B := by
 cases A <;> cases B <;> first | exact h | exact h.elim | exact XpL.sound h | exact ⟨h.1, XpL.sound h.2⟩ | exact ⟨h.1, h.2.1, h.2.2.sound⟩
def envF (σ : AS) (m : List (Option Nat)) (ex : List Nat) : List (Nat × AV) → Prop
 | [] => True
 | (t, x) :: r => XpF σ.obj m ex x (σ.get t) ∧ envF σ m ex r
def objsF (σ : AS) (m : List (Option Nat)) (ex : List Nat) : List AObj → List (Option Nat) → Prop
 | [], [] => True
 | A :: r, some o :: r' => OXpF σ.obj m ex A (σ.obj o) ∧ objsF σ m ex r r'
 | A :: r, none :: r' => ((∃ s, 0 < s ∧ A = .row s []) ∨ A = .box [] ∨ ∃ e, A = .brow e []) ∧ objsF σ m ex r r'
 | _, _ => False
theorem envF.sound {σ : AS} {m : List (Option Nat)} {ex : List Nat} : ∀ {env : List (Nat × AV)}, envF σ m ex env → ∀ t, Xp σ.obj (zNu m) (· ∈ ex) (lkV env t) (σ.get t)
 | [], _, t => .any _
 | (k, x) :: r, h, t => by
  simp only [lkV]
  split
  ·rename_i e; subst e; exact XpF.sound h.1
  ·exact envF.sound h.2 t
theorem objsF.sound {σ : AS} {m0 : List (Option Nat)} {ex : List Nat} : ∀ {As : List AObj} {m : List (Option Nat)}, objsF σ m0 ex As m → As.length = m.length ∧ ∀ k (h : k < As.length) (h' : k < m.length), match m[k] with
  | none => (∃ s, 0 < s ∧ As[k] = .row s []) ∨ As[k] = .box [] ∨ ∃ e, As[k] = .brow e []
  | some o => OXp σ.obj (zNu m0) (· ∈ ex) As[k] (σ.obj o)
 | [], [], _ => ⟨rfl, fun k h => by simp at h⟩
 | A :: r, some o :: r', h => by
  obtain ⟨h1, h2⟩ := objsF.sound h.2
  refine ⟨by simp [h1], fun k hk hk' => ?_⟩
  cases k with
  | zero => exact OXpF.sound h.1
  | succ k => simp only [List.getElem_cons_succ]; exact h2 k _ _
 | A :: r, none :: r', h => by
  obtain ⟨h1, h2⟩ := objsF.sound h.2
  refine ⟨by simp [h1], fun k hk hk' => ?_⟩
  cases k with
  | zero => exact h.1
  | succ k => simp only [List.getElem_cons_succ]; exact h2 k _ _
def Z2 : List (Option Nat) → Bool
 | [] => true
 | none :: r => Z2 r
 | some o :: r => !r.contains (some o) && Z2 r
theorem zCW : ∀ {m : List (Option Nat)}, Z2 m = true → ∀ (k k' o : Nat), m[k]? = some (some o) → m[k']? = some (some o) → k = k'
 | [], _, k, k', o, h, _ => by simp at h
 | x :: r, hb, k, k', o, h, h' => by
  have hr : Z2 r = true := by cases x <;> simp_all [Z2]
  have hno : x = some o → (some o) ∉ r := fun e => by subst e; simp [Z2] at hb; exact hb.1
  cases k with
  | zero =>
   cases k' with
   | zero => rfl
   | succ k' => simp at h h'; exact absurd (List.mem_of_getElem? h') (hno h)
  | succ k =>
   cases k' with
   | zero => simp at h h'; exact absurd (List.mem_of_getElem? h) (hno h')
   | succ k' => simp at h h'; rw [zCW hr k k' o h h']
def W4 : List AObj → List (Option Nat) → List (Option Nat)
 | A :: r, x :: m => (if A.live = true then x else none) :: W4 r m
 | _, m => m
theorem zAO : ∀ {As : List AObj} {m : List (Option Nat)} {k o : Nat} (h : k < As.length), (As[k]).live = true → m[k]? = some (some o) → (W4 As m)[k]? = some (some o)
 | A :: r, [], k, o, h, hl, e => by simp at e
 | A :: r, x :: m, 0, o, h, hl, e => by
  simp only [List.getElem_cons_zero] at hl
  simp only [W4, hl, if_true]; simpa using e
 | A :: r, x :: m, k + 1, o, h, hl, e => by
  simp only [List.getElem_cons_succ] at hl
  simp only [W4, List.getElem?_cons_succ] at e ⊢
  exact zAO (by simpa using h) hl e
def Weak (n : Nat) (m : List (Option Nat)) (ex : List Nat) (σ : AS) (N : Nat) (env : List (Nat × AV)) (As : List AObj) : Prop :=
 N = σ.n ∧ envF σ m ex env ∧ objsF σ m ex As m ∧ Z2 (W4 As m) = true ∧ ex.all (fun o => !m.contains (some o)) = true ∧ (List.range n).all (fun k => m[k]? == some (some k)) = true
theorem Weak.wk {n : Nat} {m : List (Option Nat)} {ex : List Nat} {σ : AS} {N : Nat} {env : List (Nat × AV)} {As : List AObj} (h : Weak n m ex σ N env As) :
  WK (zNu m) (· ∈ ex) σ ⟨N, env, zNf 0 As⟩ ∧ ∀ k, k < n → zNu m k = some (some k) := by
 obtain ⟨h0, h1, h2, h3, h4, h5⟩ := h
 obtain ⟨g1, g2⟩ := h2.sound
 have hob : ∀ k, (⟨N, env, zNf 0 As⟩ : AS).obj k = As.getD k .unb := fun k => by
  show lkO (zNf 0 As) k = _
  rw [zAP]; simp
 have hlv : ∀ k, ((⟨N, env, zNf 0 As⟩ : AS).obj k).live = true → ∃ h : k < As.length, (As[k]).live = true := fun k hk => by
  rw [hob] at hk
  rcases Nat.lt_or_ge k As.length with h | h
  ·exact ⟨h, by rwa [w9 h] at hk⟩
  ·rw [List.getD, List.getElem?_eq_none h] at hk; simp [AObj.live] at hk
 refine ⟨⟨fun o k ho e => ?_, fun t => h1.sound t, fun k => ?_, fun k k' o hl hl' e e' => ?_⟩, fun k hk => ?_⟩
 case refine_3 =>
  obtain ⟨q1, q2⟩ := hlv k hl
  obtain ⟨q1', q2'⟩ := hlv k' hl'
  exact zCW h3 k k' o (zAO q1 q2 e) (zAO q1' q2' e')
 ·rw [List.all_eq_true] at h4
  have := h4 o ho
  have hm : some o ∈ m := List.mem_of_getElem? e
  simp at this; exact (this hm).elim
 ·rw [hob]
  unfold zNu
  by_cases hk : k < m.length
  ·have hk' : k < As.length := by omega
   have := g2 k hk' hk
   rw [List.getElem?_eq_getElem hk, w9 hk']
   cases hmk : m[k] with
   | none => rw [hmk] at this; exact .inr this
   | some o => rw [hmk] at this; exact this
  ·rw [List.getElem?_eq_none (by omega)]
   left
   rw [List.getD, List.getElem?_eq_none (by omega)]; rfl
 ·rw [List.all_eq_true] at h5
  have := h5 k (by simpa using hk)
  unfold zNu
  simpa using this
theorem H8 {P : Program} {E : Env} {c : Code} {Q : Exit → AS → Prop} {σ : AS} (m : List (Option Nat)) (ex : List Nat) {N : Nat} {env : List (Nat × AV)} {As : List AObj} (hw : Weak E.n m ex σ N env As) (h : Hold P E c Q ⟨N, env, zNf 0 As⟩) : Hold P E c Q σ :=
 fun a w hs => h a w (hs.wk hw.wk.1 hw.1 hw.wk.2)
theorem zGN {P : Program} {E : Env} {c : Code} {Q : Exit → AS → Prop} {σ : AS} (Inv : Nat → Nat → List (Nat × AV) → List AObj → Prop) (n : Nat)
  (h0 : ∃ m ex N env As, Weak E.n m ex σ N env As ∧ Inv n N env As)
  (h : ∀ n N env As, Inv n N env As → Hold P E c (z3 (fun σ' => ∃ n', n' < n ∧ ∃ m ex N env As, Weak E.n m ex σ' N env As ∧ Inv n' N env As) Q) ⟨N, env, zNf 0 As⟩) : Hold P E (.loop c) Q σ := by
 obtain ⟨m, ex, N, env, As, hw, hi⟩ := h0
 refine H8 m ex hw ?_
 intro a w hs
 refine wp_loop_ghost (fun n a w => ∃ N env As, Inv n N env As ∧ St E ⟨N, env, zNf 0 As⟩ a w) n ⟨N, env, As, hi, hs⟩ ?_
 rintro n a w ⟨N, env, As, h1, h2⟩
 refine wp_mono (h n N env As h1 a w h2) ?_
 rintro e a w ⟨σ', h3, h4⟩
 cases e with
 | normal =>
  obtain ⟨n', h5, m', ex', N', env', As', h6, h7⟩ := h3
  exact ⟨n', h5, N', env', As', h7, h4.wk h6.wk.1 h6.1 h6.wk.2⟩
 | _ => exact ⟨σ', h3, h4⟩
def x7 (P : Program) (σ : AS) : ResultVar → AV → Prop
 | .tmp t, x => x = σ.get t
 | .cell a t, x => Z1 P t (σ.get a) σ.obj (fun v _ _ => x = v)
def K6 (P : Program) (σ : AS) : List ResultVar → List AV → Prop
 | [], [] => True
 | v :: vs, x :: xs => x7 P σ v x ∧ K6 P σ vs xs
 | _, _ => False
def Z4 : List AV → AV
 | [x] => x
 | xs => .tup xs
def F7 (tmps : Array Value) : ResultVar → Sem Value
 | .tmp t => pure (tmps.getD t undef)
 | .cell b t => do loadVar t (← asAddr (tmps.getD b undef))
theorem zH6 (fn : Func) (tmps : Array Value) : results fn tmps = (do let vs ← fn.results.mapM (F7 tmps); pure (if h : vs.size = 1 then vs[0] else .tuple vs)) := rfl
theorem zCr {P : Program} {E : Env} {I : Nat → Prop} {loc : Nat → Loc} {σ : AS} {a : Act} {w : World} (hs : SR E I loc σ a w) : ∀ {vs : List ResultVar} {xs : List AV}, K6 P σ vs xs →
  ∃ us : List Value, (vs.mapM (F7 a.tmps)).run P w = .ok us w ∧ xs.length = us.length ∧ ∀ i (h : i < xs.length) (h' : i < us.length), VR w I loc xs[i] us[i]
 | [], [], _ => ⟨[], by simp, rfl, fun i h => by simp at h⟩
 | v :: vs, x :: xs, h => by
  obtain ⟨us, h1, h2, h3⟩ := zCr hs h.2
  have hone : ∃ u, (F7 a.tmps v).run P w = .ok u w ∧ VR w I loc x u := by
   have h0 := h.1
   cases v with
   | tmp t => simp only [x7] at h0; subst h0; exact ⟨_, rfl, hs.tmps t⟩
   | cell b t =>
    simp only [x7] at h0
    obtain ⟨v, rd, y, hK, hr, hv⟩ := zCJ (P := P) hs (hs.tmps b) h0
    subst hK
    refine ⟨y, ?_, hv⟩
    have hp : ∃ ad, a.tmps.getD b undef = .pointer (some ad) := by
     have hb := hs.tmps b
     generalize a.tmps.getD b undef = u at *
     generalize σ.get b = s at *
     unfold Z1 at h0
     cases s with
     | ptr => cases hb with
      | pure hb => cases hb
      | ptr => exact ⟨_, rfl⟩
     | eptr => cases hb with
      | pure hb => cases hb
      | eptr => exact ⟨_, rfl⟩
     | elt => cases hb with
      | pure hb => cases hb; exact ⟨_, rfl⟩
     | _ => exact h0.elim
    obtain ⟨ad, hp⟩ := hp
    rw [hp] at hr
    simp only [F7, hp]
    simpa [Instr.loadAt, Instr.sureAddr, asAddr] using hr
  obtain ⟨u, g1, g2⟩ := hone
  refine ⟨u :: us, ?_, by simp [h2], fun i hi hi' => ?_⟩
  ·rw [List.mapM_cons, Sem.run_bind, g1, Result.andThen_ok, Sem.run_bind, h1]
   rfl
  ·cases i with
   | zero => exact g2
   | succ i => simp only [List.getElem_cons_succ]; exact h3 i _ _
theorem zH7 {P : Program} {E : Env} {I : Nat → Prop} {loc : Nat → Loc} {σ : AS} {a : Act} {w : World} (hs : SR E I loc σ a w) {fn : Func} {xs : List AV} (h : K6 P σ fn.results.toList xs) :
  ∃ v, (results fn a.tmps).run P w = .ok v w ∧ VR w I loc (Z4 xs) v := by
 obtain ⟨us, h1, h2, h3⟩ := zCr (P := P) hs h
 have hrun : (results fn a.tmps).run P w = .ok (if h : us.toArray.size = 1 then us.toArray[0] else .tuple us.toArray) w := by
  rw [zH6, Sem.run_bind]
  have e4 : fn.results = fn.results.toList.toArray := by simp
  rw [e4, List.mapM_toArray]
  simp only [Sem.run_map, h1, Result.andThen_ok, Sem.run_pure]
 refine ⟨_, hrun, ?_⟩
 cases xs with
 | nil =>
  have : us = [] := List.eq_nil_of_length_eq_zero (by simpa using h2.symm)
  subst this
  exact .tup [] #[] rfl (fun i h => by simp at h)
 | cons x xs =>
  cases xs with
  | nil =>
   have hl : us.length = 1 := by simpa using h2.symm
   rw [dif_pos (by simpa using hl)]
   have := h3 0 (by simp) (by omega)
   simpa [Z4] using this
  | cons y ys =>
   have hl : us.length ≠ 1 := by simp at h2; omega
   rw [dif_neg (by simpa using hl)]
   refine .tup _ us.toArray (by simpa using h2) (fun i hi hi' => ?_)
   simpa using h3 i hi (by simpa using hi')
def zN6 : Nat → List AV → List (Nat × AV)
 | _, [] => []
 | k, x :: r => (k, x) :: zN6 (k + 1) r
theorem zCH (k0 : Nat) : ∀ (xs : List AV) (k : Nat), lkV (zN6 k0 xs) k = if k < k0 then .any else xs.getD (k - k0) .any
 | [], k => by simp [zN6, lkV]
 | A :: r, k => by
  simp only [zN6, lkV, zCH (k0 + 1) r k]
  by_cases h : k0 = k
  ·subst h; simp
  ·rw [if_neg h]
   by_cases h1 : k < k0
   ·rw [if_pos (by omega), if_pos h1]
   ·rw [if_neg (by omega), if_neg h1]
    have e : k - k0 = (k - (k0 + 1)) + 1 := by omega
    rw [e]; simp
def D8 (P : Program) (fn : Func) (n : Nat) (r : AV) (out : List AObj) (σ : AS) : Prop :=
 ∃ xs m ex, K6 P σ fn.results.toList xs ∧ XpF σ.obj m ex r (Z4 xs) ∧ objsF σ m ex out m ∧ Z2 (W4 out m) = true ∧ ex.all (fun o => !m.contains (some o)) = true ∧ (List.range n).all (fun k => m[k]? == some (some k)) = true
theorem U9 {w : World} {r b : Nat} {o : Obj} (h : b ≠ r) : (w.putObj r o).heap[b]? = w.heap[b]? := World.putObj_heap_other h
theorem SR.shut {E : Env} {I : Nat → Prop} {loc : Nat → Loc} {σ : AS} {a : Act} {w : World} (h : SR E I loc σ a w) {d : Deferred} {ds : List Deferred} (hd : a.defers = d :: ds) :
  ∃ r, d.target = .collected r ∧ w.heap[r]? = some (.deferred (some [])) ∧ SR E I loc σ { a with defers := ds } (w.putObj r (.deferred none)) := by
 obtain ⟨hn, hm⟩ := h.defers
 rw [hd] at hn hm
 obtain ⟨r, rfl, h1, h2, h3, h4⟩ := hm d (by simp)
 have hI : ∀ b, I b → (w.putObj r (.deferred none)).heap[b]? = w.heap[b]? := fun b hb => U9 (fun e => h2 (e ▸ hb))
 refine ⟨r, rfl, h1, ⟨⟨?_, fun d' hd' => ?_⟩, h.size, fun t => (h.tmps t).mono hI (fun _ x => x) (fun _ _ => rfl), fun o => (h.objs o).mono hI (fun _ x => x) (fun _ _ => rfl) (fun e => h.un e) (fun hl b c hb => U9 (fun e => h4 o c hl (e ▸ hb))), h.inj, fun b hb => by rw [World.putObj_size]; exact h.imm b hb, h.sep, ?_, h.base, h.top, h.keep⟩⟩
 ·simp only [List.map_cons, List.nodup_cons] at hn; exact hn.2
 ·obtain ⟨r', rfl, g1, g2, g3, g4⟩ := hm d' (by simp [hd'])
  refine ⟨r', rfl, ?_, g2, g3, g4⟩
  rw [U9]
  ·exact g1
  ·rintro rfl
   simp only [List.map_cons, List.nodup_cons] at hn
   exact hn.1 (List.mem_map.2 ⟨_, hd', rfl⟩)
 ·exact h.fr.of_same rfl rfl rfl (by simp) (fun b hb _ => U9 (by omega))
theorem zCF {P : Program} {E : Env} {fn : Func} {n : Nat} {R : Ending → World → Prop} {I : Nat → Prop} {loc : Nat → Loc} {σ : AS} (hR : ∀ a w, SR E I loc σ a w → a.defers = [] → ∃ v, (results fn a.tmps).run P w = .ok v w ∧ R (.returned v) w) :
  ∀ (ds : List Deferred) (a : Act) (w : World), SR E I loc σ a w → a.defers = ds → LeavesInM Fence.wide n P fn a.tmps R ds .returning w
 | [], a, w, h, e => hR a w h e
 | d :: ds, a, w, h, e => by
  obtain ⟨r, h1, h2, h3⟩ := h.shut e
  exact ⟨by simp, .inl ⟨r, _, h1, run_takeDeferred h2, zCF hR ds { a with defers := ds } _ h3 rfl⟩⟩
def zA9 {T : Type} (P : Program) (f : FuncId) (args : List AV) (fp : List AObj) (r : T → AV) (out : T → List AObj) : Prop :=
 ∀ (w : World) (I : Nat → Prop) (loc : Nat → Loc) (vs : Array Value), SR (i4 w I fp.length loc) I loc (hs fp) W7 w → vs.size = args.length →
  (∀ i (h : i < args.length) (h' : i < vs.size), VR w I loc args[i] vs[i]) →
  Calls P f vs w fun e w' => ∃ t v I' loc', e = .returned v ∧ Post w I loc fp.length (r t) (out t) v w' I' loc'
theorem zJY {T : Type} {P : Program} {f : FuncId} {fn : Func} {c : Code} {args : List AV} {fp : List AObj} {r : T → AV} {out : T → List AObj} (hf : P.funcs[f]? = some fn) (hb : fn.body = some c)
  (h : ∀ E : Env, E.n = fp.length → Hold P E c (fun e σ' => (e = .normal ∨ e = .ret) ∧ ∃ t, D8 P fn fp.length (r t) (out t) σ') ⟨args.length + (fn.ntmps - args.length), zN6 0 args, zNf 0 fp⟩) : zA9 P f args fp r out := by
 intro w I loc vs hs hl hv
 refine (callsIn_wide (n := 0)).1 (callsIn_of_wp_marks hf hb trivial ((wpIn_wide (n := 0)).2 ?_))
 have hst : SR (i4 w I fp.length loc) I loc ⟨args.length + (fn.ntmps - args.length), zN6 0 args, zNf 0 fp⟩ { tmps := vs ++ Array.replicate (fn.ntmps - vs.size) undef, defers := [] } w := by
  refine ⟨.nil, by simp [hl], fun t => ?_, hs.objs, hs.inj, hs.imm, hs.sep, hs.fr, hs.base, hs.top, hs.keep⟩
  show VR w I loc (lkV (zN6 0 args) t) _
  rw [zCH]
  simp only [Nat.not_lt_zero, if_false, Nat.sub_zero]
  by_cases ht : t < args.length
  ·rw [w9 ht]
   have ht' : t < vs.size := by omega
   have e : (vs ++ Array.replicate (fn.ntmps - vs.size) undef).getD t undef = vs[t] := by
    simp [Array.getElem?_append_left ht', ht']
   rw [e]; exact hv t ht ht'
  ·rw [List.getD, List.getElem?_eq_none (by omega)]; exact .pure (.any _)
 refine wp_mono (h (i4 w I fp.length loc) rfl _ w ⟨I, loc, hst⟩) ?_
 rintro e a w' ⟨σ', ⟨he, t, xs, m, ex, h1, h2, h3, h4, h5, h6⟩, I', loc', hs'⟩
 have hweak : Weak fp.length m ex σ' σ'.n [] (out t) := ⟨rfl, trivial, h3, h4, h5, h6⟩
 have hlen : fp.length ≤ (out t).length := by
  have h7 := (h3.sound).1
  rcases Nat.eq_zero_or_pos fp.length with h0 | h0
  ·omega
  ·rw [List.all_eq_true] at h6
   have := h6 (fp.length - 1) (by simp; omega)
   have hm : m[fp.length - 1]? = some (some (fp.length - 1)) := by simpa using this
   have := (List.getElem?_eq_some_iff.1 hm).1
   omega
 have key := zCF (P := P) (E := i4 w I fp.length loc) (fn := fn) (n := 0) (R := fun e w' => ∃ t v I' loc', e = .returned v ∧ Post w I loc fp.length (r t) (out t) v w' I' loc') (I := I') (loc := loc') (σ := σ') (fun a w' hs' _ => by
  obtain ⟨v, hrun, hvr⟩ := zH7 hs' h1
  have hsr := WK.sound hs' hweak.wk.1 rfl hweak.wk.2
  have hval := Xp.sound hs' (XpF.sound h2) hvr
  exact ⟨v, hrun, t, v, _, _, rfl, ⟨hsr.bare, hval, hlen⟩⟩) a.defers a w' hs' rfl
 rcases he with rfl | rfl
 ·exact key
 ·exact key
theorem zJZ {P : Program} {f : FuncId} {fn : Func} {c : Code} {args : List AV} {fp : List AObj} {r : AV} {out : List AObj} (hf : P.funcs[f]? = some fn) (hb : fn.body = some c)
  (h : ∀ E : Env, E.n = fp.length → Hold P E c (fun e σ' => (e = .normal ∨ e = .ret) ∧ D8 P fn fp.length r out σ') ⟨args.length + (fn.ntmps - args.length), zN6 0 args, zNf 0 fp⟩) : zNV P f args fp r out := by
 have := zJY (T := Unit) (args := args) (fp := fp) (r := fun _ => r) (out := fun _ => out) hf hb (fun E hE => (h E hE).mono (fun e σ ⟨h1, h2⟩ => ⟨h1, (), h2⟩))
 intro w I loc vs hs hl hv
 exact (this w I loc vs hs hl hv).mono (fun e w' ⟨_, h⟩ => h)
end Go.Abs

namespace Go.Abs
open Go
def P8 (A : AObj) (F : Nat → List AV → Prop) : Prop := match A with
 | .row s xs => F s xs
 | _ => False
def T4 (A : AObj) (F : List AV → Prop) : Prop := match A with
 | .box cs => F cs
 | _ => False
def zOD (A : AObj) (sz sz' off len : Nat) (F : List AV → Prop) : Prop := match A with
 | .row sz'' xs => sz' = sz ∧ sz'' = sz ∧ off + len ≤ xs.length ∧ F ((xs.drop off).take len)
 | .box cs => sz' = 1 ∧ sz = 1 ∧ off + len ≤ cs.length ∧ (∀ y, y ∈ (cs.drop off).take len → y.one = true) ∧ F ((cs.drop off).take len)
 | _ => False
def Y2 (H : Nat → AObj) (sz : Nat) (x : AV) (F : List AV → List Nat → Prop) : Prop := match x with
 | .list ys => F ys []
 | .own o sz' off len => zOD (H o) sz sz' off len fun ys => F ys [o]
 | .raw (.slice _ 0 _) => F [] []
 | _ => False
def zOH (sz by_ : Nat) (s : AV) (ys : List AV) (rd : List Nat) (H : Nat → AObj) (nx : Nat) (K : Cont) : Prop := match s with
  | .own o sz' 0 len => P8 (H o) fun sz'' xs => sz' = sz ∧ sz'' = sz ∧ len = xs.length ∧ H nx = .unb ∧ (len + ys.length) * by_ ≤ 140737488355328 ∧ len + ys.length ≤ 9223372036854775807 ∧
      K (.own nx sz 0 (len + ys.length)) (o :: nx :: rd) [(o, .dead), (nx, .row sz (xs ++ ys))]
  | .raw (.slice none 0 0) => H nx = .unb ∧ ys.length * by_ ≤ 140737488355328 ∧ ys.length ≤ 9223372036854775807 ∧ K (.own nx sz 0 ys.length) (nx :: rd) [(nx, .row sz ys)]
  | _ => False
def zOG (by_ : Nat) (s : AV) (ys : List AV) (rd : List Nat) (H : Nat → AObj) (nx : Nat) (K : Cont) : Prop := match s with
  | .own o sz' 0 len => T4 (H o) fun cs => sz' = 1 ∧ len = cs.length ∧ H nx = .unb ∧ (len + ys.length) * by_ ≤ 140737488355328 ∧ len + ys.length ≤ 9223372036854775807 ∧
      K (.own nx 1 0 (len + ys.length)) (o :: nx :: rd) [(o, .dead), (nx, .box (cs ++ ys))]
  | .raw (.slice none 0 0) => H nx = .unb ∧ ys.length * by_ ≤ 140737488355328 ∧ ys.length ≤ 9223372036854775807 ∧ K (.own nx 1 0 ys.length) (nx :: rd) [(nx, .box ys)]
  | _ => False
def appR (sz by_ : Nat) (s x : AV) (H : Nat → AObj) (nx : Nat) (K : Cont) : Prop :=
 Y2 H sz x fun ys rd => (∀ y, y ∈ ys → y.cells.length = sz ∧ y.cells.all AV.one = true) ∧ (∀ y, y ∈ ys → Pure y) ∧ zOH sz by_ s ys rd H nx K
def appC (by_ : Nat) (s x : AV) (H : Nat → AObj) (nx : Nat) (K : Cont) : Prop :=
 Y2 H 1 x fun ys rd => (∀ y, y ∈ ys → y.one = true) ∧ zOG by_ s ys rd H nx K
theorem zCV {H : Nat → AObj} {sz : Nat} {x : AV} {F : List AV → List Nat → Prop} : Y2 H sz x F ↔ ∃ ys rd, r9 H sz x = some (ys, rd) ∧ F ys rd := by
 unfold Y2 r9
 constructor
 ·intro h
  split at h
  ·exact ⟨_, _, rfl, h⟩
  ·rename_i o sz' off len
   unfold zOD at h
   split at h
   ·rename_i s xs hA
    obtain ⟨rfl, rfl, h3, h4⟩ := h
    exact ⟨_, _, by simp only [hA]; rw [if_pos (by simp [h3])], h4⟩
   ·rename_i cs hA
    obtain ⟨rfl, rfl, h3, h4, h5⟩ := h
    exact ⟨_, _, by simp only [hA]; rw [if_pos (by simpa using ⟨h3, h4⟩)], h5⟩
   ·exact h.elim
  ·exact ⟨_, _, rfl, h⟩
  ·exact h.elim
 ·rintro ⟨ys, rd, h, hF⟩
  split at h
  ·cases h; exact hF
  ·rename_i o sz' off len
   simp only [zOD]
   generalize H o = A at h
   cases A with
   | row s xs =>
    simp only at h
    by_cases hc : sz' = sz ∧ s = sz ∧ off + len ≤ xs.length
    ·rw [if_pos hc] at h; cases h; exact ⟨hc.1, hc.2.1, hc.2.2, hF⟩
    ·rw [if_neg hc] at h; cases h
   | box cs =>
    simp only at h
    by_cases hc : sz' = 1 ∧ sz = 1 ∧ off + len ≤ cs.length ∧ ((cs.drop off).take len).all AV.one = true
    ·rw [if_pos hc] at h; cases h; exact ⟨hc.1, hc.2.1, hc.2.2.1, List.all_eq_true.1 hc.2.2.2, hF⟩
    ·rw [if_neg hc] at h; cases h
   | _ => cases h
  ·cases h; exact hF
  ·cases h
theorem appendA_row {P : Program} {t e sz by_ : Nat} {z : Value} (h1 : sliceT P t = some e) (h2 : sizeT P e = some sz) (h3 : bytesT P e = some by_) (h4 : zeroT P e = some z) (h5 : zNt z = false) (h6 : 0 < sz) (h7 : z.cells.size = sz)
    (s x : AV) (H : Nat → AObj) (nx : Nat) (K : Cont) : appendA P t s x H nx K = appR sz by_ s x H nx K := by
  have hz : ¬ zNt z = true := by rw [h5]; simp
  have hS : ∀ ys rd, zOH sz by_ s ys rd H nx K ↔ (match s with
      | .own o sz' 0 len => (match H o with
        | .row sz'' xs => sz' = sz ∧ sz'' = sz ∧ len = xs.length ∧ H nx = .unb ∧ (len + ys.length) * by_ ≤ 140737488355328 ∧ len + ys.length ≤ 9223372036854775807 ∧
            K (.own nx sz 0 (len + ys.length)) (o :: nx :: rd) [(o, .dead), (nx, .row sz (xs ++ ys))]
        | _ => False)
      | .raw (.slice none 0 0) => H nx = .unb ∧ ys.length * by_ ≤ 140737488355328 ∧ ys.length ≤ 9223372036854775807 ∧ K (.own nx sz 0 ys.length) (nx :: rd) [(nx, .row sz ys)]
      | _ => False) := fun ys rd => by
    unfold zOH
    split
    · rename_i o sz' len
      unfold P8
      generalize H o = A
      cases A <;> exact Iff.rfl
    · exact Iff.rfl
    · exact Iff.rfl
  unfold appendA appR
  rw [eq_iff_iff, zCV]
  simp only [h1, h2, h3, h4, Option.getD_some]
  cases r9 H sz x with
  | none => exact ⟨fun h => h.elim, fun ⟨_, _, h, _⟩ => by cases h⟩
  | some yr =>
    obtain ⟨ys, rd⟩ := yr
    simp only
    rw [if_neg hz]
    constructor
    · rintro ⟨_, _, g1, g2, g3⟩
      exact ⟨ys, rd, rfl, g1, g2, (hS ys rd).2 g3⟩
    · rintro ⟨ys', rd', e, g1, g2, g3⟩
      cases e
      exact ⟨h6, h7, g1, g2, (hS ys rd).1 g3⟩
theorem appendA_box {P : Program} {t e by_ : Nat} {z : Value} (h1 : sliceT P t = some e) (h2 : sizeT P e = some 1) (h3 : bytesT P e = some by_) (h4 : zeroT P e = some z) (h5 : zNt z = true) (h7 : z.cells.size = 1)
  (s x : AV) (H : Nat → AObj) (nx : Nat) (K : Cont) : appendA P t s x H nx K = appC by_ s x H nx K := by
 have one_iff : ∀ y : AV, y.one = true → y.cells.length = 1 ∧ y.cells.all AV.one = true := fun y hy => by
  have := AV.cells_of_one hy
  rw [this]; simp [hy]
 unfold appendA appC
 rw [eq_iff_iff, zCV]
 simp only [h1, h2, h3, h4, Option.getD_some]
 cases r9 H 1 x with
 | none => exact ⟨fun h => h.elim, fun ⟨_, _, h, _⟩ => by cases h⟩
 | some yr =>
  obtain ⟨ys, rd⟩ := yr
  simp only
  rw [if_pos h5]
  constructor
  ·rintro ⟨_, _, _, g3⟩
   refine ⟨ys, rd, rfl, ?_⟩
   unfold zOG
   split at g3
   ·rename_i o sz' len
    revert g3
    simp only [T4]
    generalize H o = A
    intro g3
    cases A with
    | box cs => obtain ⟨q1, q2, q3, g2, q4⟩ := g3; exact ⟨g2, q1, q3, q4⟩
    | _ => exact g3.elim
   ·exact ⟨g3.2.1, g3.2.2⟩
   ·exact g3.elim
  ·rintro ⟨ys', rd', e, g2, g3⟩
   cases e
   refine ⟨by omega, h7, fun y hy => one_iff y (g2 y hy), ?_⟩
   unfold zOG at g3
   split at g3
   ·rename_i o sz' len
    revert g3
    simp only [T4]
    generalize H o = A
    intro g3
    cases A with
    | box cs => obtain ⟨q1, q3, q4⟩ := g3; exact ⟨q1, trivial, q3, g2, q4⟩
    | _ => exact g3.elim
   ·exact ⟨trivial, g2, g3⟩
   ·exact g3.elim
section
variable {H : Nat → AObj} {sz by_ nx : Nat} {K : Cont}
@[go_sem] theorem zMd (s : Nat) (xs : List AV) (F : Nat → List AV → Prop) : P8 (.row s xs) F = F s xs := rfl
@[go_sem] theorem zMT (cs : List AV) (F : List AV → Prop) : T4 (.box cs) F = F cs := rfl
@[go_sem] theorem zMY (ys : List AV) (F : List AV → List Nat → Prop) : Y2 H sz (.list ys) F = F ys [] := rfl
@[go_sem] theorem zMZ (a : Option Addr) (c : Nat) (F : List AV → List Nat → Prop) : Y2 H sz (.raw (.slice a 0 c)) F = F [] [] := rfl
@[go_sem] theorem zMX (sz sz' off len sz'' : Nat) (xs : List AV) (F : List AV → Prop) : zOD (.row sz'' xs) sz sz' off len F = (sz' = sz ∧ sz'' = sz ∧ off + len ≤ xs.length ∧ F ((xs.drop off).take len)) := rfl
@[go_sem] theorem zMV (sz sz' off len : Nat) (cs : List AV) (F : List AV → Prop) : zOD (.box cs) sz sz' off len F = (sz' = 1 ∧ sz = 1 ∧ off + len ≤ cs.length ∧ (∀ y, y ∈ (cs.drop off).take len → y.one = true) ∧ F ((cs.drop off).take len)) := rfl
@[go_sem] theorem zMb (o sz' off len : Nat) (F : List AV → List Nat → Prop) : Y2 H sz (.own o sz' off len) F = zOD (H o) sz sz' off len (fun ys => F ys [o]) := rfl
@[go_sem] theorem zKi (o sz' len : Nat) (ys : List AV) (rd : List Nat) : zOH sz by_ (.own o sz' 0 len) ys rd H nx K = P8 (H o) (fun sz'' xs => sz' = sz ∧ sz'' = sz ∧ len = xs.length ∧ H nx = .unb ∧ (len + ys.length) * by_ ≤ 140737488355328 ∧ len + ys.length ≤ 9223372036854775807 ∧
      K (.own nx sz 0 (len + ys.length)) (o :: nx :: rd) [(o, .dead), (nx, .row sz (xs ++ ys))]) := rfl
@[go_sem] theorem zKg (ys : List AV) (rd : List Nat) : zOH sz by_ (.raw (.slice none 0 0)) ys rd H nx K = (H nx = .unb ∧ ys.length * by_ ≤ 140737488355328 ∧ ys.length ≤ 9223372036854775807 ∧ K (.own nx sz 0 ys.length) (nx :: rd) [(nx, .row sz ys)]) := rfl
@[go_sem] theorem zKf (o sz' len : Nat) (ys : List AV) (rd : List Nat) : zOG by_ (.own o sz' 0 len) ys rd H nx K = T4 (H o) (fun cs => sz' = 1 ∧ len = cs.length ∧ H nx = .unb ∧ (len + ys.length) * by_ ≤ 140737488355328 ∧ len + ys.length ≤ 9223372036854775807 ∧
      K (.own nx 1 0 (len + ys.length)) (o :: nx :: rd) [(o, .dead), (nx, .box (cs ++ ys))]) := rfl
@[go_sem] theorem zKd (ys : List AV) (rd : List Nat) : zOG by_ (.raw (.slice none 0 0)) ys rd H nx K = (H nx = .unb ∧ ys.length * by_ ≤ 140737488355328 ∧ ys.length ≤ 9223372036854775807 ∧ K (.own nx 1 0 ys.length) (nx :: rd) [(nx, .box ys)]) := rfl
@[congr] theorem zMc {A A' : AObj} {F : Nat → List AV → Prop} (h : A = A') : P8 A F = P8 A' F := by rw [h]
@[congr] theorem zMU {A A' : AObj} {F : List AV → Prop} (h : A = A') : T4 A F = T4 A' F := by rw [h]
@[congr] theorem zMW {A A' : AObj} {sz sz' off len : Nat} {F : List AV → Prop} (h : A = A') : zOD A sz sz' off len F = zOD A' sz sz' off len F := by rw [h]
@[congr] theorem zMa {x x' : AV} {F : List AV → List Nat → Prop} (h : x = x') : Y2 H sz x F = Y2 H sz x' F := by rw [h]
@[congr] theorem zKh {s s' : AV} {ys ys' : List AV} {rd : List Nat} (h : s = s') (h2 : ys = ys') : zOH sz by_ s ys rd H nx K = zOH sz by_ s' ys' rd H nx K := by rw [h, h2]
@[congr] theorem zKe {s s' : AV} {ys ys' : List AV} {rd : List Nat} (h : s = s') (h2 : ys = ys') : zOG by_ s ys rd H nx K = zOG by_ s' ys' rd H nx K := by rw [h, h2]
end
attribute [go_sem] appR appC
def zOT (H : Nat → AObj) (n o sz off len : Nat) (A : AObj) : AV × List Nat := match A with
 | .row sz' xs => if sz' = sz ∧ off + len ≤ xs.length then (.list ((xs.drop off).take len), [o]) else (.own o sz off len, [])
 | .box cs => if sz = 1 ∧ off = 0 ∧ len = cs.length ∧ cs.all (fun c => u1 (zNW H n c).1) = true then (.list (cs.map fun c => (zNW H n c).1), o :: (cs.map fun c => (zNW H n c).2).flatten) else (.own o sz off len, [])
 | _ => (.own o sz off len, [])
def zOW (o : Nat) (A : AObj) : AV × List Nat := match A with
 | .mapo ks xs => (.fmap ks xs, [o])
 | _ => (.mp o, [])
section
variable {H : Nat → AObj} {n : Nat}
@[go_sem] theorem zLV (xs : List AV) : zNW H (n + 1) (.list xs) = (.list xs, []) := rfl
@[go_sem] theorem zLM : zNW H (n + 1) .any = (.any, []) := rfl
@[go_sem] theorem zLQ (ks : List Value) (xs : List AV) : zNW H (n + 1) (.fmap ks xs) = (.fmap ks xs, []) := rfl
@[go_sem] theorem zLO (x : AV) : zNW H (n + 1) (.elt x) = (.elt x, []) := rfl
@[go_sem] theorem zLc (o off : Nat) : zNW H (n + 1) (.ptr o off) = (.ptr o off, []) := rfl
@[go_sem] theorem zLP (o sz i off : Nat) : zNW H (n + 1) (.eptr o sz i off) = (.eptr o sz i off, []) := rfl
@[go_sem] theorem zLR (f : FuncId) (cs : List AV) : zNW H (n + 1) (.fn f cs) = (.fn f cs, []) := rfl
@[go_sem] theorem zLU (k : IntKind) (i : Int) : zNW H (n + 1) (.raw (.int k i)) = (.raw (.int k i), []) := rfl
@[go_sem] theorem zLN (b : Bool) : zNW H (n + 1) (.raw (.bool b)) = (.raw (.bool b), []) := rfl
@[go_sem] theorem zLd (s : ByteArray) : zNW H (n + 1) (.raw (.string s)) = (.raw (.string s), []) := rfl
@[go_sem] theorem zLX : zNW H (n + 1) (.raw (.slice none 0 0)) = (.list [], []) := rfl
@[go_sem] theorem zLY (a : Option Nat) : zNW H (n + 1) (.raw (.map a)) = (.raw (.map a), []) := rfl
@[go_sem] theorem zLZ (a : Option Addr) : zNW H (n + 1) (.raw (.pointer a)) = (.raw (.pointer a), []) := rfl
@[go_sem] theorem zLL (cs : List AV) : zNW H (n + 1) (.agg cs) = (.agg (cs.map fun c => (zNW H n c).1), (cs.map fun c => (zNW H n c).2).flatten) := rfl
@[go_sem] theorem zLb (o sz off len : Nat) : zNW H (n + 1) (.own o sz off len) = zOT H n o sz off len (H o) := rfl
@[go_sem] theorem zLW (o : Nat) : zNW H (n + 1) (.mp o) = zOW o (H o) := rfl
@[go_sem] theorem zLK (o sz off len sz' : Nat) (xs : List AV) : zOT H n o sz off len (.row sz' xs) = if sz' = sz ∧ off + len ≤ xs.length then (.list ((xs.drop off).take len), [o]) else (.own o sz off len, []) := rfl
@[go_sem] theorem zLI (o sz off len : Nat) (cs : List AV) : zOT H n o sz off len (.box cs) = if sz = 1 ∧ off = 0 ∧ len = cs.length ∧ cs.all (fun c => u1 (zNW H n c).1) = true then (.list (cs.map fun c => (zNW H n c).1), o :: (cs.map fun c => (zNW H n c).2).flatten) else (.own o sz off len, []) := rfl
@[go_sem] theorem zLG (o : Nat) (ks : List Value) (xs : List AV) : zOW o (.mapo ks xs) = (.fmap ks xs, [o]) := rfl
@[congr] theorem zLJ {o sz off len : Nat} {A A' : AObj} (h : A = A') : zOT H n o sz off len A = zOT H n o sz off len A' := by rw [h]
@[congr] theorem zLH {o : Nat} {A A' : AObj} (h : A = A') : zOW o A = zOW o A' := by rw [h]
@[congr] theorem zLa {x x' : AV} (h : x = x') : zNW H n x = zNW H n x' := by rw [h]
end
def bsR (sz n : Nat) (ps : List (Nat × AV)) (H : Nat → AObj) (nx : Nat) (K : Cont) : Prop :=
 n * sz ≤ 16777216 ∧ ps.map (·.1) = List.range n ∧ H nx = .unb ∧ (∀ p, p ∈ ps → Pure (zNW H 3 p.2).1 ∧ (zNW H 3 p.2).1.sized = true ∧ (zNW H 3 p.2).1.cells.length = sz) ∧
  K (.own nx sz 0 n) ((ps.map fun p => (zNW H 3 p.2).2).flatten ++ [nx]) (w6 (ps.map fun p => (zNW H 3 p.2).2).flatten ++ [(nx, .row sz (ps.map fun p => (zNW H 3 p.2).1))])
def bsC (n : Nat) (ps : List (Nat × AV)) (H : Nat → AObj) (nx : Nat) (K : Cont) : Prop :=
 n ≤ 16777216 ∧ ps.map (·.1) = List.range n ∧ H nx = .unb ∧ (∀ p, p ∈ ps → p.2.one = true) ∧ K (.own nx 1 0 n) [nx] [(nx, .box (ps.map (·.2)))]
theorem buildSliceA_row {P : Program} {t e sz : Nat} {z : Value} (h1 : sliceT P t = some e) (h2 : sizeT P e = some sz) (h4 : zeroT P e = some z) (h5 : zNt z = false) (h6 : 0 < sz) (h7 : z.cells.size = sz)
  (n : Nat) (ps : List (Nat × AV)) (H : Nat → AObj) (nx : Nat) (K : Cont) : buildSliceA P t n ps H nx K = bsR sz n ps H nx K := by
 have hz : ¬ zNt z = true := by rw [h5]; simp
 unfold buildSliceA bsR
 simp only [h1, h2, h4, eq_iff_iff]
 rw [if_neg hz]
 exact ⟨fun ⟨_, g1, _, g2, g3, g4⟩ => ⟨g1, g2, g3, g4⟩, fun ⟨g1, g2, g3, g4⟩ => ⟨h6, g1, h7, g2, g3, g4⟩⟩
theorem buildSliceA_box {P : Program} {t e : Nat} {z : Value} (h1 : sliceT P t = some e) (h2 : sizeT P e = some 1) (h4 : zeroT P e = some z) (h5 : zNt z = true) (h7 : z.cells.size = 1)
  (n : Nat) (ps : List (Nat × AV)) (H : Nat → AObj) (nx : Nat) (K : Cont) : buildSliceA P t n ps H nx K = bsC n ps H nx K := by
 unfold buildSliceA bsC
 simp only [h1, h2, h4, eq_iff_iff]
 rw [if_pos h5]
 constructor
 ·rintro ⟨_, g1, _, g2, g3, _, g4⟩; exact ⟨by omega, g2, g3, g4⟩
 ·rintro ⟨g1, g2, g3, g4⟩; exact ⟨by omega, by omega, h7, g2, g3, trivial, g4⟩
attribute [go_sem] bsR bsC
end Go.Abs

namespace Go.Abs
open Go
attribute [go_sem] ltN zNj O0 S7 zOV Z1 V7 zOQ zOI zOa zOR I4 baC X8 l0 T7 zOB unA R1 R2 L2 S9 zOY zOA BYT X6 T5 R5 W1 R8 loA hiA O8 R4 L5 r9 N9 X7 zEb
 P2 P1 O3 P6 X2 R3 u1 zNt w6 zOJ zAV zAR R0 M1 r4 AS.ev AS.get AS.obj AS.put AS.setO AS.putD AS.nx nxF lkV lkO splice AV.cells AV.one AV.flat AV.sized zNf zN6 z3 z4
 K6 x7 Z4 envF objsF OXpF Z2 W4 AObj.live envG AObj.ren w7 u7 i7 Value.oneCell' Value.cells
attribute [go_sem] ite_true ite_false if_true if_false true_and and_true and_self forall_const true_implies false_implies List.map_cons List.map_nil List.append_nil List.nil_append List.cons_append List.length_cons List.length_nil
 List.all_cons List.all_nil Bool.and_true Bool.true_and Bool.and_self List.size_toArray Option.map_some Option.map_none Option.bind_some Option.bind_none Option.isSome_some List.getElem?_cons_zero List.getElem?_cons_succ List.getElem?_nil
 List.take_succ_cons List.take_zero List.drop_succ_cons List.drop_zero List.drop_nil List.take_nil List.getD_cons_zero List.getD_cons_succ Option.getD_some Option.getD_none List.all_toArray List.getElem?_toArray
 List.mem_cons List.not_mem_nil or_false forall_eq_or_imp forall_eq List.forall_mem_cons List.map_toArray ne_eq List.range_zero
attribute [go_sem] Nat.min_self Nat.max_self Nat.reduceLT Nat.reduceEqDiff Nat.reduceAdd Nat.reduceSub Nat.reduceMul Nat.reduceLeDiff Nat.reduceBEq Nat.reduceBNe Int.reduceLT Int.reduceLE Int.reduceEq Int.reduceBEq Int.reduceBNe Int.reduceAdd Int.reduceSub Int.reduceToNat
attribute [go_sem] List.flatten_nil List.flatten_cons List.contains_cons List.contains_nil Option.some_beq_some Option.some_beq_none Option.none_beq_some Bool.or_false Bool.or_true Bool.false_or Bool.true_or Bool.not_true Bool.not_false decide_eq_true_eq beq_self_eq_true
 beq_iff_eq bne_iff_ne beq_eq_false_iff_ne decide_eq_false_iff_not Nat.not_lt Nat.not_le Int.not_lt Int.not_le or_true true_or false_or Bool.false_eq_true and_false false_and not_false_eq_true not_true_eq_false decide_true decide_false Bool.false_and Bool.and_false Option.some.injEq reduceCtorEq eq_self
@[go_sem] theorem zLA {α β : Type} (l : List α) : (l.map fun _ => ([] : List β)).flatten = [] := by induction l <;> simp_all
@[go_sem] theorem zKc {α : Type} (l : List α) : (l.all fun _ => true) = true := by induction l <;> simp_all
@[go_sem] theorem zKb {α : Type} (l : List α) (f : α → Bool) (n : Nat) (h : n = l.length) : l.toArray.all f 0 n = l.all f := by subst h; simp
@[go_sem] theorem zNO {α : Type} (l : List α) (i : Nat) (d : α) : l.toArray.getD i d = l.getD i d := by simp
def U5 (P : Program) (all : List Oper) (K : AS → List Touch → Prop) (o : Oper) (rest : List Oper) (σ : AS) (ts : List Touch) : Cont :=
 fun v rd wr => q8 P all K rest ((σ.writes wr).putD o.dst v) (ts ++ [⟨rd, wr.map (·.1)⟩])
def X0 (K' K0 : Cont) : Prop := K' = K0
def U7 (σ : AS) : Option Tmp → Prop
 | some d => d < σ.n
 | none => True
section
variable {P : Program} {all : List Oper} {K : AS → List Touch → Prop} {o : Oper} {rest : List Oper} {σ : AS} {ts : List Touch}
theorem zAj (h : K σ ts) : q8 P all K [] σ ts := h
theorem dstOK_iff {d : Option Tmp} : U7 σ d ↔ (match d with | some d => ltN d σ.n | none => True) := by cases d <;> rfl
theorem zID (hg : o.guard = none) (hd : U7 σ o.dst) (h : ∀ K', X0 K' (U5 P all K o rest σ ts) → zNj P o σ.ev σ.obj σ.nx K') : q8 P all K (o :: rest) σ ts := by
 unfold q8 l8
 rw [hg]
 exact ⟨dstOK_iff.1 hd, h _ rfl⟩
theorem z5 {K' : Cont} {v : AV} {rd : List Nat} {wr : List (Nat × AObj)} (hK : X0 K' (U5 P all K o rest σ ts)) (h : q8 P all K rest ((σ.writes wr).putD o.dst v) (ts ++ [⟨rd, wr.map (·.1)⟩])) : K' v rd wr := by unfold X0 at hK; rw [hK]; exact h
theorem zAh {j d : Nat} {want b : Bool} (hg : o.guard = some (j, want)) (hj : (all[j]?).bind (·.dst) = some d) (hv : σ.get d = .raw (.bool b)) (hd : U7 σ o.dst)
  (h1 : b = want → ∀ K', X0 K' (U5 P all K o rest σ ts) → zNj P o σ.ev σ.obj σ.nx K') (h2 : b = !want → q8 P all K rest (σ.putD o.dst (.tup [])) (ts ++ [⟨[], []⟩])) : q8 P all K (o :: rest) σ ts := by
 unfold q8 l8
 rw [hg]
 simp only [hj, hv, gIf]
 exact ⟨fun e => ⟨dstOK_iff.1 hd, h1 e _ rfl⟩, fun e => ⟨dstOK_iff.1 hd, h2 e⟩⟩
theorem zCy {j d : Nat} {want : Bool} (hg : o.guard = some (j, want)) (hj : (all[j]?).bind (·.dst) = some d) (hv : σ.get d = .raw (.bool want)) (hd : U7 σ o.dst)
  (h1 : ∀ K', X0 K' (U5 P all K o rest σ ts) → zNj P o σ.ev σ.obj σ.nx K') : q8 P all K (o :: rest) σ ts := zAh hg hj hv hd (fun _ => h1) (fun e => by cases want <;> cases e)
theorem zCx {j d : Nat} {want : Bool} (hg : o.guard = some (j, want)) (hj : (all[j]?).bind (·.dst) = some d) (hv : σ.get d = .raw (.bool !want)) (hd : U7 σ o.dst)
  (h2 : q8 P all K rest (σ.putD o.dst (.tup [])) (ts ++ [⟨[], []⟩])) : q8 P all K (o :: rest) σ ts := zAh hg hj hv hd (fun e => by cases want <;> cases e) (fun _ => h2)
theorem zIE {j d : Nat} {want : Bool} (hg : o.guard = some (j, want)) (hj : (all[j]?).bind (·.dst) = some d) (hv : σ.get d = .tup []) (hd : U7 σ o.dst)
  (h2 : q8 P all K rest (σ.putD o.dst (.tup [])) (ts ++ [⟨[], []⟩])) : q8 P all K (o :: rest) σ ts := by
 unfold q8 l8
 rw [hg]
 simp only [hj, hv]
 exact ⟨dstOK_iff.1 hd, h2⟩
end
@[congr] theorem zMQ {σ : AS} {o o' : Nat} (h : o = o') : σ.obj o = σ.obj o' := by rw [h]
@[congr] theorem zLn {σ : AS} {o o' : Nat} (h : o = o') : σ.get o = σ.get o' := by rw [h]
@[congr] theorem zLw {l : List (Nat × AV)} {o o' : Nat} (h : o = o') : lkV l o = lkV l o' := by rw [h]
@[congr] theorem zLv {l : List (Nat × AObj)} {o o' : Nat} (h : o = o') : lkO l o = lkO l o' := by rw [h]
@[congr] theorem zNB {P : Program} {all : List Oper} {K : AS → List Touch → Prop} {l : List Oper} {σ σ' : AS} {ts ts' : List Touch} (h1 : σ = σ') (h2 : ts = ts') : q8 P all K l σ ts = q8 P all K l σ' ts' := by rw [h1, h2]
@[congr] theorem zLo {all : List Oper} {σ σ' : AS} {o : Oper} {Y N : Prop} (h : σ = σ') : l8 all σ o Y N = l8 all σ' o Y N := by rw [h]
@[congr] theorem zK8 {P : Program} {o : Oper} {ev : Operand → AV} {H : Nat → AObj} {nx nx' : Nat} {K : Cont} (h : nx = nx') : zNj P o ev H nx K = zNj P o ev H nx' K := by rw [h]
@[congr] theorem zLx {P : Program} {t : TypeId} {x x' : AV} {H : Nat → AObj} {K : Cont} (h : x = x') : Z1 P t x H K = Z1 P t x' H K := by rw [h]
@[congr] theorem zNH {P : Program} {t : TypeId} {x x' y y' : AV} {H : Nat → AObj} {K : Cont} (h : x = x') (h2 : y = y') : V7 P t x y H K = V7 P t x' y' H K := by rw [h, h2]
@[congr] theorem zKs {P : Program} {op : BinOp} {t : TypeId} {x x' y y' : AV} {K : Cont} (h : x = x') (h2 : y = y') : zOB P op t x y K = zOB P op t x' y' K := by rw [h, h2]
@[congr] theorem zK9 {P : Program} {t : TypeId} {x x' : AV} {f : Nat} {K : Cont} (h : x = x') : X6 P t x f K = X6 P t x' f K := by rw [h]
@[congr] theorem zLq {P : Program} {t : TypeId} {x x' y y' : AV} {K : Cont} (h : x = x') (h2 : y = y') : W1 P t x y K = W1 P t x' y' K := by rw [h, h2]
@[congr] theorem zLz {P : Program} {t : TypeId} {m m' k k' x x' : AV} {H : Nat → AObj} {K : Cont} (h : m = m') (h2 : k = k') (h3 : x = x') : j9 P t m k x H K = j9 P t m' k' x' H K := by rw [h, h2, h3]
@[congr] theorem zLy {P : Program} {t : TypeId} {m m' k k' : AV} {ok : Bool} {H : Nat → AObj} {K : Cont} (h : m = m') (h2 : k = k') : Q8 P t m k ok H K = Q8 P t m' k' ok H K := by rw [h, h2]
@[congr] theorem zK1 {P : Program} {f : FuncId} {avs avs' : List AV} {H : Nat → AObj} {nx nx' : Nat} {K : Cont} (h : avs = avs') (h2 : nx = nx') : y4 P f avs H nx K = y4 P f avs' H nx' K := by rw [h, h2]
@[congr] theorem zLf {b b' want : Bool} (h : b = b') (Y N : Prop) : gIf b want Y N = gIf b' want Y N := by rw [h]
@[go_sem] theorem zLj (Y N : Prop) : gIf true true Y N = Y := by simp [gIf]
@[go_sem] theorem zLi (Y N : Prop) : gIf true false Y N = N := by simp [gIf]
@[go_sem] theorem zLh (Y N : Prop) : gIf false true Y N = N := by simp [gIf]
@[go_sem] theorem zLg (Y N : Prop) : gIf false false Y N = Y := by simp [gIf]
@[go_sem] theorem zNR (σ : AS) : σ.writes [] = σ := rfl
@[go_sem] theorem zNQ (σ : AS) (o : Nat) (A : AObj) (r : List (Nat × AObj)) : σ.writes ((o, A) :: r) = (σ.setO o A).writes r := rfl
@[go_sem] theorem zMu (n : Nat) : List.range (n + 1) = List.range n ++ [n] := List.range_succ
@[go_sem] theorem zMt (v : Value) : Pure (.raw v) ↔ True := ⟨fun _ => trivial, fun _ => .raw v⟩
@[go_sem] theorem zMs (xs : List AV) : Pure (.list xs) ↔ True := ⟨fun _ => trivial, fun _ => .list xs⟩
@[go_sem] theorem zMr (ks : List Value) (xs : List AV) : Pure (.fmap ks xs) ↔ True := ⟨fun _ => trivial, fun _ => .fmap ks xs⟩
@[go_sem] theorem zMp : Pure .any ↔ True := ⟨fun _ => trivial, fun _ => .any⟩
@[go_sem] theorem zMq (x : AV) : Pure (.elt x) ↔ True := ⟨fun _ => trivial, fun _ => .elt x⟩
@[go_sem] theorem zMo : Pure (.agg []) ↔ True := ⟨fun _ => trivial, fun _ => .agg [] (fun c hc => by simp at hc)⟩
@[go_sem] theorem zMn (c : AV) (cs : List AV) : Pure (.agg (c :: cs)) ↔ Pure c ∧ Pure (.agg cs) := by
 constructor
 ·intro h
  cases h with
  | agg _ h => exact ⟨h c (by simp), .agg cs (fun d hd => h d (by simp [hd]))⟩
 ·rintro ⟨h1, h2⟩
  cases h2 with
  | agg _ h2 =>
   refine .agg _ (fun d hd => ?_)
   rcases List.mem_cons.1 hd with rfl | hd
   ·exact h1
   ·exact h2 d hd
section
variable (H : Nat → AObj) (m : List (Option Nat)) (ex : List Nat)
@[go_sem] theorem zKE (y : AV) : XpF H m ex .any y ↔ True := by simp only [XpF]
@[go_sem] theorem zKS (k off o off' : Nat) : XpF H m ex (.ptr k off) (.ptr o off') ↔ m[k]? = some (some o) ∧ off = off' := by simp only [XpF]
@[go_sem] theorem zKG (k sz i off o sz' i' off' : Nat) : XpF H m ex (.eptr k sz i off) (.eptr o sz' i' off') ↔ m[k]? = some (some o) ∧ sz = sz' ∧ i = i' ∧ off = off' := by simp only [XpF]
@[go_sem] theorem zKQ (k sz off len o sz' off' len' : Nat) : XpF H m ex (.own k sz off len) (.own o sz' off' len') ↔ m[k]? = some (some o) ∧ sz = sz' ∧ off = off' ∧ len = len' := by simp only [XpF]
@[go_sem] theorem zKR (k sz off len : Nat) (v : Value) : XpF H m ex (.own k sz off len) (.raw v) ↔ m[k]? = some none ∧ off = 0 ∧ len = 0 ∧ v = .slice none 0 0 := by simp only [XpF]
@[go_sem] theorem zKN (k o : Nat) : XpF H m ex (.mp k) (.mp o) ↔ m[k]? = some (some o) := by simp only [XpF]
@[go_sem] theorem zKT (v v' : Value) : XpF H m ex (.raw v) (.raw v') ↔ v = v' := by simp only [XpF]
@[go_sem] theorem zKM (xs ys : List AV) : XpF H m ex (.list xs) (.list ys) ↔ xs = ys := by simp only [XpF]
@[go_sem] theorem zKJ (xs : List AV) (o sz off len : Nat) : XpF H m ex (.list xs) (.own o sz off len) ↔ o ∈ ex ∧ (match H o with
  | .row sz' zs => sz' = sz ∧ off + len ≤ zs.length ∧ xs = (zs.drop off).take len
  | .box cs => sz = 1 ∧ off = 0 ∧ len = cs.length ∧ (∀ x, x ∈ xs → u1 x = true) ∧ (xs = cs ∨ XpL H m ex xs cs)
  | _ => False) := by simp only [XpF] <;> (generalize H o = A; cases A <;> exact Iff.rfl)
@[go_sem] theorem zKH (ks ks' : List Value) (xs xs' : List AV) : XpF H m ex (.fmap ks xs) (.fmap ks' xs') ↔ ks = ks' ∧ xs = xs' := by simp only [XpF]
@[go_sem] theorem zKK (ks : List Value) (xs : List AV) (o : Nat) : XpF H m ex (.fmap ks xs) (.mp o) ↔ o ∈ ex ∧ (match H o with
  | .mapo ks' xs' => MPerm ks xs ks' xs'
  | _ => False) := by simp only [XpF] <;> (generalize H o = A; cases A <;> exact Iff.rfl)
@[go_sem] theorem zL1 (ks : List Value) (xs : List AV) : MPerm ks xs ks xs ↔ True := ⟨fun _ => trivial, fun _ => .refl _ _⟩
@[go_sem] theorem zKP (ks : List Value) (xs : List AV) (v : Value) : XpF H m ex (.fmap ks xs) (.raw v) ↔ ks = [] ∧ xs = [] ∧ v = .map none := by simp only [XpF]
@[go_sem] theorem zKO (xs : List AV) (v : Value) : XpF H m ex (.list xs) (.raw v) ↔ xs = [] ∧ v = .slice none 0 0 := by simp only [XpF]
@[go_sem] theorem zKF (x y : AV) : XpF H m ex (.elt x) (.elt y) ↔ x = y := by simp only [XpF]
@[go_sem] theorem zKD (cs ds : List AV) : XpF H m ex (.agg cs) (.agg ds) ↔ XpL H m ex cs ds := by simp only [XpF]
@[go_sem] theorem zKU (cs ds : List AV) : XpF H m ex (.tup cs) (.tup ds) ↔ XpL H m ex cs ds := by simp only [XpF]
@[go_sem] theorem zKI (f g : FuncId) (cs ds : List AV) : XpF H m ex (.fn f cs) (.fn g ds) ↔ f = g ∧ XpL H m ex cs ds := by simp only [XpF]
@[go_sem] theorem zBC : XpL H m ex [] [] ↔ True := by simp only [XpL]
@[go_sem] theorem C0 (x y : AV) (xs ys : List AV) : XpL H m ex (x :: xs) (y :: ys) ↔ XpF H m ex x y ∧ XpL H m ex xs ys := by simp only [XpL]
end
section
variable (f : Nat → Nat)
@[go_sem] theorem zMx : AV.ren f .any = .any := by simp only [AV.ren]
@[go_sem] theorem zM7 (v : Value) : AV.ren f (.raw v) = .raw v := by simp only [AV.ren]
@[go_sem] theorem zM3 (xs : List AV) : AV.ren f (.list xs) = .list xs := by simp only [AV.ren]
@[go_sem] theorem zMy (x : AV) : AV.ren f (.elt x) = .elt x := by simp only [AV.ren]
@[go_sem] theorem zM0 (ks : List Value) (xs : List AV) : AV.ren f (.fmap ks xs) = .fmap ks xs := by simp only [AV.ren]
@[go_sem] theorem zM6 (o off : Nat) : AV.ren f (.ptr o off) = .ptr (f o) off := by simp only [AV.ren]
@[go_sem] theorem zMz (o sz i off : Nat) : AV.ren f (.eptr o sz i off) = .eptr (f o) sz i off := by simp only [AV.ren]
@[go_sem] theorem zM5 (o sz off len : Nat) : AV.ren f (.own o sz off len) = .own (f o) sz off len := by simp only [AV.ren]
@[go_sem] theorem zM4 (o : Nat) : AV.ren f (.mp o) = .mp (f o) := by simp only [AV.ren]
@[go_sem] theorem zMw (cs : List AV) : AV.ren f (.agg cs) = .agg (cs.map (AV.ren f)) := by simp only [AV.ren, l3]
@[go_sem] theorem zM8 (cs : List AV) : AV.ren f (.tup cs) = .tup (cs.map (AV.ren f)) := by simp only [AV.ren, l3]
@[go_sem] theorem zM1 (g : FuncId) (cs : List AV) : AV.ren f (.fn g cs) = .fn g (cs.map (AV.ren f)) := by simp only [AV.ren, l3]
@[go_sem] theorem zMv (cs : List AV) : zN9 f cs = cs.map (AV.ren f) := l3 f cs
end
end Go.Abs

namespace Go.Abs
open Go
def B1 : Nat → Code → Code
 | 0, .seq x _ => x
 | 1, .seq _ y => y
 | 0, .cond _ x _ => x
 | 1, .cond _ _ y => y
 | 0, .block _ c => c
 | 0, .loop c => c
 | 0, .scope c => c
 | _, _ => .skip
def sub : List Nat → Code → Code
 | [], b => b
 | i :: p, b => B1 i (sub p b)
def C4 (fn : Func) : Code := fn.body.getD .skip
def K2 (Q : Exit → AS → Prop) : Exit → AS → Prop
 | .goto _, _ => False
 | e, σ => Q e σ
@[go_sem] theorem zMO (Q : Exit → AS → Prop) (σ : AS) : K2 Q .normal σ = Q .normal σ := rfl
@[go_sem] theorem zMP (Q : Exit → AS → Prop) (σ : AS) : K2 Q .ret σ = Q .ret σ := rfl
@[go_sem] theorem zMN (Q : Exit → AS → Prop) (i : Nat) (σ : AS) : K2 Q (.exit i) σ = Q (.exit i) σ := rfl
def zGj : Code → Bool
 | .seq _ _ => true
 | _ => false
def zB6 : Code → Option Nat
 | .block id _ => some id
 | _ => none
def G4 : Code → Bool
 | .loop _ => true
 | _ => false
def zB7 : Code → Option Operand
 | .cond c _ _ => some c
 | _ => none
section
variable {P : Program} {E : Env} {Q : Exit → AS → Prop} {σ : AS} {p : List Nat} {b : Code}
theorem O7 (h : zGj (sub p b) = true) (hx : Hold P E (sub (0 :: p) b) (z3 (Hold P E (sub (1 :: p) b) Q) Q) σ) : Hold P E (sub p b) Q σ := by
 simp only [sub] at hx
 cases hc : sub p b with
 | seq x y => rw [hc] at hx; exact zGR hx
 | _ => rw [hc] at h; cases h
theorem zIH {id : Nat} (h : zB6 (sub p b) = some id) (hx : Hold P E (sub (0 :: p) b) (z4 id Q) σ) : Hold P E (sub p b) Q σ := by
 simp only [sub] at hx
 cases hc : sub p b with
 | block i c => rw [hc] at hx h; cases h; exact zGI hx
 | _ => rw [hc] at h; cases h
theorem zIN {c : Code} (h : sub p b = .scope c) (hx : Hold P E (sub (0 :: p) b) (K2 Q) σ) : Hold P E (sub p b) Q σ := by
 have e : sub (0 :: p) b = c := by show B1 0 (sub p b) = c; rw [h]; rfl
 rw [e] at hx
 rw [h]
 refine fun a w hs => wp_scope_straight (wp_mono (hx a w hs) (fun e a w ⟨σ', h1, h2⟩ => ?_))
 cases e with
 | goto l => exact h1
 | _ => exact ⟨σ', h1, h2⟩
theorem zIO (h : sub p b = .skip) (hx : Q .normal σ) : Hold P E (sub p b) Q σ := by rw [h]; exact zGS hx
theorem zIK {l : Nat} (h : sub p b = .label l) (hx : Q .normal σ) : Hold P E (sub p b) Q σ := by rw [h]; exact zGM hx
theorem zIJ {id : Nat} (h : sub p b = .exit id) (hx : Q (.exit id) σ) : Hold P E (sub p b) Q σ := by rw [h]; exact zGL hx
theorem z6 (h : sub p b = .ret) (hx : Q .ret σ) : Hold P E (sub p b) Q σ := by rw [h]; exact zGQ hx
theorem zIM {id : Nat} {ops : List Oper} (h : sub p b = .region id ops.toArray false) (hx : q8 P ops (fun σ' _ => Q .normal σ') ops σ []) : Hold P E (sub p b) Q σ := by
 rw [h]; exact zGP hx
theorem zII {id : Nat} {ops : List Oper} (h : sub p b = .region id ops.toArray true) (hm : P.follows .mixedOrders = true) (he : M3 ops = true) (hx : q8 P ops (fun σ' ts => T1 ops ts = true ∧ Q .normal σ') ops σ []) : Hold P E (sub p b) Q σ := by
 rw [h]; exact zGK hm he hx
theorem zCz {c : Operand} (h : zB7 (sub p b) = some c) (hx : ∃ t, σ.ev c = .raw (.bool t) ∧ (t = true → Hold P E (sub (0 :: p) b) Q σ) ∧ (t = false → Hold P E (sub (1 :: p) b) Q σ)) : Hold P E (sub p b) Q σ := by
 simp only [sub] at hx
 cases hc : sub p b with
 | cond c' x y =>
  rw [hc] at hx h; cases h
  obtain ⟨t, h1, h2, h3⟩ := hx
  exact zGJ h1 h2 h3
 | _ => rw [hc] at h; cases h
theorem Z7 (h : G4 (sub p b) = true) (Inv : Nat → Nat → List (Nat × AV) → List AObj → Prop) (n : Nat) (h0 : ∃ m ex N env As, Weak E.n m ex σ N env As ∧ Inv n N env As)
  (hx : ∀ n N env As, Inv n N env As → Hold P E (sub (0 :: p) b) (z3 (fun σ' => ∃ n', n' < n ∧ ∃ m ex N env As, Weak E.n m ex σ' N env As ∧ Inv n' N env As) Q) ⟨N, env, zNf 0 As⟩) : Hold P E (sub p b) Q σ := by
 simp only [sub] at hx
 cases hc : sub p b with
 | loop c => rw [hc] at hx; exact zGN Inv n h0 hx
 | _ => rw [hc] at h; cases h
def AS.only (σ : AS) (ts : List Nat) : AS := ⟨σ.n, ts.map (fun t => (t, σ.get t)), σ.objs⟩
theorem z9 {f : FuncId} {fn : Func} {args : List AV} {fp : List AObj} {r : AV} {out : List AObj} (hf : P.funcs[f]? = some fn) (hb : fn.body.isSome = true)
  (h : ∀ E : Env, E.n = fp.length → Hold P E (sub [] (C4 fn)) (fun e σ' => (e = .normal ∨ e = .ret) ∧ D8 P fn fp.length r out σ') ⟨args.length + (fn.ntmps - args.length), zN6 0 args, zNf 0 fp⟩) : zNV P f args fp r out := by
 obtain ⟨c, hc⟩ := Option.isSome_iff_exists.1 hb
 refine zJZ hf hc (fun E hE => ?_)
 have := h E hE
 simp only [sub, C4, hc, Option.getD_some] at this
 exact this
end
section
variable {P : Program} {E : Env} {all : List Oper} {K : AS → List Touch → Prop} {o : Oper} {rest : List Oper} {σ : AS} {ts : List Touch} {Q : Exit → AS → Prop} {p : List Nat} {b : Code}
def zOM (σ : AS) : Option Tmp → Bool
 | some d => Nat.blt d σ.n
 | none => true
theorem U6 : zOM σ o.dst = true → U7 σ o.dst := by
 cases o.dst with
 | none => intro _; trivial
 | some d => intro h; simp only [zOM, Nat.blt, Nat.ble_eq] at h; exact h
def zDN (a c : Option (Bool × Prop)) : AV → Bool → Option (Bool × Prop)
 | .raw (.bool true), true => a
 | .raw (.bool false), false => a
 | .raw (.bool true), false => c
 | .raw (.bool false), true => c
 | .tup [], _ => c
 | _, _ => none
def zDP (P : Program) (all : List Oper) (K : AS → List Touch → Prop) (σ : AS) (ts : List Touch) : List Oper → Option (Bool × Prop)
  | [] => some (true, K σ ts)
  | o :: rest => match o.guard with
    | none => some (zOM σ o.dst, ∀ K', X0 K' (U5 P all K o rest σ ts) → zNj P o σ.ev σ.obj σ.nx K')
    | some (j, want) => match (all[j]?).bind (·.dst) with
      | none => none
      | some d => zDN (some (zOM σ o.dst, ∀ K', X0 K' (U5 P all K o rest σ ts) → zNj P o σ.ev σ.obj σ.nx K'))
          (some (zOM σ o.dst, q8 P all K rest (σ.putD o.dst (.tup [])) (ts ++ [⟨[], []⟩]))) (σ.get d) want
theorem Qr {ops : List Oper} {G : Prop} (h : zDP P all K σ ts ops = some (true, G)) (g : G) : q8 P all K ops σ ts := by
 cases ops with
 | nil => cases h; exact g
 | cons o rest =>
  simp only [zDP] at h
  split at h
  ·rename_i hg
   simp only [Option.some.injEq, Prod.mk.injEq] at h
   obtain ⟨h1, rfl⟩ := h
   exact zID hg (U6 h1) g
  ·rename_i j want hg
   split at h
   ·cases h
   ·rename_i d hj
    unfold zDN at h
    split at h <;> simp only [Option.some.injEq, Prod.mk.injEq, reduceCtorEq] at h <;> obtain ⟨h1, rfl⟩ := h
    ·rename_i hv; exact zCy hg hj hv (U6 h1) g
    ·rename_i hv; exact zCy hg hj hv (U6 h1) g
    ·rename_i hv; exact zCx hg hj hv (U6 h1) g
    ·rename_i hv; exact zCx hg hj hv (U6 h1) g
    ·rename_i hv; exact zIE hg hj hv (U6 h1) g
theorem Qi {j d : Nat} {want t : Bool} (hg : o.guard = some (j, want)) (hj : (all[j]?).bind (·.dst) = some d) (hv : σ.get d = .raw (.bool t)) (hd : zOM σ o.dst = true)
  (h1 : t = want → ∀ K', X0 K' (U5 P all K o rest σ ts) → zNj P o σ.ev σ.obj σ.nx K') (h2 : t = !want → q8 P all K rest (σ.putD o.dst (.tup [])) (ts ++ [⟨[], []⟩])) :
  q8 P all K (o :: rest) σ ts := zAh hg hj hv (U6 hd) h1 h2
theorem Qb {ops : List Oper} {p : Prop} (h : T1 ops ts = true) (g : p) : T1 ops ts = true ∧ p := ⟨h, g⟩
def zDO (P : Program) (E : Env) (b : Code) (Q : Exit → AS → Prop) (σ : AS) (p : List Nat) : Option Prop := match sub p b with
 | .seq _ _ => some (Hold P E (sub (0 :: p) b) (z3 (Hold P E (sub (1 :: p) b) Q) Q) σ)
 | .block id _ => some (Hold P E (sub (0 :: p) b) (z4 id Q) σ)
 | .skip => some (Q .normal σ)
 | .label _ => some (Q .normal σ)
 | .scope _ => some (Hold P E (sub (0 :: p) b) (K2 Q) σ)
 | .exit id => some (Q (.exit id) σ)
 | .region _ ⟨ops⟩ false => some (q8 P ops (fun σ' _ => Q .normal σ') ops σ [])
 | _ => none
theorem Qh {G : Prop} (h : zDO P E b Q σ p = some G) (g : G) : Hold P E (sub p b) Q σ := by
 unfold zDO at h
 cases hc : sub p b with
 | seq x y => rw [hc] at h; cases h; rw [← hc]; exact O7 (by rw [hc]; rfl) g
 | block i c => rw [hc] at h; cases h; rw [← hc]; exact zIH (id := i) (by rw [hc]; rfl) g
 | skip => rw [hc] at h; cases h; rw [← hc]; exact zIO hc g
 | label l => rw [hc] at h; cases h; rw [← hc]; exact zIK hc g
 | scope c => rw [hc] at h; cases h; rw [← hc]; exact zIN hc g
 | exit id => rw [hc] at h; cases h; rw [← hc]; exact zIJ hc g
 | region id ops d => cases d with
  | false => rw [hc] at h; cases h; rw [← hc]; exact zIM (ops := ops.toList) (by rw [hc]) g
  | true => rw [hc] at h; cases h
 | _ => rw [hc] at h; cases h
end
@[congr] theorem Hold.only_state {P : Program} {E : Env} {c : Code} {Q : Exit → AS → Prop} {σ τ : AS} (h : σ = τ) : Hold P E c Q σ = Hold P E c Q τ := by rw [h]
attribute [go_sem] AS.only
end Go.Abs

namespace Go.Abs
open Go
theorem Y0 {α β : Type} (f : α → β) : ∀ (l : List α) (i : Nat), (l.eraseIdx i).map f = (l.map f).eraseIdx i
 | [], i => by simp
 | x :: r, 0 => rfl
 | x :: r, i + 1 => by simp only [List.eraseIdx_cons_succ, List.map_cons, Y0 f r i]
theorem zBb : ∀ (L : List MapEntry) (i : Nat) (h : i < L.length), L.Pairwise (fun x y => x.born < y.born) → L.filter (fun e => !(e.born == L[i].born)) = L.eraseIdx i
 | [], i, h, _ => by simp at h
 | x :: r, 0, h, hp => by
  obtain ⟨h1, h2⟩ := List.pairwise_cons.1 hp
  simp only [List.getElem_cons_zero, List.eraseIdx_cons_zero, List.filter_cons, beq_self_eq_true, Bool.not_true, Bool.false_eq_true, if_false]
  exact List.filter_eq_self.2 (fun e he => by have := h1 e he; simp; omega)
 | x :: r, i + 1, h, hp => by
  obtain ⟨h1, h2⟩ := List.pairwise_cons.1 hp
  have hi : i < r.length := by simpa using h
  have hx : x.born < r[i].born := h1 _ (List.getElem_mem hi)
  simp only [List.getElem_cons_succ, List.eraseIdx_cons_succ]
  rw [List.filter_cons, if_pos (by simp; omega), zBb r i hi h2]
theorem zGt (es : List MapEntry) (seen : Array Nat) (i : Nat) (h : i < (es.filter (fun e => !seen.contains e.born)).length) (hp : es.Pairwise (fun x y => x.born < y.born)) :
  es.filter (fun e => !(seen.push ((es.filter (fun e => !seen.contains e.born))[i]).born).contains e.born) = (es.filter (fun e => !seen.contains e.born)).eraseIdx i := by
 rw [← zBb _ i h (hp.filter _), List.filter_filter]
 congr 1
 funext e
 simp only [Array.contains_push]
 cases seen.contains e.born <;> simp
section
variable {P : Program} {E : Env} {Q : Exit → AS → Prop} {σ : AS} {p : List Nat} {b : Code}
theorem zDh {o : Oper} (h : o.guard = none) (y : Nat → Option Bool) : Region.wanted o y = true := by simp [Region.wanted, h]
theorem E3 {id : Nat} {o1 o2 : Oper} {t d d2 o : Nat} (h : sub p b = .region id #[o1, o2] false) (h1 : o1.op = .next (.tmp t) false) (h2 : o1.dst = some d) (h3 : o1.guard = none)
    (h4 : o2.op = .extract (.tmp d) 0) (h5 : o2.dst = some d2) (h6 : o2.guard = none) (cur : Option (Value × AV)) (ks : List Value) (xs : List AV) (hx : σ.get t = .ptr o 0) (ho : σ.obj o = .iter cur ks xs) (hd : d < σ.n) (hd2 : d2 < σ.n)
    (hend : ks = [] → xs = [] → Q .normal ((σ.put d .any).put d2 (.raw (.bool false))))
    (hstep : ∀ (i : Nat) (h : i < ks.length) (h' : i < xs.length), Q .normal (((σ.setO o (.iter (some (ks[i], xs[i])) (ks.eraseIdx i) (xs.eraseIdx i))).put d .any).put d2 (.raw (.bool true)))) : Hold P E (sub p b) Q σ := by
  rw [h]
  rintro a w ⟨I, loc, hs⟩
  refine wp_region_lit (l := [o1, o2]) ?_
  have second : ∀ (τ : AS) (bb : Bool) (v : Value) (w' : World) (I' : Nat → Prop), τ.n = σ.n → (Instr.extract v 0).run P w' = .ok (.bool bb) w' → SR E I' loc τ a w' → Q .normal ((τ.put d .any).put d2 (.raw (.bool bb))) →
      wpList P #[o1, o2] (zN5 E Q) [o2] (a.put o1.dst v) w' := by
    intro τ bb v w' I' hn hv hsr hq
    have hs1 := hsr.put (t := d) (v := .any) (x := v) (.pure (.any _)) (by rw [hn]; exact hd)
    unfold wpList
    rw [if_pos (zDh h6 _)]
    refine .inl (S5 (x := .bool bb) (w' := w') ?_ ?_)
    · have hev : (a.put o1.dst v).eval (.tmp d) = v := by
        have hlt : d < a.tmps.size := by rw [hsr.size, hn]; exact hd
        simp [Act.eval, Act.put, h2, hlt]
      simp only [execOp, h4, Sem.run_bind, hev, hv, Result.andThen_ok, Sem.run_pure]
    · unfold wpList
      refine ⟨_, hq, I', loc, ?_⟩
      rw [h2, h5]
      exact hs1.put (.pure (.raw _ rfl)) (show d2 < τ.n by rw [hn]; exact hd2)
  unfold wpList
  rw [if_pos (zDh h3 _)]
  refine .inl ?_
  have hxv := hs.tmps t
  rw [hx] at hxv
  have ev1 : a.eval (.tmp t) = a.tmps.getD t undef := rfl
  generalize a.tmps.getD t undef = u at hxv ev1
  cases hxv with
  | pure hp => cases hp
  | ptr _ _ bb c hl =>
    have hob := hs.objs o
    rw [ho] at hob
    have hlive : (σ.obj o).live = true := by rw [ho]; rfl
    obtain ⟨b', g1, ⟨s, seen, l, g2, rfl, rfl, rfl⟩ | ⟨m, es, clock, seen, g2, g3, g4, g5, g6, g7, g8⟩⟩ := hob
    · rw [hl] at g1; cases g1
      refine S5 (x := .tuple #[.bool false]) (w' := w) ?_ (second σ false _ w I rfl (by simp [Instr.extract]) hs (hend rfl rfl))
      simp only [execOp, h1, ev1]
      simp [Instr.next, getObj, Sem.run_bind, Sem.run, g2, Result.andThen]
    · rw [hl] at g1; cases g1
      have hkl : ks.length = (es.toList.filter (fun e => !seen.contains e.born)).length := g6.1.trans g6.2.1
      have hxl := g6.2.1
      have hlo : (leftOf es seen).toList = es.toList.filter (fun e => !seen.contains e.born) := by simp [leftOf]
      rcases run_next_at (P := P) w o1.type bb m clock clock seen es clock g2 g4 (fun x hx => g5.2.2.2.2.2 x hx) (Nat.le_refl _) with ⟨q1, q2⟩ | ⟨e, q1, w1, q2, q3⟩
      · have hnil : (es.toList.filter (fun e => !seen.contains e.born)).length = 0 := by rw [← hlo]; simpa using q1
        have hk0 : ks = [] := List.eq_nil_of_length_eq_zero (by omega)
        have hx0 : xs = [] := List.eq_nil_of_length_eq_zero (by omega)
        refine S5 (x := .tuple #[.bool false]) (w' := w) ?_ (second σ false _ w I rfl (by simp [Instr.extract]) hs (hend hk0 hx0))
        simp only [execOp, h1, ev1]
        simp only [Sem.run_bind, q2, Result.andThen_ok, Sem.run_pure]
      · rw [hlo] at q1
        obtain ⟨i0, hi, rfl⟩ := List.getElem_of_mem q1
        have hin : ((es.toList.filter (fun e => !seen.contains e.born))[i0]).key ∈ ks := (L3 g6 g7).2 (List.mem_map.2 ⟨_, List.getElem_mem hi, rfl⟩)
        obtain ⟨i, hik, hki⟩ := List.getElem_of_mem hin
        have hix : i < xs.length := by have := g6.1; omega
        have hpv : PR w I xs[i] ((es.toList.filter (fun e => !seen.contains e.born))[i0]).val := by
          obtain ⟨e', r1, r2, r3⟩ := g7 i hik hix
          have : e' = (es.toList.filter (fun e => !seen.contains e.born))[i0] := zBX g6.2.2.2.1 r1 (List.getElem_mem hi) (by rw [r2, hki])
          rw [← this]; exact r3
        have hw1 : SR E I loc σ a w1 := by
          rcases q2 with rfl | rfl
          · exact hs
          · exact hs.heap rfl rfl rfl rfl
        have g2' : w1.heap[bb]? = some (.mapIter (some m) clock seen clock) := by rcases q2 with rfl | rfl <;> exact g2
        have g4' : w1.heap[m]? = some (.map es clock) := by rcases q2 with rfl | rfl <;> exact g4
        have hheap : w1.heap = w.heap := by rcases q2 with rfl | rfl <;> rfl
        have hblt : bb < w1.heap.size := (Array.getElem?_eq_some_iff.1 g2').1
        have hmb : m ≠ bb := fun e => by rw [e] at g4; rw [g2] at g4; cases g4
        let ob : Obj := .mapIter (some m) clock (seen.push ((es.toList.filter (fun e => !seen.contains e.born))[i0]).born) clock
        have hmono : ∀ k, I k → (ChangeMaps.setBlock w1 bb ob).heap[k]? = w1.heap[k]? := fun k hk => by
          have : bb ≠ k := fun e => (hs.sep o bb 0 hlive hl).1 (e ▸ hk)
          simp [ChangeMaps.setBlock, Array.getElem?_setIfInBounds, this]
        have hmono' : ∀ k, I k → (ChangeMaps.setBlock w1 bb ob).heap[k]? = w.heap[k]? := fun k hk => by rw [hmono k hk, hheap]
        have hset : (ChangeMaps.setBlock w1 bb ob).heap[bb]? = some ob := by simp [ChangeMaps.setBlock, hblt]
        have hleft := zGt es.toList seen i0 hi g5.2.2.2.2.1
        have hsw : SR E I loc (σ.setO o (.iter (some (ks[i], xs[i])) (ks.eraseIdx i) (xs.eraseIdx i))) a (ChangeMaps.setBlock w1 bb ob) := by
          refine hw1.writeG (w' := ChangeMaps.setBlock w1 bb ob) (A := .iter (some (ks[i], xs[i])) (ks.eraseIdx i) (xs.eraseIdx i)) hlive hl rfl rfl rfl (by simp [ChangeMaps.setBlock]) (fun k hk => by simp [ChangeMaps.setBlock, Array.getElem?_setIfInBounds, hk.symm]) ⟨bb, hl, .inr ⟨m, es, clock, seen.push ((es.toList.filter (fun e => !seen.contains e.born))[i0]).born, hset, g3, ?_, g5, ?_, ?_, ?_⟩⟩ (by simp)
          · rw [hmono m g3]; exact g4'
          · rw [hleft]
            have hsub := List.eraseIdx_sublist (es.toList.filter (fun e => !seen.contains e.born)) i0
            refine ⟨?_, ?_, g6.2.2.1.sublist (List.eraseIdx_sublist _ _), g6.2.2.2.1.sublist (hsub.map _), g6.2.2.2.2.1.sublist hsub, fun e he => g6.2.2.2.2.2 e (hsub.subset he)⟩
            · rw [List.length_eraseIdx_of_lt hix, List.length_eraseIdx_of_lt hik]; have := g6.1; omega
            · rw [List.length_eraseIdx_of_lt hix, List.length_eraseIdx_of_lt hi, hxl]
          · rw [hleft]
            have step : ∀ j (hj : j < ks.length) (hj' : j < xs.length), j ≠ i → ∃ e, e ∈ (es.toList.filter (fun e => !seen.contains e.born)).eraseIdx i0 ∧ e.key = ks[j] ∧ PR (ChangeMaps.setBlock w1 bb ob) I xs[j] e.val := fun j hj hj' hne => by
              obtain ⟨e, r1, r2, r3⟩ := g7 j hj hj'
              obtain ⟨m', hm', rfl⟩ := List.getElem_of_mem r1
              refine ⟨_, List.mem_eraseIdx_iff_getElem.2 ⟨m', hm', fun e => ?_, rfl⟩, r2, r3.mono hmono' (fun _ x => x)⟩
              subst e
              rw [← hki] at r2
              exact hne ((Y1 g6.2.2.1).1 r2).symm
            intro j hj hj'
            rw [List.length_eraseIdx_of_lt hik] at hj
            simp only [List.getElem_eraseIdx]
            by_cases hji : j < i
            · simp only [dif_pos hji]; exact step j (by omega) (by omega) (by omega)
            · simp only [dif_neg hji]; exact step (j + 1) (by omega) (by have := g6.1; omega) (by omega)
          · rintro p hp
            cases hp
            exact ⟨_, (List.mem_filter.1 (List.getElem_mem hi)).1, by simp, hki.symm, hpv.mono hmono' (fun _ x => x)⟩
        have fin : ∀ (kk vv : Value) (w2 : World), (Instr.next (.pointer (some ⟨bb, 0, none⟩)) false o1.type).run P w = .ok (.tuple #[.bool true, kk, vv]) w2 → SR E I loc (σ.setO o (.iter (some (ks[i], xs[i])) (ks.eraseIdx i) (xs.eraseIdx i))) a w2 →
            o1.wp P a w (wpList P #[o1, o2] (zN5 E Q) [o2]) (zN5 E Q) := fun kk vv w2 hq hw2 =>
          S5 (x := .tuple #[.bool true, kk, vv]) (w' := w2) (by simp only [execOp, h1, ev1]; simp only [Sem.run_bind, hq, Result.andThen_ok, Sem.run_pure])
            (second (σ.setO o (.iter (some (ks[i], xs[i])) (ks.eraseIdx i) (xs.eraseIdx i))) true (.tuple #[.bool true, kk, vv]) w2 I rfl (by simp [Instr.extract]) hw2 (hstep i hik hix))
        exact fin _ _ _ q3 hsw
end
def fpsF (H : Nat → AObj) (m : List (Option Nat)) (ex : List Nat) : List AObj → List Nat → Prop
 | [], [] => True
 | A :: r, o :: r' => A.live = true ∧ OXpF H m ex A (H o) ∧ fpsF H m ex r r'
 | _, _ => False
theorem fpsF.sound {H : Nat → AObj} {m : List (Option Nat)} {ex : List Nat} : ∀ {fp : List AObj} {ids : List Nat}, fpsF H m ex fp ids → fp.length = ids.length ∧ ∀ k (h : k < fp.length), fp[k].live = true ∧ OXp H (zNu m) (· ∈ ex) fp[k] (H (ids.getD k 0))
 | [], [], _ => ⟨rfl, fun k h => by simp at h⟩
 | A :: r, o :: r', h => by
  obtain ⟨h1, h2⟩ := fpsF.sound h.2.2
  refine ⟨by simp [h1], fun k hk => ?_⟩
  cases k with
  | zero => exact ⟨h.1, OXpF.sound h.2.1⟩
  | succ k => simpa using h2 k (by simpa using hk)
theorem F8 (ids : List Nat) : zNu (ids.map some) = u2 ids := by
 funext k
 unfold zNu u2
 by_cases h : k < ids.length
 ·simp [h, List.getD]
 ·simp [h]
theorem C6 {P : Program} {f : FuncId} {avs : List AV} {H : Nat → AObj} {nx : Nat} {K : Cont} (ids ex : List Nat) {args : List AV} {fp : List AObj} {r : AV} {out : List AObj} (sp : zNV P f args fp r out)
  (h1 : ids.Nodup) (h2 : XpL H (ids.map some) ex args avs) (h3 : fpsF H (ids.map some) ex fp ids) (h4 : ∀ o, o ∈ ex → o ∉ ids) (h5 : ex = [] ∨ (Scal r ∧ ∀ A, A ∈ out → N5 A))
  (h6 : ∀ j, j < out.length - ids.length → H (nx + j) = .unb) (h7 : ∀ A, A ∈ out → A ≠ .unb) (hk : K (r.ren (w7 ids nx)) (ids ++ ex ++ i7 ids nx out) (u7 ids nx out)) : I8 P f avs H nx K := by
 refine ⟨ids, ex, args, fp, r, out, ⟨sp, h1, h4, ?_, (fpsF.sound h3).1, fun k h => ?_, h5, h6, h7⟩, hk⟩
 ·rw [← F8]; exact XpL.all2 h2
 ·rw [← F8]; exact (fpsF.sound h3).2 k h
theorem All2.refl {R : AV → AV → Prop} (h : ∀ x, R x x) : ∀ xs, All2 R xs xs
 | [] => .nil
 | x :: r => .cons (h x) (All2.refl h r)
theorem x8 {P : Program} {f : FuncId} {avs : List AV} {H : Nat → AObj} {nx : Nat} {K : Cont} (ids ex : List Nat) {args : List AV} {fp : List AObj} {r : AV} {out : List AObj} (sp : zNV P f args fp r out)
  (h1 : ids.Nodup) (h2 : XpL H (ids.map some) ex args avs) (h3 : fpsF H (ids.map some) ex fp ids) (h4 : ∀ o, o ∈ ex → o ∉ ids) (h5 : ex = [] ∨ (Scal r ∧ ∀ A, A ∈ out → N5 A))
  (h6 : ∀ j, j < out.length - ids.length → H (nx + j) = .unb) (h7 : ∀ A, A ∈ out → A ≠ .unb) (hk : K (r.ren (w7 ids nx)) (ids ++ ex ++ i7 ids nx out) (u7 ids nx out)) : y4 P f avs H nx K := by
 refine ⟨[], avs, All2.refl (fun x => Xp.refl H _ x) avs, ?_⟩
 have e : (fun o => if o ∈ ([] : List Nat) then AObj.dead else H o) = H := by funext o; simp
 rw [e]
 exact C6 ids ex sp h1 h2 h3 h4 h5 h6 h7 hk
theorem All2.map {R : AV → AV → Prop} {f : AV → AV} : ∀ {xs : List AV}, (∀ x, x ∈ xs → R (f x) x) → All2 R (xs.map f) xs
 | [], _ => .nil
 | x :: r, h => .cons (h x (by simp)) (All2.map (fun y hy => h y (by simp [hy])))
theorem zBQ {P : Program} {f : FuncId} {avs : List AV} {H : Nat → AObj} {nx : Nat} {K : Cont} (h : I8 P f (avs.map fun x => (zNW H 3 x).1) (fun o => if o ∈ (avs.map fun x => (zNW H 3 x).2).flatten then .dead else H o) nx
  (fun v rd wr => K v ((avs.map fun x => (zNW H 3 x).2).flatten ++ rd) (w6 (avs.map fun x => (zNW H 3 x).2).flatten ++ wr))) : y4 P f avs H nx K :=
 ⟨_, _, All2.map (fun x hx => H6 H _ 3 x (fun o ho => List.mem_flatten.2 ⟨_, List.mem_map.2 ⟨x, hx, rfl⟩, ho⟩)), h⟩
attribute [go_sem] fpsF
end Go.Abs

namespace Go.Abs
open Go
def andO (a b : Option Bool) : Option Bool := a.bind fun r => if r = true then b else some false
def eqV (P : Program) : Nat → TypeId → List Value → List Value → Option Bool
  | 0, _, _, _ => none
  | d + 1, t, xs, ys => match P.underlying t, xs, ys with
    | some (.int _), [.int k a], [.int k' b] => if k = k' then some (a == b) else none
    | some .bool, [.bool a], [.bool b] => some (a == b)
    | some .string, [.string a], [.string b] => some (a == b)
    | some (.struct fs), xs, ys => if P.stoodInHeld t = true then none else
        fs.toList.foldr (fun f acc => if f.name = "_" then none else match sizeT P f.type with
          | some n => if f.offset + n ≤ xs.length ∧ f.offset + n ≤ ys.length then andO (eqV P d f.type ((xs.drop f.offset).take n) ((ys.drop f.offset).take n)) acc else none
          | none => none) (some true)
    | _, _, _ => none
def o6 (P : Program) (t : TypeId) (xs : List Value) : Value := match P.underlying t with
 | some (.struct _) => .agg xs.toArray
 | _ => xs.getD 0 undef
theorem F1 {P : Program} {w : World} {t n off : Nat} {xs : List Value} {u : TypeDesc} (hu : P.underlying t = some u) (hn : sizeT P t = some n) (hp : (∃ fs, u = .struct fs) ∨ ((∀ fs, u ≠ .struct fs) ∧ (∀ m e, u ≠ .array m e) ∧ off < xs.length ∧ 0 < n)) :
    (part t xs.toArray off).run P w = .ok (o6 P t ((xs.drop off).take n)) w := by
  rcases hp with ⟨fs, rfl⟩ | ⟨h1, h2, h3, h4⟩
  · have : v8 P t = some true := by unfold v8; rw [hu]
    obtain ⟨e, hp⟩ := E2 (P := P) (w := w) (vs := xs.toArray) (off := off) this
    rw [hp]
    simp only [if_true, o6, hu, Sem.run_bind, p3 hn, Result.andThen_ok, Sem.run_pure]
    congr 2
    apply Array.ext'
    simp [Array.toList_extract, List.extract]
  · have : v8 P t = some false := by
      unfold v8; rw [hu]
      cases u with
      | struct fs => exact absurd rfl (h1 fs)
      | array m e => exact absurd rfl (h2 m e)
      | _ => rfl
    obtain ⟨e, hp⟩ := E2 (P := P) (w := w) (vs := xs.toArray) (off := off) this
    rw [hp]
    have hv : o6 P t ((xs.drop off).take n) = xs[off] := by
      unfold o6
      rw [hu]
      cases u with
      | struct fs => exact absurd rfl (h1 fs)
      | _ => simp [List.getD, List.getElem?_take, h4, h3]
    rw [hv]
    simp [h3]
theorem zBY {P : Program} : ∀ (d : Nat) (t : TypeId) (xs ys : List Value) (r : Bool), eqV P d t xs ys = some r → ∀ (dd : Nat) (w : World), (Op.equalIn (dd + d) t (o6 P t xs) (o6 P t ys)).run P w = .ok r w
 | 0, t, xs, ys, r, h, _, _ => by simp [eqV] at h
 | d + 1, t, xs, ys, r, h, dd, w => by
  unfold eqV at h
  split at h
  ·rename_i k0 k a k' b hu
   split at h
   ·rename_i hk; subst hk
    cases h
    have e : ∀ v : Value, o6 P t [v] = v := fun v => by simp [o6, hu]
    rw [e, e]
    exact run_equalIn_int w (dd + d) t k k0 a b hu
   ·cases h
  ·rename_i a b hu
   cases h
   have e : ∀ v : Value, o6 P t [v] = v := fun v => by simp [o6, hu]
   rw [e, e]
   exact run_equalIn_bool' w (dd + d) t a b hu
  ·rename_i a b hu
   cases h
   have e : ∀ v : Value, o6 P t [v] = v := fun v => by simp [o6, hu]
   rw [e, e, beq_toListBytes]
   exact run_equalIn_string w (dd + d) t a b hu
  ·rename_i xs ys _ _ _ fs hu
   split at h
   ·cases h
   ·rename_i hst
    have hf : P.fieldsOf t = fs := by unfold Program.fieldsOf; rw [hu]
    have hv : ∀ zs : List Value, o6 P t zs = .agg zs.toArray := fun zs => by simp [o6, hu]
    rw [hv, hv, show dd + (d + 1) = (dd + d) + 1 from rfl, run_equalIn_struct w (dd + d) t _ _ (by rw [hf]; exact hu) (by simpa using hst), hf]
    generalize fs.toList = l at h
    clear hf hu
    induction l generalizing r with
    | nil => simp at h; subst h; simp [Op.eqFields]
    | cons f l ih =>
     simp only [List.foldr_cons] at h
     split at h
     ·cases h
     ·rename_i hn
      cases hs : sizeT P f.type with
      | none => rw [hs] at h; cases h
      | some n =>
       rw [hs] at h
       simp only at h
       split at h
       ·rename_i hfit
        cases hr : eqV P d f.type ((xs.drop f.offset).take n) ((ys.drop f.offset).take n) with
        | none => rw [hr] at h; cases h
        | some r1 =>
         rw [hr] at h
         have hpart : ∀ zs : List Value, f.offset + n ≤ zs.length → (part f.type zs.toArray f.offset).run P w = .ok (o6 P f.type ((zs.drop f.offset).take n)) w := fun zs hz => by
          have hd : d ≠ 0 := fun e => by subst e; simp [eqV] at hr
          obtain ⟨d', rfl⟩ := Nat.exists_eq_succ_of_ne_zero hd
          unfold eqV at hr
          have h1 : ∀ {v : Value} {l : List Value}, l = [v] → l = (xs.drop f.offset).take n → 0 < n := fun {v l} e1 e2 => by
           rcases Nat.eq_zero_or_pos n with h0 | h0
           ·subst h0; rw [e1] at e2; simp at e2
           ·exact h0
          split at hr
          ·rename_i hu' hx _; have := h1 rfl hx.symm; exact F1 hu' hs (.inr ⟨fun _ => by simp, fun _ _ => by simp, by omega, this⟩)
          ·rename_i hu' hx _; have := h1 rfl hx.symm; exact F1 hu' hs (.inr ⟨fun _ => by simp, fun _ _ => by simp, by omega, this⟩)
          ·rename_i hu' hx _; have := h1 rfl hx.symm; exact F1 hu' hs (.inr ⟨fun _ => by simp, fun _ _ => by simp, by omega, this⟩)
          ·rename_i hu'; exact F1 hu' hs (.inl ⟨_, rfl⟩)
          ·cases hr
         have IH := zBY d f.type _ _ _ hr dd w
         simp only [Op.eqFields, ne_eq, hn, not_false_eq_true, if_true, Sem.run_bind, hpart xs hfit.1, hpart ys hfit.2, Result.andThen_ok, IH]
         cases r1 with
         | false => simp [andO] at h; subst h; simp
         | true =>
          simp [andO] at h
          simpa using ih r h
       ·cases h
  ·cases h
theorem zDs {P : Program} {t d : Nat} {xs ys : List Value} {r : Bool} {fs : Array Field} (hd : d ≤ 10000) (hu : P.underlying t = some (.struct fs)) (hg : P.eqGuardType P.depth t = false) (h : eqV P d t xs ys = some r) : N4 P t xs ys r := by
 intro x y w
 have hv : ∀ zs : List Value, o6 P t zs = .agg zs.toArray := fun zs => by simp [o6, hu]
 have key := zBY d t xs ys r h (10000 - d) w
 rw [hv, hv, show 10000 - d + d = 10000 by omega] at key
 refine ⟨?_, ?_⟩
 ·rw [Sem.run_bind, run_eqGuard_agg w .eql t x y _ _ hg, Result.andThen_ok, run_eql_struct, key]; rfl
 ·rw [Sem.run_bind, run_eqGuard_agg w .neq t x y _ _ hg, Result.andThen_ok, run_neq_struct, key]; rfl
def zOg (P : Program) (t : TypeId) : Bool := J4 P t && !(P.eqGuardType P.depth t)
theorem eqC_V {P : Program} {t : Nat} {xs ys : List Value} {r : Bool} (ht : zOg P t = true) (h : eqV P 5 t xs ys = some r) : eqC P t xs ys = some r := by
 unfold zOg J4 at ht
 simp only [Bool.and_eq_true, Bool.not_eq_true'] at ht
 obtain ⟨h1, h2⟩ := ht
 split at h1
 ·rename_i fs hu
  exact zFD (zDs (by omega) hu h2 h)
 ·cases h1
end Go.Abs

namespace Go.Abs
open Go
abbrev FR (l : Nat) : Fence := Fence.wide.inRound l
theorem zEg {l n : Nat} {P : Program} {f : FuncId} {args : Array Value} {w : World} {R : Ending → World → Prop} (h : Calls P f args w R) : CallsIn (FR l) n P f args w R :=
 CallsIn.inRound l (callsIn_wide.2 h)
theorem zH9 {l n : Nat} {P : Program} {row : String} {args : Array Value} {w : World} {R : Value → World → Prop} (h : Rows P row args w R) : RowsIn (FR l) n P row args w R :=
 fun c cs _ => let ⟨v, w', r, s⟩ := h c cs; ⟨v, w', r, stepsIn_wide.2 s⟩
theorem zIA {n : Nat} {P : Program} {row : String} {args : Array Value} {w : World} {R : Value → World → Prop} (h : Rows P row args w R) : RowsIn Fence.wide n P row args w R :=
 fun c cs _ => let ⟨v, w', r, s⟩ := h c cs; ⟨v, w', r, stepsIn_wide.2 s⟩
theorem zJt {P : Program} {o : Oper} {a : Act} {next : Act → World → Prop} {Q : Exit → Act → World → Prop} {x : Result Next} (h : o.upon P a next Q x) : o.uponIn Fence.wide 0 P a next Q x := by
  cases x with
  | ok x w' => cases x <;> first
      | exact h
      | exact h.elim
      | exact ⟨fun h => by simp [Fence.wide] at h, callsIn_wide.2 h⟩
      | exact ⟨fun h => by simp [Fence.wide] at h, zIA h⟩
  | halt x w' => cases x <;> first | exact h | exact h.elim
theorem zJs {l : Nat} {P : Program} {o : Oper} {a : Act} {next : Act → World → Prop} {Q : Exit → Act → World → Prop} {x : Result Next} (h : o.upon P a next Q x) : o.uponIn (FR l) 0 P a next Q x := by
  cases x with
  | ok x w' => cases x <;> first
      | exact h
      | exact h.elim
      | exact ⟨fun h => by simp [FR, Fence.wide] at h, zEg h⟩
      | exact ⟨fun h => by simp [FR, Fence.wide] at h, zH9 h⟩
  | halt x w' => cases x <;> first | exact h | exact h.elim
theorem zFI {P : Program} {o : Oper} {ev : Operand → AV} {H : Nat → AObj} {nx : Nat} {K : Cont} (h : zNj P o ev H nx K) : ∀ c, o.op ≠ .defer c := by
 intro c e
 unfold zNj at h
 rw [e] at h
 exact h
theorem zOi {P : Program} {o : Oper} {a : Act} {w : World} {next : Act → World → Prop} {Q : Exit → Act → World → Prop} (h : o.wp P a w next Q) : o.wpIn Fence.wide 0 P a w next Q :=
 ⟨fun _ _ => trivial, by rw [Fence.wide_round, Oper.semAt_none]; exact zJt h⟩
theorem zJx {l : Nat} {P : Program} {o : Oper} {a : Act} {w : World} {next : Act → World → Prop} {Q : Exit → Act → World → Prop} (hd : ∀ c, o.op ≠ .defer c) (h : o.wp P a w next Q) : o.wpIn (FR l) 0 P a w next Q :=
 ⟨fun _ _ => trivial, by rw [Oper.semAt_eq _ _ _ hd]; exact zJs h⟩
section
variable {P : Program} {E : Env}
theorem zAe {l : Nat} {all : List Oper} {K : AS → List Touch → Prop} {Q : Exit → Act → World → Prop} (hK : ∀ σ ts a w, K σ ts → St E σ a w → Q .normal a w) :
  ∀ (ops : List Oper) (σ : AS) (ts : List Touch) (a : Act) (w : World), q8 P all K ops σ ts → St E σ a w → wpListIn (FR l) 0 P all.toArray Q ops a w
 | [], σ, ts, a, w, h, hs => hK σ ts a w h hs
 | o :: rest, σ, ts, a, w, h, ⟨I, loc, hs⟩ => by
  unfold wpListIn
  rcases L0 hs h with ⟨hw, hd, he⟩ | ⟨hw, hd, hr⟩
  ·rw [if_pos hw]
   exact zJx (zFI he) (H0 hs he (fun d e => by rw [e] at hd; exact hd) (fun v rd wr a' w' hk hst => zAe hK rest _ _ a' w' hk hst))
  ·rw [hw, if_neg (by simp)]
   exact ⟨fun _ _ => trivial, zAe hK rest _ _ _ _ hr ⟨I, loc, hs.putD U1 (fun d e => by rw [e] at hd; exact hd)⟩⟩
theorem F9 {all : List Oper} {K : AS → List Touch → Prop} {Q : Exit → Act → World → Prop} {post : List Oper} (hK : ∀ σ ts a w, K σ ts → St E σ a w → wpListIn Fence.wide 0 P all.toArray Q post a w) :
  ∀ (ops : List Oper) (σ : AS) (ts : List Touch) (a : Act) (w : World), q8 P all K ops σ ts → St E σ a w → wpListIn Fence.wide 0 P all.toArray Q (ops ++ post) a w
 | [], σ, ts, a, w, h, hs => hK σ ts a w h hs
 | o :: rest, σ, ts, a, w, h, ⟨I, loc, hs⟩ => by
  rw [List.cons_append]
  unfold wpListIn
  rcases L0 hs h with ⟨hw, hd, he⟩ | ⟨hw, hd, hr⟩
  ·rw [if_pos hw]
   exact zOi (H0 hs he (fun d e => by rw [e] at hd; exact hd) (fun v rd wr a' w' hk hst => F9 hK rest _ _ a' w' hk hst))
  ·rw [hw, if_neg (by simp)]
   exact ⟨fun _ _ => trivial, F9 hK rest _ _ _ _ hr ⟨I, loc, hs.putD U1 (fun d e => by rw [e] at hd; exact hd)⟩⟩
def HoldR (l : Nat) (P : Program) (E : Env) (c : Code) (Q : Exit → AS → Prop) (σ : AS) : Prop := ∀ a w, St E σ a w → c.wpIn (FR l) 0 P (zN5 E Q) a w
end
section
variable {l : Nat} {P : Program} {E : Env} {Q : Exit → AS → Prop} {σ : AS}
theorem HoldR.mono {c : Code} {Q' : Exit → AS → Prop} (h : HoldR l P E c Q σ) (hq : ∀ e σ, Q e σ → Q' e σ) : HoldR l P E c Q' σ :=
 fun a w hs => wpIn_mono (h a w hs) (fun e _ _ ⟨σ', h1, h2⟩ => ⟨σ', hq e σ' h1, h2⟩)
theorem zGG {id : Nat} {c : Code} (h : HoldR l P E c (z4 id Q) σ) : HoldR l P E (.block id c) Q σ := fun a w hs =>
 wpIn_block (wpIn_mono (h a w hs) (fun e a w ⟨σ', h1, h2⟩ => by
  cases e with
  | exit j =>
   simp only [z4] at h1
   simp only [Exit.inBlock]
   split
   ·rename_i hj; rw [if_pos hj] at h1; exact ⟨σ', h1, h2⟩
   ·rename_i hj; rw [if_neg hj] at h1; exact ⟨σ', h1, h2⟩
  | _ => exact ⟨σ', h1, h2⟩))
theorem zGH {id : Nat} {ops : List Oper} (h : q8 P ops (fun σ' _ => Q .normal σ') ops σ []) : HoldR l P E (.region id ops.toArray false) Q σ := fun a w hs =>
 wpIn_region_list (zAe (fun σ' _ a' w' h1 h2 => ⟨σ', h1, h2⟩) ops σ [] a w h hs)
end
def F4 (tmps : Array Value) (ps : Array Tmp) (vs : Array Value) : Array Value := (ps.zip vs).foldl (fun tmps (t, a) => tmps.setIfInBounds t a) tmps
def roundC (P : Program) (loc : Nat → Loc) (vs : Array Value) (w : World) (R : Ending → World → Prop) : Prop :=
 ∃ l c r, loc 0 = .blk l c ∧ w.heap[l]? = some (.loop r) ∧ vs.size = r.params.size ∧ RoundIn Fence.wide 0 P l r.fn (F4 r.tmps r.params vs) r.assign r.body w R
theorem roundC.mono {P : Program} (loc : Nat → Loc) (vs : Array Value) (w : World) (R R' : Ending → World → Prop) (h : ∀ e w', R e w' → R' e w') (hc : roundC P loc vs w R) : roundC P loc vs w R' :=
 let ⟨l, c, r, h1, h2, h3, h4⟩ := hc
 ⟨l, c, r, h1, h2, h3, h4.mono h⟩
def C3 (P : Program) (args : List AV) (fp : List AObj) (r : AV) (out : List AObj) : Prop := zBA (roundC P) args fp r out
def V2 (env : List (Nat × AV)) : List Tmp → List AV → List (Nat × AV)
 | t :: ts, x :: xs => V2 ((t, x) :: env) ts xs
 | _, _ => env
theorem zCj {w : World} {I : Nat → Prop} {loc : Nat → Loc} {n : Nat} : ∀ (ts : List Tmp) (xs : List AV) (vs : List Value) (env : List (Nat × AV)) (tmps : Array Value), tmps.size = n → (∀ t, t ∈ ts → t < n) → (∀ t, VR w I loc (lkV env t) (tmps.getD t undef)) →
  xs.length = vs.length → (∀ i (h : i < xs.length) (h' : i < vs.length), VR w I loc xs[i] vs[i]) →
  ((ts.zip vs).foldl (fun tmps (p : Tmp × Value) => tmps.setIfInBounds p.1 p.2) tmps).size = n ∧ ∀ t, VR w I loc (lkV (V2 env ts xs) t) (((ts.zip vs).foldl (fun tmps (p : Tmp × Value) => tmps.setIfInBounds p.1 p.2) tmps).getD t undef)
 | [], xs, vs, env, tmps, hn, _, he, _, _ => by
  refine ⟨by simpa using hn, fun t => ?_⟩
  have : V2 env [] xs = env := by cases xs <;> rfl
  rw [this]; simpa using he t
 | t :: ts, [], [], env, tmps, hn, _, he, _, _ => ⟨by simpa using hn, fun t => by simpa [V2] using he t⟩
 | t :: ts, x :: xs, v :: vs, env, tmps, hn, ht, he, hl, hx => by
  have h0 : t < n := ht t (by simp)
  simp only [List.zip_cons_cons, List.foldl_cons, V2]
  refine zCj ts xs vs ((t, x) :: env) (tmps.setIfInBounds t v) (by simpa using hn) (fun u hu => ht u (by simp [hu])) (fun u => ?_) (by simpa using hl) (fun i h h' => by have := hx (i + 1) (by simpa using h) (by simpa using h'); simp only [List.getElem_cons_succ] at this; exact this)
  simp only [lkV]
  by_cases e : t = u
  ·subst e
   rw [if_pos rfl]
   have : (tmps.setIfInBounds t v).getD t undef = v := by
    have ht' : t < tmps.size := by rw [hn]; exact h0
    simp [ht']
   rw [this]
   have := hx 0 (by simp) (by simp)
   simp only [List.getElem_cons_zero] at this
   exact this
  ·rw [if_neg e]
   have : (tmps.setIfInBounds t v).getD u undef = tmps.getD u undef := by simp [Array.getElem?_setIfInBounds, e]
   rw [this]; exact he u
 | t :: ts, [], v :: vs, _, _, _, _, _, h, _ => by simp at h
 | t :: ts, x :: xs, [], _, _, _, _, _, h, _ => by simp at h
def zOq : Exit → Option (Option Code)
 | .normal => some none
 | .ret => some (some .ret)
 | .exit id => some (some (.exit id))
 | .goto t => some (some (.goto t))
 | _ => none
def Q9 : Option (Option Code) → LoopState
 | none => .busy
 | some none => .ready
 | some (some _) => .done
theorem or_loop {w : World} {I : Nat → Prop} {loc : Nat → Loc} {o : Nat} {L : LoopK} {env : List (Nat × AV)} {p : Option (Option Code)} :
  OR w I loc o (.loopo L env p) ↔ ∃ b tmps ds, loc o = .blk b 0 ∧ w.heap[b]? = some (.loop { state := Q9 p, pending := p.getD none, fn := L.fn, tmps := tmps, params := L.params, assign := L.assign, body := L.body, defers := ds }) ∧ tmps.size = L.n ∧ ∀ t, VR w I loc (lkV env t) (tmps.getD t undef) := by
 cases p with
 | none => exact Iff.rfl
 | some q => cases q <;> exact Iff.rfl
theorem SR.loopSet {E : Env} {I : Nat → Prop} {loc : Nat → Loc} {σ : AS} {a : Act} {w : World} (h : SR E I loc σ a w) {o : Nat} {L : LoopK} {env : List (Nat × AV)} {p : Option (Option Code)} (ho : σ.obj o = .loopo L env p) (p' : Option (Option Code)) :
  ∃ b r, loc o = .blk b 0 ∧ w.heap[b]? = some (.loop r) ∧ r.fn = L.fn ∧ r.params = L.params ∧ r.assign = L.assign ∧ r.body = L.body ∧ r.state = Q9 p ∧ r.pending = p.getD none ∧
   r.tmps.size = L.n ∧ (∀ t, VR w I loc (lkV env t) (r.tmps.getD t undef)) ∧
   SR E I loc (σ.setO o (.loopo L env p')) a (w.putObj b (.loop { r with state := Q9 p', pending := p'.getD none })) := by
 have hob := h.objs o
 rw [ho] at hob
 obtain ⟨b, tmps, ds, h1, h2, h3, h4⟩ := or_loop.1 hob
 have hb : b < w.heap.size := (Array.getElem?_eq_some_iff.1 h2).1
 have hsep := (h.sep o b 0 (by rw [ho]; rfl) h1).1
 refine ⟨b, _, h1, h2, rfl, rfl, rfl, rfl, rfl, rfl, h3, h4, ?_⟩
 refine h.writeG (w' := w.putObj b (.loop { state := Q9 p', pending := p'.getD none, fn := L.fn, tmps := tmps, params := L.params, assign := L.assign, body := L.body, defers := ds })) (A := .loopo L env p') (by rw [ho]; rfl) h1 rfl rfl rfl (by simp) (fun k hk => U9 hk) ?_ (by simp)
 refine or_loop.2 ⟨b, tmps, ds, h1, World.putObj_heap_same hb, h3, fun t => (h4 t).mono (fun k hk => U9 (r := b) (fun e => hsep (by rw [← e]; exact hk))) (fun _ x => x) (fun _ _ => rfl)⟩
def zOp (n : Nat) (r : AV) (out : List AObj) (σ : AS) : Prop :=
 ∃ m ex, XpF σ.obj m ex r r ∧ objsF σ m ex out m ∧ Z2 (W4 out m) = true ∧ ex.all (fun o => !m.contains (some o)) = true ∧ (List.range n).all (fun k => m[k]? == some (some k)) = true
theorem zJ9 {P : Program} {L : LoopK} {env : List (Nat × AV)} {rest : List AObj} {args : List AV} {out : List AObj} {j : Option Code} (hp : L.params.toList.all (fun t => decide (t < L.n)) = true) (hl : args.length = L.params.size)
  (h : ∀ E l, E.n = rest.length + 1 → HoldR l P E L.assign (fun e σ1 => e = .normal ∧ σ1.obj 0 = .loopo L env (some none) ∧ HoldR l P E L.body (fun e σ2 => σ2.obj 0 = .loopo L env none ∧ zOq e = some j ∧ zOp (rest.length + 1) (.raw (.bool j.isNone)) out (σ2.setO 0 (.loopo L env (some j))))
   (σ1.setO 0 (.loopo L env none))) ⟨L.n, V2 env L.params.toList args, zNf 0 (.loopo L env (some none) :: rest)⟩) : C3 P args (.loopo L env (some none) :: rest) (.raw (.bool j.isNone)) out := by
 intro w I loc vs hs hvl hv
 have hb0 : (Go.Abs.hs (.loopo L env (some none) :: rest)).obj 0 = .loopo L env (some none) := by rw [d7]; rfl
 obtain ⟨b, r, g1, g2, g3, g4, g5, g6, g7, g8, g9, g10, _⟩ := hs.loopSet hb0 none
 have hsz : vs.size = r.params.size := by rw [g4, hvl, hl]
 refine ⟨b, 0, r, g1, g2, hsz, ?_⟩
 have hpt : ∀ t, t ∈ L.params.toList → t < L.n := fun t ht => by
  rw [List.all_eq_true] at hp
  have := hp t ht
  simpa using this
 obtain ⟨q1, q2⟩ := zCj (w := w) (I := I) (loc := loc) L.params.toList args vs.toList env r.tmps g9 hpt g10 (by simpa using hvl.symm) (fun i h h' => by have := hv i h (by simpa using h'); simpa using this)
 have hfold : F4 r.tmps r.params vs = (L.params.toList.zip vs.toList).foldl (fun tmps (p : Tmp × Value) => tmps.setIfInBounds p.1 p.2) r.tmps := by
  unfold F4
  rw [g4, ← Array.foldl_toList, Array.toList_zip]
 rw [hfold]
 have hst : SR (i4 w I (rest.length + 1) loc) I loc ⟨L.n, V2 env L.params.toList args, zNf 0 (.loopo L env (some none) :: rest)⟩ { tmps := (L.params.toList.zip vs.toList).foldl (fun tmps (p : Tmp × Value) => tmps.setIfInBounds p.1 p.2) r.tmps, defers := [] } w :=
  ⟨.nil, q1, q2, hs.objs, hs.inj, hs.imm, hs.sep, hs.fr, hs.base, hs.top, hs.keep⟩
 have hrun := h (i4 w I (rest.length + 1) loc) b rfl _ w ⟨I, loc, hst⟩
 rw [g5, g6]
 refine roundIn_of_wpIn trivial (wpIn_mono hrun ?_)
 rintro e a1 w1 ⟨σ1, ⟨rfl, k1, k2⟩, I1, loc1, hs1⟩
 obtain ⟨b1, r1, m1, m2, m3, m4, m5, m6, m7, m8, m9, m10, m11⟩ := hs1.loopSet k1 none
 have hb1 : b1 = b := by
  have : loc1 0 = loc 0 := (hs1.keep 0 (Nat.succ_pos _)).1
  rw [m1, g1] at this; cases this; rfl
 subst hb1
 refine ⟨_, run_beginRound m2 (by rw [m7]; rfl), ?_⟩
 have hw : w1.putObj b1 (.loop { r1 with state := .busy }) = w1.putObj b1 (.loop { r1 with state := Q9 none, pending := Option.getD (none : Option (Option Code)) none }) := by
  have : r1.pending = none := m8
  simp only [Q9, Option.getD_none, ← this]
 rw [hw]
 refine wpIn_mono (k2 a1 _ ⟨I1, loc1, m11⟩) ?_
 rintro e a2 w2 ⟨σ2, ⟨k3, k4, m, ex, t1, t2, t3, t4, t5⟩, I2, loc2, hs2⟩
 obtain ⟨b2, r2, n1, n2, n3, n4, n5, n6, n7, n8, n9, n10, n11⟩ := hs2.loopSet k3 (some j)
 have hb2 : b2 = b1 := by
  have : loc2 0 = loc 0 := (hs2.keep 0 (Nat.succ_pos _)).1
  rw [n1, g1] at this; cases this; rfl
 subst hb2
 have hend : (Instr.endRound b2 j).run P w2 = .ok (.bool j.isNone) (w2.putObj b2 (.loop { r2 with state := Q9 (some j), pending := (some j).getD none })) := by
  rw [run_endRound j n2]
  cases j <;> rfl
 have hweak : Weak (rest.length + 1) m ex (σ2.setO 0 (.loopo L env (some j))) σ2.n [] out := ⟨rfl, trivial, t2, t3, t4, t5⟩
 have hsr := WK.sound n11 hweak.wk.1 rfl hweak.wk.2
 have hval := Xp.sound n11 (XpF.sound t1) (.pure (.raw (.bool j.isNone) rfl))
 have hlen : rest.length + 1 ≤ out.length := by
  have h7 := (t2.sound).1
  rw [List.all_eq_true] at t5
  have := t5 rest.length (by simp)
  have hm : m[rest.length]? = some (some rest.length) := by simpa using this
  have := (List.getElem?_eq_some_iff.1 hm).1
  omega
 have hR : ∃ v I' loc', Ending.returned (.bool j.isNone) = .returned v ∧ Post w I loc (rest.length + 1) (.raw (.bool j.isNone)) out v (w2.putObj b2 (.loop { r2 with state := Q9 (some j), pending := (some j).getD none })) I' loc' := ⟨_, _, _, rfl, ⟨hsr.bare, hval, hlen⟩⟩
 cases e with
 | normal => cases k4; exact ⟨_, _, hend, hR⟩
 | ret => cases k4; exact ⟨_, _, hend, hR⟩
 | exit id => cases k4; exact ⟨_, _, hend, hR⟩
 | goto t => cases k4; exact ⟨_, _, hend, hR⟩
 | panic c => cases k4
 | outgrown => cases k4
end Go.Abs

namespace Go.Abs
open Go
def D4 (P : Program) (y : AV) (avs : List AV) (H : Nat → AObj) (nx : Nat) (K : Cont) : Prop :=
 ∃ oid ids ex args fp r out, y = .yld oid ∧ ids.head? = some oid ∧ MetX (roundC P) avs H nx ids ex args fp r out ∧ K (r.ren (w7 ids nx)) (ids ++ ex ++ i7 ids nx out) (u7 ids nx out)
section
variable {P : Program} {E : Env} {I : Nat → Prop} {loc : Nat → Loc} {σ : AS} {a : Act} {w : World}
theorem zJ7 (hs : SR E I loc σ a w) {o : Oper} {fo : Operand} {args : Array Operand} {ts : Array TypeId} (hop : o.op = .call ⟨.value fo, args, ts⟩) {nx : Nat} {K : Cont}
  (h : D4 P (σ.ev fo) (args.toList.map σ.ev) σ.obj nx K) (hd : ∀ d, o.dst = some d → d < σ.n) {next : Act → World → Prop} {Q : Exit → Act → World → Prop}
  (hn : ∀ v rd wr a' w', K v rd wr → St E ((σ.writes wr).putD o.dst v) a' w' → next a' w') : o.wpIn Fence.wide 0 P a w next Q := by
 obtain ⟨oid, ids, ex, args', fp, r, out, hy, hh, hm, hK⟩ := h
 obtain ⟨g1, g2⟩ := X5 hs args
 have hfo := hs.ev fo
 rw [hy] at hfo
 generalize hfv : a.eval fo = fv at hfo
 obtain ⟨l, c, lp, h1, h2, h3, h4⟩ := zBP (C := roundC P) roundC.mono hs g1 g2 hm
 cases hfo with
 | pure hp => cases hp
 | yld _ b c' hb =>
  have h0 : zNc (u2 ids) loc 0 = loc oid := by
   cases ids with
   | nil => simp at hh
   | cons i r => simp at hh; subst hh; simp [zNc, u2]
  rw [h0, hb] at h1
  cases h1
  refine ⟨fun _ _ => trivial, ?_⟩
  rw [Fence.wide_round, Oper.semAt_none]
  have hrun : (execOp a.eval o).run P w = .ok (.round l lp.fn (F4 lp.tmps lp.params (args.map a.eval)) lp.assign lp.body) w := by
   simp only [execOp, hop, resolve, hfv, Deferred.ofValue, Sem.run_bind, Sem.run_pure, Result.andThen_ok, invoke, Array.empty_append]
   exact run_yield h2 h3
  rw [hrun, Oper.uponIn_round]
  refine ⟨fun h => by simp [Fence.wide] at h, h4.mono ?_⟩
  rintro e w' ⟨v, I', loc', rfl, hsr, hvr, _⟩
  exact hn _ _ _ _ _ hK ⟨I', loc', hsr.putD hvr (fun d e => by rw [(f9 _ σ).1]; exact hd d e)⟩
theorem zGT {Q : Exit → AS → Prop} {id : Nat} {pre post : List Oper} {o : Oper} {fo : Operand} {args : Array Operand} {ts : Array TypeId} (hop : o.op = .call ⟨.value fo, args, ts⟩)
  (h : q8 P (pre ++ o :: post) (fun σ1 _ => l8 (pre ++ o :: post) σ1 o
   ((match o.dst with | some d => ltN d σ1.n | none => True) ∧ D4 P (σ1.ev fo) (args.toList.map σ1.ev) σ1.obj σ1.nx (fun v _ wr => q8 P (pre ++ o :: post) (fun σ' _ => Q .normal σ') post ((σ1.writes wr).putD o.dst v) []))
   ((match o.dst with | some d => ltN d σ1.n | none => True) ∧ q8 P (pre ++ o :: post) (fun σ' _ => Q .normal σ') post (σ1.putD o.dst (.tup [])) [])) pre σ []) : Hold P E (.region id (pre ++ o :: post).toArray false) Q σ := fun a w hs => by
 refine wpIn_wide.1 (wpIn_region_list (n := 0) ?_)
 have tail : ∀ (ops : List Oper) (σ : AS) (a : Act) (w : World), q8 P (pre ++ o :: post) (fun σ' _ => Q .normal σ') ops σ [] → St E σ a w → wpListIn Fence.wide 0 P (pre ++ o :: post).toArray (zN5 E Q) ops a w := fun ops σ a w h hs => by
  have := F9 (P := P) (E := E) (Q := zN5 E Q) (post := []) (all := pre ++ o :: post) (fun σ' _ a' w' h1 h2 => (⟨σ', h1, h2⟩ : zN5 E Q .normal a' w')) ops σ [] a w h hs
  simpa using this
 refine F9 (post := o :: post) ?_ pre σ [] a w h hs
 rintro σ1 ts1 a1 w1 hg ⟨I1, loc1, hs1⟩
 unfold wpListIn
 rcases L0 hs1 hg with ⟨hw, hd, he⟩ | ⟨hw, hd, hr⟩
 ·rw [if_pos hw]
  exact zJ7 hs1 hop he (fun d e => by rw [e] at hd; exact hd) (fun v rd wr a' w' hk hst => tail post _ a' w' hk hst)
 ·rw [hw, if_neg (by simp)]
  exact ⟨fun _ _ => trivial, tail post _ _ _ hr ⟨I1, loc1, hs1.putD U1 (fun d e => by rw [e] at hd; exact hd)⟩⟩
theorem SR.mark (h : SR E I loc σ a w) : SR E I loc σ { a with defers := { target := .collected w.heap.size, args := #[] } :: a.defers } (w.alloc (.deferred (some []))) := by
 have hI : ∀ b, I b → (w.alloc (.deferred (some []))).heap[b]? = w.heap[b]? := fun b hb => r6 _ _ _ (h.imm b hb)
 refine ⟨⟨?_, fun d hd => ?_⟩, h.size, fun t => (h.tmps t).mono hI (fun _ x => x) (fun _ _ => rfl), fun o => (h.objs o).mono hI (fun _ x => x) (fun _ _ => rfl) (fun e => h.un e) (fun hl b c hb => r6 _ _ _ ((h.objs o).lt hl hb)), h.inj, fun b hb => by have := h.imm b hb; simp; omega, h.sep, ?_, h.base, h.top, h.keep⟩
 ·simp only [List.map_cons, List.nodup_cons]
  refine ⟨fun hm => ?_, h.defers.1⟩
  obtain ⟨d, hd, e⟩ := List.mem_map.1 hm
  obtain ⟨r, rfl, h1, _⟩ := h.defers.2 d hd
  have := (Array.getElem?_eq_some_iff.1 h1).1
  simp at e; omega
 ·rcases List.mem_cons.1 hd with rfl | hd
  ·refine ⟨_, rfl, World.alloc_heap_new _ _, fun hi => by have := h.imm _ hi; omega, h.fr.size, fun o c hl e => ?_⟩
   have := (h.objs o).lt hl e; omega
  ·obtain ⟨r, rfl, h1, h2, h3, h4⟩ := h.defers.2 d hd
   have hr := (Array.getElem?_eq_some_iff.1 h1).1
   exact ⟨r, rfl, by rw [r6 _ _ _ hr]; exact h1, h2, h3, h4⟩
 ·exact h.fr.of_same rfl rfl rfl (by simp) (fun b hb _ => r6 _ _ _ (by have := h.fr.size; omega))
theorem zDv {x : AV} {v : Value} {caps : List AV} {vs : Array Value} (h0 : VR w I loc x v) (hl : caps.length = vs.size) (h : ∀ i (h : i < caps.length) (h' : i < vs.size), VR w I loc caps[i] vs[i]) :
  (x :: caps).length = (#[v] ++ vs).size ∧ ∀ i (h : i < (x :: caps).length) (h' : i < (#[v] ++ vs).size), VR w I loc (x :: caps)[i] (#[v] ++ vs)[i] := by
 refine ⟨by simp; omega, fun i h1 h2 => ?_⟩
 cases i with
 | zero =>
  have e : (#[v] ++ vs)[0] = v := by simp
  rw [e]; exact h0
 | succ i =>
  have hi : i < vs.size := by simp at h2; omega
  have e : (#[v] ++ vs)[i + 1] = vs[i] := by simp [Array.getElem_append]
  rw [e]; exact h i (by simpa using h1) hi
def zCl (P : Program) (E : Env) (Q : Exit → AS → Prop) (nx : Nat) (σ : AS) : Prop :=
 ∃ L env p, σ.obj nx = .loopo L env (some p) ∧ (match p with
  | none => Q .normal (σ.setO nx .dead)
  | some c => Hold P E c Q (σ.setO nx .dead))
theorem zGO {Q : Exit → AS → Prop} {g : Operand} {ps : Array Tmp} {assign body : Code} {f : FuncId} {caps : List AV} (hg : σ.ev g = .fn f caps) (hc : r8 P f = true) {nx : Nat} (hnx : σ.obj nx = .unb)
  (h : ∀ fn, ∃ nx', y4 P f (.yld nx :: caps) (σ.setO nx (.loopo ⟨fn, ps, assign, body, σ.n⟩ σ.env (some none))).obj nx' (fun _ _ wr => zCl P E Q nx ((σ.setO nx (.loopo ⟨fn, ps, assign, body, σ.n⟩ σ.env (some none))).writes wr))) :
  Hold P E (.rangeFunc g ps assign body) Q σ := fun a w ⟨I, loc, hs⟩ => by
 refine wpIn_wide.1 (wpIn_rangeFunc (n := 0) (fun fn _ => ?_))
 obtain ⟨nx', hcall⟩ := h fn
 have hs1 := hs.mark
 have hor : OR ((w.alloc (.deferred (some []))).alloc (.loop { state := .ready, pending := none, fn, tmps := a.tmps, params := ps, assign, body, defers := w.heap.size })) I (q7 loc nx (.blk (w.alloc (.deferred (some []))).heap.size 0)) nx (.loopo ⟨fn, ps, assign, body, σ.n⟩ σ.env (some none)) := by
  refine or_loop.2 ⟨_, a.tmps, w.heap.size, by simp only [q7, if_true], World.alloc_heap_new _ _, hs.size, fun t => ?_⟩
  exact (hs1.tmps t).mono (fun b hb => r6 _ _ _ (hs1.imm b hb)) (fun _ x => x) (fun o ho => by
   unfold q7; rw [if_neg]; rintro rfl; exact ho (hs.un hnx))
 have hs2 := hs1.born hnx (.loop { state := .ready, pending := none, fn, tmps := a.tmps, params := ps, assign, body, defers := w.heap.size }) hor
 have hsz : (w.alloc (.deferred (some []))).heap.size = w.heap.size + 1 := by simp
 rw [hsz] at hs2
 have henter := run_enterLoop_outer (P := P) (w := w) fn a.tmps ps assign body
 generalize ((w.alloc (.deferred (some []))).alloc (.loop { state := .ready, pending := none, fn, tmps := a.tmps, params := ps, assign, body, defers := w.heap.size })) = W at hs2 henter
 have hgv := hs2.ev g
 have hge : (σ.setO nx (.loopo ⟨fn, ps, assign, body, σ.n⟩ σ.env (some none))).ev g = .fn f caps := by rw [← hg]; cases g <;> rfl
 rw [hge] at hgv
 have hev : (({ a with defers := { target := .collected w.heap.size, args := #[] } :: a.defers } : Act)).eval g = a.eval g := by cases g <;> rfl
 rw [hev] at hgv
 generalize hfv : a.eval g = fv at hgv
 cases hgv with
 | pure hp => cases hp
 | fn _ _ vs q1 q2 =>
  obtain ⟨z1, z2⟩ := zDv (x := .yld nx) (v := .func (.yield (w.heap.size + 1)) #[] #[]) (.yld _ _ 0 (by simp only [q7, if_true])) q1 q2
  obtain ⟨r, rd, wr, hK, hcl⟩ := zBO (vs := #[.func (.yield (w.heap.size + 1)) #[] #[]] ++ vs) hs2 z1 z2 hcall
  refine ⟨w.heap.size + 1, [{ target := .collected w.heap.size, args := #[] }], W, { target := .fn (.func f) vs, args := #[.func (.yield (w.heap.size + 1)) #[] #[]] }, W, f, #[.func (.yield (w.heap.size + 1)) #[] #[]] ++ vs, W, ?_, ?_, fun _ _ => trivial, ?_, ?_, ?_⟩
  ·rw [Fence.wide_round]; exact henter
  ·simp only [resolve, rangeCall, hfv, Deferred.ofValue, Sem.run_pure]
   simp [Act.eval]
  ·simp only [invoke]
   exact zAg hc _
  ·intro h; simp [Fence.wide] at h
  ·refine callsIn_wide.2 (Calls.mono hcl ?_)
   rintro e w' ⟨v, I', loc', rfl, hsr, hvr, hkeep⟩
   obtain ⟨L, env, p, ho, hp⟩ := hK
   obtain ⟨b, rc, g1, g2, g3, g4, g5, g6, g7, g8, g9, g10, _⟩ := hsr.loopSet ho none
   have hb : b = w.heap.size + 1 := by
    have := hkeep nx (by simp [q7])
    rw [g1] at this
    simp only [q7, if_true] at this
    cases this; rfl
   subst hb
   refine ⟨rc.pending, _, run_endLoop g2 (by rw [g7]; cases p <;> simp [Q9]), ?_⟩
   have hsr2 : SR E I' loc' ((((σ.setO nx (.loopo ⟨fn, ps, assign, body, σ.n⟩ σ.env (some none))).writes wr)).setO nx .dead) { a with defers := { target := .collected w.heap.size, args := #[] } :: a.defers } (w'.putObj (w.heap.size + 1) (.loop { rc with state := .exhausted })) :=
    hsr.writeG (w' := w'.putObj (w.heap.size + 1) (.loop { rc with state := .exhausted })) (by rw [ho]; rfl) g1 rfl rfl rfl (by simp) (fun k hk => U9 hk) trivial (by simp)
   generalize (w'.putObj (w.heap.size + 1) (.loop { rc with state := .exhausted })) = W' at hsr2 ⊢
   rw [g8]
   cases p with
   | none => exact ⟨_, hp, I', loc', hsr2⟩
   | some c => exact wpIn_wide.2 (hp _ _ ⟨I', loc', hsr2⟩)
end
end Go.Abs

namespace Go.Abs
open Go
attribute [go_sem] G8 G9
section
variable {H : Nat → AObj} {m : List (Option Nat)} {ex : List Nat} {f : Nat → Nat} {n : Nat}
@[go_sem] theorem zKV (k o : Nat) : XpF H m ex (.yld k) (.yld o) ↔ m[k]? = some (some o) := by simp only [XpF]
@[go_sem] theorem zKL (t t' : TypeId) (k o x x' : Nat) : XpF H m ex (.ifp t k x) (.ifp t' o x') ↔ m[k]? = some (some o) ∧ t = t' ∧ x = x' := by simp only [XpF]
@[go_sem] theorem zM2 (t : TypeId) (o x : Nat) : AV.ren f (.ifp t o x) = .ifp t (f o) x := by simp only [AV.ren]
@[go_sem] theorem zLT (t : TypeId) (o x : Nat) : zNW H (n + 1) (.ifp t o x) = (.ifp t o x, []) := rfl
@[go_sem] theorem zM9 (o : Nat) : AV.ren f (.yld o) = .yld (f o) := by simp only [AV.ren]
@[go_sem] theorem zLe (o : Nat) : zNW H (n + 1) (.yld o) = (.yld o, []) := rfl
end
section
variable {P : Program} {f : FuncId} {args : List AV} {fp : List AObj} {r : AV} {out : List AObj}
theorem zDw {w : World} {I : Nat → Prop} {loc : Nat → Loc} {v : Value} (h : VR w I loc (.list []) v) : ∃ a c, v = .slice a 0 c := by
 have hp := h.toPR (.list _)
 cases hp with
 | nil a c => exact ⟨a, c, rfl⟩
 | list b off cap sz _ C => exact ⟨_, _, rfl⟩
theorem zAy (h : ∀ a c, zNV P f (.raw (.slice a 0 c) :: args) fp r out) : zNV P f (.list [] :: args) fp r out := by
 intro w I loc vs hs hl hv
 have h0 : 0 < vs.size := by rw [hl]; simp
 have hv0 := hv 0 (by simp) h0
 simp only [List.getElem_cons_zero] at hv0
 obtain ⟨a, c, e⟩ := zDw hv0
 refine h a c w I loc vs hs (by simpa using hl) (fun i hi hi' => ?_)
 cases i with
 | zero => simp only [List.getElem_cons_zero]; rw [e]; exact .pure (.raw _ rfl)
 | succ i =>
  have := hv (i + 1) (by simpa using hi) hi'
  simp only [List.getElem_cons_succ] at this ⊢
  exact this
end
end Go.Abs

namespace Go.Abs
open Go
abbrev Str := List UInt8
abbrev sV (l : Str) : AV := .raw (.string ⟨l.toArray⟩)
@[go_sem, simp] theorem zKt (a b : List UInt8) : (⟨a.toArray⟩ : ByteArray) ++ ⟨b.toArray⟩ = ⟨(a ++ b).toArray⟩ := by
 apply ByteArray.ext
 rw [ByteArray.data_append]
 simp
@[go_sem, simp] theorem zKx (a : List UInt8) : (⟨a.toArray⟩ : ByteArray).size = a.length := by simp [ByteArray.size]
@[go_sem, simp] theorem zKu (a : List UInt8) : (⟨a.toArray⟩ : ByteArray).data.toList = a := rfl
@[go_sem, simp] theorem zKy (a : List UInt8) : (⟨a.toArray⟩ : ByteArray).toList = a := by rw [ByteArray.toList_eq]
@[go_sem, simp] theorem zKv (a : List UInt8) (i j : Nat) : (⟨a.toArray⟩ : ByteArray).extract i j = ⟨((a.take j).drop i).toArray⟩ := by
 apply ByteArray.ext
 rw [ByteArray.data_extract]
 simp [List.extract, List.drop_take]
@[simp] theorem zKw (a b : List UInt8) : ((⟨a.toArray⟩ : ByteArray) = ⟨b.toArray⟩) ↔ a = b := by
 constructor
 ·intro h
  have := congrArg (fun s : ByteArray => s.data.toList) h
  simpa using this
 ·rintro rfl; rfl
theorem zEY (s : ByteArray) : ∃ l : List UInt8, s = ⟨l.toArray⟩ := ⟨s.data.toList, by simp⟩
end Go.Abs

namespace Go.Abs
open Go Go.RowKit
theorem SR.grows {E : Env} {I : Nat → Prop} {loc : Nat → Loc} {σ : AS} {a : Act} {w w' : World} (h : SR E I loc σ a w) (ho : w'.os = w.os) (ht : w'.tape = w.tape) (hu : w'.output = w.output) (hz : w.heap.size ≤ w'.heap.size)
  (hk : ∀ k, k < w.heap.size → w'.heap[k]? = w.heap[k]?) (hd : S6 → w.drawn ≤ w'.drawn) : SR E I loc σ a w' := by
 have hI : ∀ b, I b → w'.heap[b]? = w.heap[b]? := fun b hb => hk b (h.imm b hb)
 exact ⟨h.defers.imp (fun r g1 g2 g3 g4 => ⟨by rw [hk r (Array.getElem?_eq_some_iff.1 g1).1]; exact g1, g2, g3, g4⟩), h.size, fun t => (h.tmps t).mono hI (fun _ x => x) (fun _ _ => rfl),
  fun o => (h.objs o).mono hI (fun _ x => x) (fun _ _ => rfl) (fun e => h.un e) (fun hl b c hb => hk b ((h.objs o).lt hl hb)), h.inj, fun b hb => by have := h.imm b hb; omega, h.sep,
  h.fr.of_same ho ht hu hz (fun b hb _ => hk b (by have := h.fr.size; omega)) hd, h.base, h.top, h.keep⟩
end Go.Abs

namespace Go.Abs
open Go Go.RowKit
def zDt (w : World) : Prop := ∀ p, p ∈ I3 → w.cell? ⟨p.1, 0, none⟩ = some p.2
theorem SR.laidW {E : Env} {I : Nat → Prop} {loc : Nat → Loc} {σ : AS} {a : Act} {w : World} (h : SR E I loc σ a w) : zDt w := fun p hp => by
 obtain ⟨l1, l2⟩ := h.fr.laid p hp
 have hlt : p.1 < E.w0.heap.size := by
  rcases Nat.lt_or_ge p.1 E.w0.heap.size with h | h
  ·exact h
  ·simp [World.cell?, Array.getElem?_eq_none h] at l1
 exact (I9 (h.fr.block p.1 hlt l2) 0).trans l1
abbrev zOs (w : World) : Nat → Prop := fun b => b < w.heap.size
end Go.Abs

namespace Go.Abs
open Go
def zOt (P : Program) (f : FuncId) (avs : List AV) (H : Nat → AObj) (nx : Nat) (K : Cont) : Prop :=
 ∃ (T : Type) (_ : T) (ids ex : List Nat) (args : List AV) (fp : List AObj) (r : T → AV) (out : T → List AObj), zA9 P f args fp r out ∧ (∀ t, MetX (fun _ _ _ _ => True) avs H nx ids ex args fp (r t) (out t)) ∧
  ∀ t, K ((r t).ren (w7 ids nx)) (ids ++ ex ++ i7 ids nx (out t)) (u7 ids nx (out t))
section
variable {P : Program} {E : Env} {I : Nat → Prop} {loc : Nat → Loc} {σ : AS} {a : Act} {w : World}
end
section
variable {P : Program} {E : Env} {Q : Exit → AS → Prop} {σ : AS} {p : List Nat} {b : Code}
end
end Go.Abs

