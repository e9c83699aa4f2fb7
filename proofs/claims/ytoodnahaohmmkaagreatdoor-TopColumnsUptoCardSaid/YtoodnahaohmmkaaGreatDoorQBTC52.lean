/-
  WHAT THE PROOF STANDS ON, PART 2: contracts of the program's functions and the logic that they are proved in. No condition.
-/
import Derived.Deep.AppendSrc
import Derived.Lib.OthersKept
import Derived.Lib.ConvBytes
import Derived.Maps.RangeRun
import Derived.MapKept
import Derived.Laws.Externs
import Derived.Lib.MakeNoZero
import Derived.Lib.UnsafeStr
import Derived.RangeFuncCalls
import Derived.Calls
import Derived.Test.YtoodnahaohmmkaaGreatDoorQBTC51
set_option maxRecDepth 100000
set_option maxHeartbeats 4000000
set_option linter.unnecessarySimpa false
set_option linter.unusedVariables false
set_option linter.unusedSimpArgs false
set_option linter.unusedSectionVars false
namespace Go.Abs
open Go
section
variable {P : Program} {E : Env} {I : Nat → Prop} {loc : Nat → Loc} {σ : AS} {a : Act} {w : World}
theorem zM6 {ys : List AV} {news : List Value} {sz : Nat} (h : Elems w I sz ys news) (h0 : 0 < sz) (hall : ∀ y, y ∈ ys → y.cells.length = sz ∧ y.cells.all AV.one = true) : ∀ u, u ∈ news → u.oneCell' = true := by
 intro u hu
 obtain ⟨k, hk, rfl⟩ := List.getElem_of_mem hu
 have hkl : k < ys.length * sz := by rw [← h.1]; exact hk
 have hd : k / sz < ys.length := by rw [Nat.div_lt_iff_lt_mul h0]; exact hkl
 have hm := Nat.mod_lt k h0
 obtain ⟨g1, g2⟩ := hall _ (List.getElem_mem hd)
 have e : k / sz * sz + k % sz = k := by have := Nat.div_add_mod k sz; rw [Nat.mul_comm] at this; omega
 have := h.2 (k / sz) hd (k % sz) (by omega) (by rw [e]; exact hk)
 simp only [e] at this
 exact this.one ((List.all_eq_true.1 g2) _ (List.getElem_mem (by omega)))
theorem Elems.append {xs ys : List AV} {os ns : List Value} {sz : Nat} (h1 : Elems w I sz xs os) (h2 : Elems w I sz ys ns) (hx : ∀ x, x ∈ xs → x.cells.length = sz) : Elems w I sz (xs ++ ys) (os ++ ns) := by
 refine ⟨by rw [List.length_append, List.length_append, h1.1, h2.1, Nat.add_mul], fun i hi j hj h' => ?_⟩
 have hcell : ∀ (x y : AV) (e : x = y) (g1 : j < x.cells.length) (g2 : j < y.cells.length), x.cells[j] = y.cells[j] := fun x y e g1 g2 => by subst e; rfl
 by_cases hlt : i < xs.length
 ·have e1 : (xs ++ ys)[i] = xs[i] := List.getElem_append_left hlt
  have hj' : j < (xs[i]).cells.length := by rw [← e1]; exact hj
  rw [hcell _ _ e1 hj hj']
  have hjs : j < sz := by rw [← hx _ (List.getElem_mem hlt)]; exact hj'
  have hb : i * sz + j < os.length := by
   rw [h1.1]
   have : (i + 1) * sz ≤ xs.length * sz := Nat.mul_le_mul_right _ hlt
   rw [Nat.add_mul] at this; omega
  rw [List.getElem_append_left hb]
  exact h1.2 i hlt j hj' hb
 ·have hi' : i - xs.length < ys.length := by simp at hi; omega
  have e1 : (xs ++ ys)[i] = ys[i - xs.length] := List.getElem_append_right (by omega)
  have hj' : j < (ys[i - xs.length]).cells.length := by rw [← e1]; exact hj
  rw [hcell _ _ e1 hj hj']
  have e2 : i * sz = xs.length * sz + (i - xs.length) * sz := by rw [← Nat.add_mul]; congr 1; omega
  have hb : ¬ i * sz + j < os.length := by rw [h1.1]; omega
  rw [List.getElem_append_right (by omega)]
  have e3 : i * sz + j - os.length = (i - xs.length) * sz + j := by rw [h1.1]; omega
  simp only [e3]
  exact h2.2 _ hi' j hj' (by simp at h'; rw [← e3]; omega)
theorem Elems.mono {w' : World} {I' : Nat → Prop} {xs : List AV} {os : List Value} {sz : Nat} (h : Elems w I sz xs os) (hw : ∀ b, I b → w'.heap[b]? = w.heap[b]?) (hI : ∀ b, I b → I' b) : Elems w' I' sz xs os :=
 ⟨h.1, fun i hi j hj h' => (h.2 i hi j hj h').mono hw hI⟩
theorem OR.row_of {o b e sz : Nat} {zs : List AV} {C : Array Value} {cs : List Value} (h0 : 0 < sz) (hz : ∀ z, z ∈ zs → z.cells.length = sz) (hl : loc o = .blk b C.size) (hb : w.heap[b]? = some (.cells C e (0, 0)))
  (hel : Elems w I sz zs cs) (hC : C.toList.take cs.length = cs) : OR w I loc o (.row sz zs) := by
 have hle : cs.length ≤ C.size := by
  have := congrArg List.length hC
  simp at this; omega
 refine ⟨h0, fun i hi => hz _ (List.getElem_mem hi), .inr ⟨b, C, e, hl, hb, by rw [← hel.1]; exact hle, fun i hi j hj h' => ?_⟩⟩
 have hjs : j < sz := by rw [← hz _ (List.getElem_mem hi)]; exact hj
 have hlt : i * sz + j < cs.length := by
  rw [hel.1]
  have : (i + 1) * sz ≤ zs.length * sz := Nat.mul_le_mul_right _ hi
  rw [Nat.add_mul] at this; omega
 have := hel.2 i hi j hj hlt
 have e1 : C[i * sz + j] = cs[i * sz + j] := by
  have h2 : cs[i * sz + j]? = C[i * sz + j]? := by
   have h3 := congrArg (fun l => l[i * sz + j]?) hC
   simp only [List.getElem?_take, if_pos hlt] at h3
   rw [← h3]; simp
  rw [List.getElem?_eq_getElem hlt, Array.getElem?_eq_getElem h'] at h2
  exact (Option.some.inj h2).symm
 rw [e1]; exact this
theorem OR.elems {o sz b c : Nat} {xs : List AV} (h : OR w I loc o (.row sz xs)) (hl : loc o = .blk b c) : ∃ C e, c = C.size ∧ w.heap[b]? = some (.cells C e (0, 0)) ∧ xs.length * sz ≤ C.size ∧ Elems w I sz xs (C.toList.take (xs.length * sz)) := by
 obtain ⟨h0, hx, h⟩ := h
 rcases h with ⟨h1, _⟩ | ⟨b', C, e, h1, h2, h3, h4⟩
 ·rw [hl] at h1; cases h1
 ·rw [hl] at h1; cases h1
  refine ⟨C, e, rfl, h2, h3, by simp; omega, fun i hi j hj h' => ?_⟩
  have : i * sz + j < C.size := by simp at h'; omega
  simp only [List.getElem_take, Array.getElem_toList]
  exact h4 i hi j hj this
theorem locSet_same {loc : Nat → Loc} {k : Nat} {L : Loc} : y1 loc k L k = L := if_pos rfl
theorem VR.own_inv {o sz off len : Nat} {u : Value} (h : VR w I loc (.own o sz off len) u) : (loc o = .nil ∧ off = 0 ∧ len = 0 ∧ u = .slice none 0 0) ∨
  ∃ b c ad cap, loc o = .blk b c ∧ u = .slice (some ad) len cap ∧ len ≤ cap ∧ (off + cap) * sz ≤ c ∧ (0 < cap → ad = ⟨b, off * sz, none⟩) := by
 cases h with
 | pure h => cases h
 | ownN _ _ h => exact .inl ⟨h, rfl, rfl, rfl⟩
 | own _ _ _ _ b c ad cap h h1 h2 h3 => exact .inr ⟨b, c, ad, cap, h, rfl, h1, h2, h3⟩
theorem zCI {t ty e nx : Nat} {i : TypeInfo} {z : Value} (ht : P.underlying t = some (.slice e)) (hi : P.info? e = some i) (hz : i.zero = some z) (hzs : z.cells.size = i.size) (h0 : 0 < i.size) (hs : SR E I loc σ a w) (hnx : σ.obj nx = .unb)
  {ys : List AV} {v : Value} (hall : ∀ y, y ∈ ys → y.cells.length = i.size ∧ y.cells.all AV.one = true)
  (hread : (ys = [] ∧ ∃ ad c, v = .slice ad 0 c) ∨ ∃ ad c news, v = .slice (some ad) ys.length c ∧ Elems w I i.size ys news ∧ ∀ j v, news[j]? = some v → w.cell? (ad.add j) = some v)
  (hb : ys.length * i.bytes ≤ 140737488355328) (h63 : ys.length ≤ 9223372036854775807) :
  ∃ w' loc' r, (Builtin.append_ #[t, t] ty #[.slice none 0 0, v]).run P w = .ok r w' ∧ SR E I loc' (σ.setO nx (.row i.size ys)) a w' ∧ VR w' I loc' (.own nx i.size 0 ys.length) r := by
 by_cases hy : ys = []
 ·subst hy
  refine ⟨w, y1 loc nx .nil, .slice none 0 0, ?_, hs.bornNil h0 hnx, .ownN _ _ (by simp [y1])⟩
  rcases hread with ⟨_, ad, c, rfl⟩ | ⟨ad, c, news, rfl, _, _⟩
  ·cases ad <;> simp [Builtin.append_, run_underlying ht, sizeOf, typeInfo, hi, Builtin.lenOf, Builtin.firstCells, loadCells, loadCellsFrom]
  ·simp [Builtin.append_, run_underlying ht, sizeOf, typeInfo, hi, Builtin.lenOf, Builtin.firstCells, loadCells, loadCellsFrom]
 ·have hpos : 0 < ys.length := List.length_pos_iff.2 hy
  rcases hread with ⟨h, _⟩ | ⟨ad, c, news, rfl, hel, hcells⟩
  ·exact absurd h hy
  ·have hrun := run_append_nil (P := P) w t ty e i z ht hi hz ad ys.length c news hel.1 hcells hpos (by omega) (by omega)
   have hs1 := hs.heap (w' := w.drew) rfl rfl rfl rfl
   refine ⟨_, y1 loc nx (.blk w.heap.size (news.toArray ++ Builtin.zeroCells z.cells (grownCap w ys.length 0 e - ys.length)).size), _, hrun, hs1.born hnx _ ?_, ?_⟩
   ·refine OR.row_of h0 (fun y hy => (hall y hy).1) (by simp [y1]) (heap_alloc_new w.drew _) (hel.mono (fun b hb => Z8 _ _ _ (hs.imm b hb)) (fun _ x => x)) (cs := news) ?_
    simp
   ·have hge := grownCap_ge w ys.length 0 e
    have hsize : (news.toArray ++ Builtin.zeroCells z.cells (grownCap w ys.length 0 e - ys.length)).size = grownCap w ys.length 0 e * i.size := by
     simp only [Array.size_append, List.size_toArray, size_zeroCells, hzs, hel.1, ← Nat.add_mul]
     congr 1; omega
    refine .own _ _ _ _ w.heap.size _ _ _ locSet_same hge ?_ (fun _ => by simp)
    rw [hsize]; simp
theorem zIg {t ty e nx o : Nat} {i : TypeInfo} {z : Value} (ht : P.underlying t = some (.slice e)) (hi : P.info? e = some i) (hz : i.zero = some z) (hzs : z.cells.size = i.size) (h0 : 0 < i.size) (hs : SR E I loc σ a w) (hnx : σ.obj nx = .unb)
    {xs ys : List AV} {v u : Value} (ho : σ.obj o = .row i.size xs) (hu : VR w I loc (.own o i.size 0 xs.length) u) (hall : ∀ y, y ∈ ys → y.cells.length = i.size ∧ y.cells.all AV.one = true)
    (hread : (ys = [] ∧ ∃ ad c, v = .slice ad 0 c) ∨ ∃ ad c news, v = .slice (some ad) ys.length c ∧ Elems w I i.size ys news ∧ ∀ j v, news[j]? = some v → w.cell? (ad.add j) = some v)
    (hb : (xs.length + ys.length) * i.bytes ≤ 140737488355328) (h63 : xs.length + ys.length ≤ 9223372036854775807) :
    ∃ w' loc' r, (Builtin.append_ #[t, t] ty #[u, v]).run P w = .ok r w' ∧ SR E I loc' ((σ.setO o .dead).setO nx (.row i.size (xs ++ ys))) a w' ∧ VR w' I loc' (.own nx i.size 0 (xs.length + ys.length)) r := by
  have hor := hs.objs o
  rw [ho] at hor
  have hxl : ∀ x, x ∈ xs → x.cells.length = i.size := fun x hx => by
    obtain ⟨k, hk, rfl⟩ := List.getElem_of_mem hx
    exact hor.2.1 k hk
  have hzl : ∀ y, y ∈ xs ++ ys → y.cells.length = i.size := fun y hy => by
    rcases List.mem_append.1 hy with hy | hy
    · exact hxl y hy
    · exact (hall y hy).1
  have hlive : (σ.obj o).live = true := by rw [ho]; rfl
  have hne : o ≠ nx := fun e => by rw [e, hnx] at ho; cases ho
  have hnx' : (σ.setO o .dead).obj nx = .unb := by rw [AS.obj_setO, if_neg hne]; exact hnx
  rcases hu.own_inv with ⟨hn, _, hx0, rfl⟩ | ⟨b, c, ad, cap, hl, rfl, g1, g2, g3⟩
  · have hx : xs = [] := by
      rcases hor.2.2 with ⟨_, h⟩ | ⟨b, C, e, h, _⟩
      · exact h
      · rw [hn] at h; cases h
    subst hx
    simp only [List.length_nil, Nat.zero_add, List.nil_append] at *
    exact zCI ht hi hz hzs h0 (hs.kill o) hnx' hall hread hb h63
  · obtain ⟨C, ec, rfl, hC, hfit, hel⟩ := hor.elems hl
    simp only [Nat.zero_add, Nat.zero_mul] at g2 g3
    by_cases hy : ys = []
    · subst hy
      simp only [List.append_nil, List.length_nil, Nat.add_zero] at *
      refine ⟨w, _, .slice (some ad) xs.length cap, ?_, hs.move ho hnx, .own _ _ _ _ b C.size _ _ (locSet_same.trans hl) g1 (by simpa using g2) (by simpa using g3)⟩
      rcases hread with ⟨_, ad', c, rfl⟩ | ⟨ad', c, news, rfl, _, _⟩
      · cases ad' <;> simp [Builtin.append_, run_underlying ht, sizeOf, typeInfo, hi, Builtin.lenOf, Builtin.firstCells, loadCells, loadCellsFrom, storeCells, g1]
      · simp [Builtin.append_, run_underlying ht, sizeOf, typeInfo, hi, Builtin.lenOf, Builtin.firstCells, loadCells, loadCellsFrom, storeCells, g1]
    · have hpos : 0 < ys.length := List.length_pos_iff.2 hy
      rcases hread with ⟨h, _⟩ | ⟨ad', c, news, rfl, heln, hcells⟩
      · exact absurd h hy
      · have hsep := hs.sep o b C.size hlive hl
        by_cases hroom : xs.length + ys.length ≤ cap
        · have had := g3 (by omega)
          subst had
          have hcapC : cap * i.size ≤ C.size := g2
          have hfit2 : xs.length * i.size + news.length ≤ C.size := by
            rw [heln.1, ← Nat.add_mul]
            exact Nat.le_trans (Nat.mul_le_mul_right _ hroom) hcapC
          have hrun := fun (hce : ec = e) => hce
          have hst := run_storeCells_at P b (xs.length * i.size) ec news 0 C w hC (by simpa using hfit2) (zM6 heln h0 hall)
          simp only [Nat.add_zero] at hst
          have hf := run_firstCells_some (P := P) w i.size ys.length ad' ys.length c news heln.1 hcells
          refine ⟨w.setRow b (C.toList.take (xs.length * i.size) ++ news ++ C.toList.drop (xs.length * i.size + news.length)).toArray, y1 loc nx (loc o), .slice (some ⟨b, 0, none⟩) (xs.length + ys.length) cap, ?_, ?_, .own _ _ _ _ b C.size _ _ (locSet_same.trans hl) hroom (by simpa using g2) (fun _ => by simp)⟩
          · simp [Builtin.append_, run_underlying ht, sizeOf, typeInfo, hi, Builtin.lenOf, hroom, hf, Q5, hst]
          · have hmono : ∀ k, I k → (w.setRow b (C.toList.take (xs.length * i.size) ++ news ++ C.toList.drop (xs.length * i.size + news.length)).toArray).heap[k]? = w.heap[k]? := fun k hk => setRow_other w b k _ (fun e => hsep.1 (e ▸ hk))
            have hnl : (C.toList.take (xs.length * i.size) ++ news ++ C.toList.drop (xs.length * i.size + news.length)).toArray.size = C.size := by simp; omega
            have hwr := hs.write hlive hl hC (A := .row i.size (xs ++ ys)) (OR.row_of h0 hzl (by rw [hnl]; exact hl) (setRow_heap w b C _ ec _ hC) ((hel.append heln hxl).mono hmono (fun _ x => x)) (by
              have e1 : (List.take (xs.length * i.size) C.toList ++ news).length = xs.length * i.size + news.length := by simp; omega
              rw [e1]
              have e2 : (C.toList.take (xs.length * i.size)).length = xs.length * i.size := by simp; omega
              simp only [List.append_assoc]
              rw [← List.append_assoc, ← e1]
              exact List.take_left)) (by simp)
            have hmv := hwr.move (o := o) (nx := nx) (sz := i.size) (xs := xs ++ ys) (by rw [AS.obj_setO, if_pos rfl]) (by rw [AS.obj_setO, if_neg hne]; exact hnx)
            refine hmv.congr rfl (fun _ => rfl) (fun k => ?_)
            simp only [AS.obj_setO]
            by_cases e1 : nx = k
            · rw [if_pos e1, if_pos e1]
            · rw [if_neg e1, if_neg e1]
              by_cases e2 : o = k
              · rw [if_pos e2, if_pos e2]
              · rw [if_neg e2, if_neg e2, if_neg e2]
        · have hg : cap < xs.length + ys.length := by omega
          have holds : ∀ j v, (C.toList.take (xs.length * i.size))[j]? = some v → w.cell? (ad.add j) = some v := fun j v hj => by
            rw [List.getElem?_take] at hj
            split at hj
            · rename_i hlt
              have hx0 : 0 < xs.length := by rcases Nat.eq_zero_or_pos xs.length with h | h; · rw [h] at hlt; simp at hlt
                                             · exact h
              have had := g3 (by omega)
              subst had
              rw [Q5]
              have hjC : j < C.size := by omega
              have : C.toList[j]? = some C[j] := by simp [hjC]
              rw [this] at hj; cases hj
              rw [Nat.zero_add]; exact U7 hC hjC
            · cases hj
          have hrun := run_append_grow (P := P) w t ty e i z ht hi hz ad xs.length cap (C.toList.take (xs.length * i.size)) hel.1 holds ad' ys.length c news heln.1 hcells hg (by omega) (growslice_fits hg hb)
          have hs1 := (hs.kill o).heap (w' := w.drew) rfl rfl rfl rfl
          have hge := grownCap_ge w (xs.length + ys.length) cap e
          have hsize : ((C.toList.take (xs.length * i.size)).toArray ++ news.toArray ++ Builtin.zeroCells z.cells (grownCap w (xs.length + ys.length) cap e - (xs.length + ys.length))).size = grownCap w (xs.length + ys.length) cap e * i.size := by
            simp only [Array.size_append, List.size_toArray, size_zeroCells, hzs, hel.1, heln.1, ← Nat.add_mul]
            congr 1; omega
          refine ⟨_, y1 loc nx (.blk w.heap.size ((C.toList.take (xs.length * i.size)).toArray ++ news.toArray ++ Builtin.zeroCells z.cells (grownCap w (xs.length + ys.length) cap e - (xs.length + ys.length))).size), _, hrun, hs1.born hnx' _ ?_, ?_⟩
          · refine OR.row_of h0 hzl (by simp only [y1, if_true]) (heap_alloc_new w.drew _) ((hel.append heln hxl).mono (fun b hb => Z8 _ _ _ (hs.imm b hb)) (fun _ x => x)) ?_
            simp only [Array.toList_append, List.append_assoc]
            rw [← List.append_assoc]
            exact List.take_left
          · refine .own _ _ _ _ w.heap.size _ _ _ locSet_same hge ?_ (fun _ => by simp)
            rw [hsize]; simp
theorem zIe {t ty e nx : Nat} {i : TypeInfo} {z : Value} (ht : P.underlying t = some (.slice e)) (hi : P.info? e = some i) (hz : i.zero = some z) (hzs : z.cells.size = i.size) (h0 : 0 < i.size) (hs : SR E I loc σ a w) (hnx : σ.obj nx = .unb)
  {xs ys : List AV} {v u : Value} (hu : VR w I loc (.clp xs) u) (hxl : ∀ x, x ∈ xs → x.cells.length = i.size) (hall : ∀ y, y ∈ ys → y.cells.length = i.size ∧ y.cells.all AV.one = true) (hne : ys ≠ [])
  (hread : (ys = [] ∧ ∃ ad c, v = .slice ad 0 c) ∨ ∃ ad c news, v = .slice (some ad) ys.length c ∧ Elems w I i.size ys news ∧ ∀ j v, news[j]? = some v → w.cell? (ad.add j) = some v)
  (hb : (xs.length + ys.length) * i.bytes ≤ 140737488355328) (h63 : xs.length + ys.length ≤ 9223372036854775807) :
  ∃ w' loc' r, (Builtin.append_ #[t, t] ty #[u, v]).run P w = .ok r w' ∧ SR E I loc' (σ.setO nx (.row i.size (xs ++ ys))) a w' ∧ VR w' I loc' (.own nx i.size 0 (xs.length + ys.length)) r := by
 have hzl : ∀ y, y ∈ xs ++ ys → y.cells.length = i.size := fun y hy => by
  rcases List.mem_append.1 hy with hy | hy
  ·exact hxl y hy
  ·exact (hall y hy).1
 have hpos : 0 < ys.length := List.length_pos_iff.2 hne
 cases hu with
 | pure hu =>
  cases hu with
  | clp _ ba hp =>
   have hrx := zBm (sz := i.size) hs (VR.pure hp) (ys := xs) (rd := []) (by simp only [l6]) hxl
   by_cases hba : ba = none
   ·subst hba
    have hx : xs = [] := by
     rcases hrx with ⟨h, _⟩ | ⟨ad, c, olds, h, _⟩
     ·exact h
     ·cases h
    subst hx
    simp only [List.length_nil, Nat.zero_add, List.nil_append] at *
    exact zCI ht hi hz hzs h0 hs hnx hall hread hb h63
   ·obtain ⟨ad, rfl⟩ := Option.ne_none_iff_exists'.1 hba
    have hold : ∃ olds, Elems w I i.size xs olds ∧ ∀ j v, olds[j]? = some v → w.cell? (ad.add j) = some v := by
     rcases hrx with ⟨rfl, _⟩ | ⟨ad', c, olds, h, h1, h2⟩
     ·exact ⟨[], ⟨by simp, fun i hi => by simp at hi⟩, fun j v hj => by simp at hj⟩
     ·cases h
      cases hp with
      | nil => exact ⟨[], ⟨by simp, fun i hi => by simp at hi⟩, fun j v hj => by simp at hj⟩
      | list b off _ sz' _ C hb' hs' hc hl hcell hr =>
       exact ⟨olds, ⟨h1.1, fun k hk j hj h' => by
        have := hl k hk
        have h3 := h1.2 k hk j hj h'
        have hjs : j < sz' := by rw [← this]; exact hj
        have h4 := hr k hk j hj
        have h5 := h2 (k * i.size + j) _ (List.getElem?_eq_getElem h')
        have h6 : sz' = i.size := by rw [← this]; exact hxl _ (List.getElem_mem hk)
        have h7 := hcell k j hk hjs
        rw [h6, Nat.add_assoc] at h7
        rw [Q5, h7] at h5
        have h8 : C k j = olds[k * i.size + j] := Option.some.inj h5
        rw [← h8]; exact h4⟩, h2⟩
    obtain ⟨olds, hel, holds⟩ := hold
    rcases hread with ⟨h, _⟩ | ⟨ad', c, news, rfl, heln, hcells⟩
    ·exact absurd h hne
    ·have hg : xs.length < xs.length + ys.length := by omega
     have hrun := run_append_grow (P := P) w t ty e i z ht hi hz ad xs.length xs.length olds hel.1 holds ad' ys.length c news heln.1 hcells hg (by omega) (growslice_fits hg hb)
     have hs1 := hs.heap (w' := w.drew) rfl rfl rfl rfl
     have hge := grownCap_ge w (xs.length + ys.length) xs.length e
     have hsize : (olds.toArray ++ news.toArray ++ Builtin.zeroCells z.cells (grownCap w (xs.length + ys.length) xs.length e - (xs.length + ys.length))).size = grownCap w (xs.length + ys.length) xs.length e * i.size := by
      simp only [Array.size_append, List.size_toArray, size_zeroCells, hzs, hel.1, heln.1, ← Nat.add_mul]
      congr 1; omega
     refine ⟨_, y1 loc nx (.blk w.heap.size (olds.toArray ++ news.toArray ++ Builtin.zeroCells z.cells (grownCap w (xs.length + ys.length) xs.length e - (xs.length + ys.length))).size), _, hrun, hs1.born hnx _ ?_, ?_⟩
     ·refine OR.row_of h0 hzl (by simp only [y1, if_true]) (heap_alloc_new w.drew _) ((hel.append heln hxl).mono (fun b hb => Z8 _ _ _ (hs.imm b hb)) (fun _ x => x)) ?_
      simp only [Array.toList_append, List.append_assoc]
      rw [← List.append_assoc]
      exact List.take_left
     ·refine .own _ _ _ _ w.heap.size _ _ _ locSet_same hge ?_ (fun _ => by simp)
      rw [hsize]; simp
def ElemsV (w : World) (I : Nat → Prop) (loc : Nat → Loc) (ys : List AV) (news : List Value) : Prop :=
 news.length = ys.length ∧ ∀ i (h : i < ys.length) (h' : i < news.length), VR w I loc ys[i] news[i]
theorem Elems.toV {ys : List AV} {news : List Value} (h : Elems w I 1 ys news) (hall : ∀ y, y ∈ ys → y.one = true) : ElemsV w I loc ys news := by
 refine ⟨by rw [h.1]; omega, fun i hi hi' => ?_⟩
 obtain ⟨g0, e1⟩ := AV.cells_zero (hall _ (List.getElem_mem hi))
 have := h.2 i hi 0 g0 (by omega)
 have e2 : i * 1 + 0 = i := by omega
 simp only [e2] at this
 rw [e1] at this
 exact .pure this
theorem zM7 {ys : List AV} {news : List Value} (h : ElemsV w I loc ys news) (hone : ∀ y, y ∈ ys → y.one = true) : ∀ u, u ∈ news → u.oneCell' = true := fun u hu => by
 obtain ⟨i, hi, rfl⟩ := List.getElem_of_mem hu
 have e := h.1
 exact (h.2 i (by omega) hi).one (hone _ (List.getElem_mem _))
theorem ElemsW.toV {ys : List AV} {news : List Value} (h : ElemsW w I loc 1 ys news) (hall : ∀ y, y ∈ ys → y.one = true) : ElemsV w I loc ys news := by
 refine ⟨by rw [h.1]; omega, fun i hi hi' => ?_⟩
 obtain ⟨g0, e1⟩ := AV.cells_zero (hall _ (List.getElem_mem hi))
 have := h.2 i hi 0 g0 (by omega)
 have e2 : i * 1 + 0 = i := by omega
 simp only [e2] at this
 rw [e1] at this
 exact this
theorem ElemsV.append {xs ys : List AV} {os ns : List Value} (h1 : ElemsV w I loc xs os) (h2 : ElemsV w I loc ys ns) : ElemsV w I loc (xs ++ ys) (os ++ ns) := by
 refine ⟨by simp [h1.1, h2.1], fun i hi hi' => ?_⟩
 have e := h1.1
 by_cases hlt : i < xs.length
 ·rw [List.getElem_append_left hlt, List.getElem_append_left (by omega)]
  exact h1.2 i hlt _
 ·rw [List.getElem_append_right (by omega), List.getElem_append_right (by omega)]
  have e3 : i - os.length = i - xs.length := by omega
  simp only [e3]
  exact h2.2 _ _ _
theorem ElemsV.mono {w' : World} {I' : Nat → Prop} {loc' : Nat → Loc} {xs : List AV} {os : List Value} (h : ElemsV w I loc xs os) (hw : ∀ b, I b → w'.heap[b]? = w.heap[b]?) (hI : ∀ b, I b → I' b) (hl : ∀ o, loc o ≠ .un → loc' o = loc o) : ElemsV w' I' loc' xs os :=
 ⟨h.1, fun i hi hi' => (h.2 i hi hi').mono hw hI hl⟩
theorem OR.box_of {o b e : Nat} {zs : List AV} {C : Array Value} {cs : List Value} (hl : loc o = .blk b C.size) (hb : w.heap[b]? = some (.cells C e (0, 0)))
  (hel : ElemsV w I loc zs cs) (hC : C.toList.take cs.length = cs) : OR w I loc o (.box zs) := by
 have hle : cs.length ≤ C.size := by
  have := congrArg List.length hC
  simp at this; omega
 refine .inr ⟨b, C, e, hl, hb, by rw [← hel.1]; exact hle, fun i hi h' => ?_⟩
 have hlt : i < cs.length := by rw [hel.1]; exact hi
 have := hel.2 i hi hlt
 have e1 : C[i] = cs[i] := by
  have h2 : cs[i]? = C[i]? := by
   have h3 := congrArg (fun l => l[i]?) hC
   simp only [List.getElem?_take, if_pos hlt] at h3
   rw [← h3]; simp
  rw [List.getElem?_eq_getElem hlt, Array.getElem?_eq_getElem h'] at h2
  exact (Option.some.inj h2).symm
 rw [e1]; exact this
theorem OR.elemsV {o b c : Nat} {xs : List AV} (h : OR w I loc o (.box xs)) (hl : loc o = .blk b c) : ∃ C e, c = C.size ∧ w.heap[b]? = some (.cells C e (0, 0)) ∧ xs.length ≤ C.size ∧ ElemsV w I loc xs (C.toList.take xs.length) := by
 rcases h with ⟨h1, _⟩ | ⟨b', C, e, h1, h2, h3, h4⟩
 ·rw [hl] at h1; cases h1
 ·rw [hl] at h1; cases h1
  refine ⟨C, e, rfl, h2, h3, by simp; omega, fun i hi h' => ?_⟩
  have : i < C.size := by omega
  simp only [List.getElem_take, Array.getElem_toList]
  exact h4 i hi this
theorem zF9 {nx : Nat} {L : Loc} (hs : SR E I loc σ a w) (hn : σ.obj nx = .unb) : ∀ o, loc o ≠ .un → y1 loc nx L o = loc o := fun o ho => by
 unfold y1; rw [if_neg]; intro e; subst e; exact ho (hs.un hn)
theorem zEN {t ty e nx : Nat} {i : TypeInfo} {z : Value} (ht : P.underlying t = some (.slice e)) (hi : P.info? e = some i) (hz : i.zero = some z) (hzs : z.cells.size = i.size) (h1s : i.size = 1) (hs : SR E I loc σ a w) (hnx : σ.obj nx = .unb)
  {ys : List AV} {v : Value} (hall : ∀ y, y ∈ ys → y.cells.length = i.size ∧ y.cells.all AV.one = true) (hone : ∀ y, y ∈ ys → y.one = true)
  (hread : (ys = [] ∧ ∃ ad c, v = .slice ad 0 c) ∨ ∃ ad c news, v = .slice (some ad) ys.length c ∧ ElemsV w I loc ys news ∧ ∀ j v, news[j]? = some v → w.cell? (ad.add j) = some v)
  (hb : ys.length * i.bytes ≤ 140737488355328) (h63 : ys.length ≤ 9223372036854775807) :
  ∃ w' loc' r, (Builtin.append_ #[t, t] ty #[.slice none 0 0, v]).run P w = .ok r w' ∧ SR E I loc' (σ.setO nx (.box ys)) a w' ∧ VR w' I loc' (.own nx 1 0 ys.length) r := by
 have h0 : 0 < i.size := by omega
 by_cases hy : ys = []
 ·subst hy
  refine ⟨w, y1 loc nx .nil, .slice none 0 0, ?_, hs.bornNilG (.inl ⟨locSet_same, rfl⟩) hnx, .ownN _ _ (by simp [y1])⟩
  rcases hread with ⟨_, ad, c, rfl⟩ | ⟨ad, c, news, rfl, _, _⟩
  ·cases ad <;> simp [Builtin.append_, run_underlying ht, sizeOf, typeInfo, hi, Builtin.lenOf, Builtin.firstCells, loadCells, loadCellsFrom]
  ·simp [Builtin.append_, run_underlying ht, sizeOf, typeInfo, hi, Builtin.lenOf, Builtin.firstCells, loadCells, loadCellsFrom]
 ·have hpos : 0 < ys.length := List.length_pos_iff.2 hy
  rcases hread with ⟨h, _⟩ | ⟨ad, c, news, rfl, hel, hcells⟩
  ·exact absurd h hy
  ·have hrun := run_append_nil (P := P) w t ty e i z ht hi hz ad ys.length c news (by rw [h1s, Nat.mul_one]; exact hel.1) hcells hpos (by omega) (by omega)
   have hs1 := hs.heap (w' := w.drew) rfl rfl rfl rfl
   refine ⟨_, y1 loc nx (.blk w.heap.size (news.toArray ++ Builtin.zeroCells z.cells (grownCap w ys.length 0 e - ys.length)).size), _, hrun, hs1.born hnx _ ?_, ?_⟩
   ·refine OR.box_of (by simp [y1]) (heap_alloc_new w.drew _) (hel.mono (fun b hb => Z8 _ _ _ (hs.imm b hb)) (fun _ x => x) (zF9 hs hnx)) (cs := news) ?_
    simp
   ·have hge := grownCap_ge w ys.length 0 e
    have hsize : (news.toArray ++ Builtin.zeroCells z.cells (grownCap w ys.length 0 e - ys.length)).size = grownCap w ys.length 0 e * i.size := by
     simp only [Array.size_append, List.size_toArray, size_zeroCells, hzs, hel.1]
     rw [h1s]; omega
    refine .own _ _ _ _ w.heap.size _ _ _ locSet_same hge ?_ (fun _ => by simp)
    rw [hsize, h1s]; simp
theorem zIf {t ty e nx o : Nat} {i : TypeInfo} {z : Value} (ht : P.underlying t = some (.slice e)) (hi : P.info? e = some i) (hz : i.zero = some z) (hzs : z.cells.size = i.size) (h1s : i.size = 1) (hs : SR E I loc σ a w) (hnx : σ.obj nx = .unb)
    {xs ys : List AV} {v u : Value} (ho : σ.obj o = .box xs) (hu : VR w I loc (.own o 1 0 xs.length) u) (hall : ∀ y, y ∈ ys → y.cells.length = i.size ∧ y.cells.all AV.one = true) (hone : ∀ y, y ∈ ys → y.one = true)
    (hread : (ys = [] ∧ ∃ ad c, v = .slice ad 0 c) ∨ ∃ ad c news, v = .slice (some ad) ys.length c ∧ ElemsV w I loc ys news ∧ ∀ j v, news[j]? = some v → w.cell? (ad.add j) = some v)
    (hb : (xs.length + ys.length) * i.bytes ≤ 140737488355328) (h63 : xs.length + ys.length ≤ 9223372036854775807) :
    ∃ w' loc' r, (Builtin.append_ #[t, t] ty #[u, v]).run P w = .ok r w' ∧ SR E I loc' ((σ.setO o .dead).setO nx (.box (xs ++ ys))) a w' ∧ VR w' I loc' (.own nx 1 0 (xs.length + ys.length)) r := by
  have hor := hs.objs o
  rw [ho] at hor
  have h0 : 0 < i.size := by omega
  have hlive : (σ.obj o).live = true := by rw [ho]; rfl
  have hne : o ≠ nx := fun e => by rw [e, hnx] at ho; cases ho
  have hnx' : (σ.setO o .dead).obj nx = .unb := by rw [AS.obj_setO, if_neg hne]; exact hnx
  rcases hu.own_inv with ⟨hn, _, hx0, rfl⟩ | ⟨b, c, ad, cap, hl, rfl, g1, g2, g3⟩
  · have hx : xs = [] := by
      rcases hor with ⟨_, h⟩ | ⟨b, C, e, h, _⟩
      · exact h
      · rw [hn] at h; cases h
    subst hx
    simp only [List.length_nil, Nat.zero_add, List.nil_append] at *
    exact zEN ht hi hz hzs h1s (hs.kill o) hnx' hall hone hread hb h63
  · obtain ⟨C, ec, rfl, hC, hfit, hel⟩ := hor.elemsV hl
    simp only [Nat.zero_add, Nat.zero_mul] at g2 g3
    by_cases hy : ys = []
    · subst hy
      simp only [List.append_nil, List.length_nil, Nat.add_zero] at *
      refine ⟨w, _, .slice (some ad) xs.length cap, ?_, hs.moveBox ho hnx, .own _ _ _ _ b C.size _ _ (locSet_same.trans hl) g1 (by simpa using g2) (by simpa using g3)⟩
      rcases hread with ⟨_, ad', c, rfl⟩ | ⟨ad', c, news, rfl, _, _⟩
      · cases ad' <;> simp [Builtin.append_, run_underlying ht, sizeOf, typeInfo, hi, Builtin.lenOf, Builtin.firstCells, loadCells, loadCellsFrom, storeCells, g1]
      · simp [Builtin.append_, run_underlying ht, sizeOf, typeInfo, hi, Builtin.lenOf, Builtin.firstCells, loadCells, loadCellsFrom, storeCells, g1]
    · have hpos : 0 < ys.length := List.length_pos_iff.2 hy
      rcases hread with ⟨h, _⟩ | ⟨ad', c, news, rfl, heln, hcells⟩
      · exact absurd h hy
      · have hsep := hs.sep o b C.size hlive hl
        by_cases hroom : xs.length + ys.length ≤ cap
        · have had := g3 (by omega)
          subst had
          have hcapC : cap ≤ C.size := by omega
          have heln1 : news.length = ys.length := heln.1
          have helnV : ElemsV w I loc ys news := heln
          have hfit2 : xs.length + news.length ≤ C.size := by omega
          have hrun := fun (hce : ec = e) => hce
          have hst := run_storeCells_at P b (xs.length) ec news 0 C w hC (by simpa using hfit2) (zM7 heln hone)
          simp only [Nat.add_zero] at hst
          have hf := run_firstCells_some (P := P) w i.size ys.length ad' ys.length c news (by rw [h1s, Nat.mul_one]; exact heln.1) hcells
          refine ⟨w.setRow b (C.toList.take (xs.length) ++ news ++ C.toList.drop (xs.length + news.length)).toArray, y1 loc nx (loc o), .slice (some ⟨b, 0, none⟩) (xs.length + ys.length) cap, ?_, ?_, .own _ _ _ _ b C.size _ _ (locSet_same.trans hl) hroom (by simpa using g2) (fun _ => by simp)⟩
          · have hst' := hst
            rw [show (⟨b, xs.length, none⟩ : Addr) = ⟨b, xs.length * i.size, none⟩ by rw [h1s, Nat.mul_one]] at hst'
            simp [Builtin.append_, run_underlying ht, sizeOf, typeInfo, hi, Builtin.lenOf, hroom, hf, Q5, hst']
          · have hmono : ∀ k, I k → (w.setRow b (C.toList.take (xs.length) ++ news ++ C.toList.drop (xs.length + news.length)).toArray).heap[k]? = w.heap[k]? := fun k hk => setRow_other w b k _ (fun e => hsep.1 (e ▸ hk))
            have hnl : (C.toList.take (xs.length) ++ news ++ C.toList.drop (xs.length + news.length)).toArray.size = C.size := by simp; omega
            have hwr := hs.write hlive hl hC (A := .box (xs ++ ys)) (OR.box_of (by rw [hnl]; exact hl) (setRow_heap w b C _ ec _ hC) ((hel.append helnV).mono hmono (fun _ x => x) (fun _ _ => rfl)) (by
              have e1 : (List.take (xs.length) C.toList ++ news).length = xs.length + news.length := by simp; omega
              rw [e1]
              have e2 : (C.toList.take (xs.length)).length = xs.length := by simp; omega
              simp only [List.append_assoc]
              rw [← List.append_assoc, ← e1]
              exact List.take_left)) (by simp)
            have hmv := hwr.moveBox (o := o) (nx := nx) (xs := xs ++ ys) (by rw [AS.obj_setO, if_pos rfl]) (by rw [AS.obj_setO, if_neg hne]; exact hnx)
            refine hmv.congr rfl (fun _ => rfl) (fun k => ?_)
            simp only [AS.obj_setO]
            by_cases e1 : nx = k
            · rw [if_pos e1, if_pos e1]
            · rw [if_neg e1, if_neg e1]
              by_cases e2 : o = k
              · rw [if_pos e2, if_pos e2]
              · rw [if_neg e2, if_neg e2, if_neg e2]
        · have hg : cap < xs.length + ys.length := by omega
          have heln1 : news.length = ys.length := heln.1
          have helnV : ElemsV w I loc ys news := heln
          have hel1 : (C.toList.take xs.length).length = xs.length * i.size := by rw [h1s]; have := hel.1; omega
          have holds : ∀ j v, (C.toList.take (xs.length))[j]? = some v → w.cell? (ad.add j) = some v := fun j v hj => by
            rw [List.getElem?_take] at hj
            split at hj
            · rename_i hlt
              have hx0 : 0 < xs.length := by rcases Nat.eq_zero_or_pos xs.length with h | h; · rw [h] at hlt; simp at hlt
                                             · exact h
              have had := g3 (by omega)
              subst had
              rw [Q5]
              have hjC : j < C.size := by omega
              have : C.toList[j]? = some C[j] := by simp [hjC]
              rw [this] at hj; cases hj
              rw [Nat.zero_add]; exact U7 hC hjC
            · cases hj
          have hrun := run_append_grow (P := P) w t ty e i z ht hi hz ad xs.length cap (C.toList.take xs.length) hel1 holds ad' ys.length c news (by rw [h1s, Nat.mul_one]; exact heln.1) hcells hg (by omega) (growslice_fits hg hb)
          have hs1 := (hs.kill o).heap (w' := w.drew) rfl rfl rfl rfl
          have hge := grownCap_ge w (xs.length + ys.length) cap e
          have hsize : ((C.toList.take (xs.length)).toArray ++ news.toArray ++ Builtin.zeroCells z.cells (grownCap w (xs.length + ys.length) cap e - (xs.length + ys.length))).size = grownCap w (xs.length + ys.length) cap e * i.size := by
            simp only [Array.size_append, List.size_toArray, size_zeroCells, hzs, hel.1, heln1, h1s]
            omega
          refine ⟨_, y1 loc nx (.blk w.heap.size ((C.toList.take (xs.length)).toArray ++ news.toArray ++ Builtin.zeroCells z.cells (grownCap w (xs.length + ys.length) cap e - (xs.length + ys.length))).size), _, hrun, hs1.born hnx' _ ?_, ?_⟩
          · refine OR.box_of (by simp only [y1, if_true]) (heap_alloc_new w.drew _) ((hel.append helnV).mono (fun b hb => Z8 _ _ _ (hs.imm b hb)) (fun _ x => x) (zF9 hs hnx)) ?_
            simp only [Array.toList_append, List.append_assoc]
            rw [← List.append_assoc]
            exact List.take_left
          · refine .own _ _ _ _ w.heap.size _ _ _ locSet_same hge ?_ (fun _ => by simp)
            rw [hsize, h1s]; simp
theorem zIZ {t ty nx : Nat} {s x : AV} {u v : Value} {K : Cont} (hs : SR E I loc σ a w) (hu : VR w I loc s u) (hv : VR w I loc x v) (h : appendA P t s x σ.obj nx K) :
    ∃ z rd wr w' loc' r, K z rd wr ∧ (Builtin.append_ #[t, t] ty #[u, v]).run P w = .ok r w' ∧ SR E I loc' (σ.writes wr) a w' ∧ VR w' I loc' z r := by
  unfold appendA at h
  cases ht : sliceT P t with
  | none => simp only [ht] at h
  | some e =>
    simp only [ht] at h
    cases hsz : sizeT P e with
    | none => simp only [hsz] at h
    | some sz =>
      cases hby : bytesT P e with
      | none => simp only [hsz, hby] at h
      | some by_ =>
        cases hz : zeroT P e with
        | none => simp only [hsz, hby, hz] at h
        | some z =>
          cases hrd : l6 σ.obj ((some sz).getD 0) x with
          | none => simp only [hsz, hby, hz, hrd] at h
          | some yr =>
            obtain ⟨ys, rd⟩ := yr
            simp only [hsz, hby, hz, hrd] at h
            obtain ⟨h0, hzs, hall, h⟩ := h
            obtain ⟨i, hi, his⟩ := zBY hsz
            have hib : i.bytes = by_ := by unfold bytesT at hby; rw [hi] at hby; simpa using hby
            have hiz : i.zero = some z := by unfold zeroT at hz; rw [hi] at hz; simpa using hz
            have htt := V5 ht
            subst his; subst hib
            have hreadW := zBm hs hv hrd (fun y hy => (hall y hy).1)
            split at h
            · have hreadV : i.size = 1 → (∀ y, y ∈ ys → y.one = true) → ((ys = [] ∧ ∃ ad c, v = .slice ad 0 c) ∨ ∃ ad c news, v = .slice (some ad) ys.length c ∧ ElemsV w I loc ys news ∧ ∀ j v, news[j]? = some v → w.cell? (ad.add j) = some v) := fun h1 ho => by
                rcases hreadW with hr | ⟨ad, c, news, q1, q2, q3⟩
                · exact .inl hr
                · exact .inr ⟨ad, c, news, q1, by simp only [Option.getD_some, h1] at q2; exact q2.toV ho, q3⟩
              split at h
              · rename_i o sz' len
                generalize hA : σ.obj o = A at h
                cases A with
                | box cs =>
                  obtain ⟨rfl, h1s, rfl, hone, hnx, hb, h63, hK⟩ := h
                  obtain ⟨w', loc', r, h1, h2, h3⟩ := zIf (ty := ty) htt hi hiz hzs h1s hs hnx hA hu hall hone (hreadV h1s hone) hb h63
                  exact ⟨_, _, _, w', loc', r, hK, h1, h2, h3⟩
                | _ => exact h.elim
              · obtain ⟨h1s, hone, hnx, hb, h63, hK⟩ := h
                have e1 := hu.raw_eq; subst e1
                obtain ⟨w', loc', r, h1, h2, h3⟩ := zEN (ty := ty) htt hi hiz hzs h1s hs hnx hall hone (hreadV h1s hone) hb h63
                exact ⟨_, _, _, w', loc', r, hK, h1, h2, h3⟩
              · exact h.elim
            · have hread : (ys = [] ∧ ∃ ad c, v = .slice ad 0 c) ∨ ∃ ad c news, v = .slice (some ad) ys.length c ∧ Elems w I i.size ys news ∧ ∀ j v, news[j]? = some v → w.cell? (ad.add j) = some v := by
                rcases hreadW with hr | ⟨ad, c, news, q1, q2, q3⟩
                · exact .inl hr
                · exact .inr ⟨ad, c, news, q1, q2.pure h.1, q3⟩
              replace h := h.2
              split at h
              · rename_i o sz' len
                generalize hA : σ.obj o = A at h
                cases A with
                | row sz'' xs =>
                  obtain ⟨rfl, rfl, rfl, hnx, hb, h63, hK⟩ := h
                  obtain ⟨w', loc', r, h1, h2, h3⟩ := zIg (ty := ty) htt hi hiz hzs h0 hs hnx hA hu hall hread hb h63
                  exact ⟨_, _, _, w', loc', r, hK, h1, h2, h3⟩
                | _ => exact h.elim
              · obtain ⟨hnx, hb, h63, hK⟩ := h
                have e1 := hu.raw_eq; subst e1
                obtain ⟨w', loc', r, h1, h2, h3⟩ := zCI (ty := ty) htt hi hiz hzs h0 hs hnx hall hread hb h63
                exact ⟨_, _, _, w', loc', r, hK, h1, h2, h3⟩
              · obtain ⟨hxl, hne, hnx, hb, h63, hK⟩ := h
                obtain ⟨w', loc', r, h1, h2, h3⟩ := zIe (ty := ty) htt hi hiz hzs h0 hs hnx hu hxl hall hne hread hb h63
                exact ⟨_, _, _, w', loc', r, hK, h1, h2, h3⟩
              · exact h.elim
abbrev bcs (l : List UInt8) : List Value := l.map fun c => Value.int .u8 c.toNat
theorem zEM {t tx ty e nx : Nat} {i : TypeInfo} (ht : P.underlying t = some (.slice e)) (hi : P.info? e = some i) (hz : i.zero = some (.int .u8 0)) (h1 : i.size = 1) (hb1 : i.bytes = 1) (hs : SR E I loc σ a w) (hnx : σ.obj nx = .unb)
  {l2 : List UInt8} {v : Value} (hsrc : Src P i.size tx v l2.length (bcs l2) w) (hne : l2 ≠ []) (hb : l2.length ≤ 140737488355328) :
  ∃ w' loc' r, (Builtin.append_ #[t, tx] ty #[.slice none 0 0, v]).run P w = .ok r w' ∧ SR E I loc' (σ.setO nx (.brow e l2)) a w' ∧ VR w' I loc' (.own nx 1 0 l2.length) r := by
 have hpos : 0 < l2.length := List.length_pos_iff.2 hne
 have hrun := run_append_grow_src (P := P) w t tx ty e i _ ht hi hz none 0 0 [] (run_firstCells_none w.drew i.size 0 0 0) v l2.length (bcs l2) hsrc (by omega) (by omega) (growslice_fits (by omega) (by rw [Nat.zero_add, hb1]; omega))
 simp only [Nat.zero_add, List.nil_append] at hrun
 have hs1 := hs.heap (w' := w.drew) rfl rfl rfl rfl
 have hge := grownCap_ge w l2.length 0 e
 have hsize : ((bcs l2).toArray ++ Builtin.zeroCells (Value.int .u8 0).cells (grownCap w l2.length 0 e - l2.length)).size = grownCap w l2.length 0 e := by
  simp only [Array.size_append, List.size_toArray, size_zeroCells, List.length_map]
  have : (Value.int .u8 0).cells.size = 1 := rfl
  rw [this]; omega
 refine ⟨_, y1 loc nx (.blk w.heap.size ((bcs l2).toArray ++ Builtin.zeroCells (Value.int .u8 0).cells (grownCap w l2.length 0 e - l2.length)).size), _, hrun, hs1.born hnx _ (.inr ⟨_, _, by simp only [y1, if_true], heap_alloc_new w.drew _, ?_⟩), ?_⟩
 ·have : l2.length = (bcs l2).length := by simp
  rw [this, Array.toList_append]
  exact List.take_left
 ·refine .own _ _ _ _ w.heap.size _ _ _ locSet_same hge ?_ (fun _ => by simp)
  rw [hsize]; omega
theorem zId {t tx ty e nx o : Nat} {i : TypeInfo} (ht : P.underlying t = some (.slice e)) (hi : P.info? e = some i) (hz : i.zero = some (.int .u8 0)) (h1 : i.size = 1) (hb1 : i.bytes = 1) (hs : SR E I loc σ a w) (hnx : σ.obj nx = .unb)
    {l l2 : List UInt8} {v u : Value} (ho : σ.obj o = .brow e l) (hu : VR w I loc (.own o 1 0 l.length) u) (hsrc : Src P i.size tx v l2.length (bcs l2) w) (hne : l2 ≠ []) (hb : l.length + l2.length ≤ 140737488355328) :
    ∃ w' loc' r, (Builtin.append_ #[t, tx] ty #[u, v]).run P w = .ok r w' ∧ SR E I loc' ((σ.setO o .dead).setO nx (.brow e (l ++ l2))) a w' ∧ VR w' I loc' (.own nx 1 0 (l.length + l2.length)) r := by
  have hpos : 0 < l2.length := List.length_pos_iff.2 hne
  have hor := hs.objs o
  rw [ho] at hor
  have hlive : (σ.obj o).live = true := by rw [ho]; rfl
  have hno : o ≠ nx := fun e => by rw [e, hnx] at ho; cases ho
  have hnx' : (σ.setO o .dead).obj nx = .unb := by rw [AS.obj_setO, if_neg hno]; exact hnx
  rcases hu.own_inv with ⟨hn, _, hx0, rfl⟩ | ⟨b, c, ad, cap, hl, rfl, g1, g2, g3⟩
  · have hx : l = [] := List.eq_nil_of_length_eq_zero hx0
    subst hx
    simp only [List.length_nil, Nat.zero_add, List.nil_append] at *
    exact zEM ht hi hz h1 hb1 (hs.kill o) hnx' hsrc hne hb
  · rcases hor with ⟨hn, _⟩ | ⟨b', C, hl', hC, hel⟩
    · rw [hl] at hn; cases hn
    rw [hl] at hl'; cases hl'
    simp only [Nat.zero_add, Nat.zero_mul, Nat.mul_one] at g2 g3
    have hlC : l.length ≤ C.size := by omega
    have hsep := hs.sep o b C.size hlive hl
    have hone : ∀ x, x ∈ bcs l2 → x.oneCell' = true := hsrc.one
    have hl2 : (bcs l2).length = l2.length := by simp
    by_cases hroom : l.length + l2.length ≤ cap
    · have had := g3 (by omega)
      subst had
      have hst := run_storeCells_at P b l.length e (bcs l2) 0 C w hC (by rw [hl2]; omega) hone
      simp only [Nat.add_zero] at hst
      have hf := hsrc.cells
      have hlen := hsrc.len
      have hnl : (C.toList.take l.length ++ bcs l2 ++ C.toList.drop (l.length + (bcs l2).length)).toArray.size = C.size := by simp; omega
      refine ⟨w.setRow b (C.toList.take l.length ++ bcs l2 ++ C.toList.drop (l.length + (bcs l2).length)).toArray, y1 loc nx (loc o), .slice (some ⟨b, 0, none⟩) (l.length + l2.length) cap, ?_, ?_, .own _ _ _ _ b C.size _ _ (locSet_same.trans hl) hroom (by simpa using g2) (fun _ => by simp)⟩
      · have hst' := hst
        rw [show (⟨b, l.length, none⟩ : Addr) = ⟨b, l.length * i.size, none⟩ by rw [h1, Nat.mul_one]] at hst'
        rcases hsrc.kind with ⟨e', hk⟩ | hk <;> simp [Builtin.append_, run_underlying ht, run_underlying hk, sizeOf, typeInfo, hi, hlen, hroom, hf, Q5, hst']
      · have hOR : OR (w.setRow b (C.toList.take l.length ++ bcs l2 ++ C.toList.drop (l.length + (bcs l2).length)).toArray) I loc o (.brow e (l ++ l2)) := by
          refine .inr ⟨b, _, by rw [hnl]; exact hl, setRow_heap w b C _ e _ hC, ?_⟩
          rw [hel, List.map_append]
          have e1 : (l ++ l2).length = (List.map (fun c => Value.int .u8 c.toNat) l ++ bcs l2).length := by simp
          rw [e1]
          exact List.take_left
        have hwr := hs.write hlive hl hC hOR (by simp)
        have hmv := hwr.moveG (o := o) (nx := nx) (A := .brow e (l ++ l2)) (by rw [AS.obj_setO, if_pos rfl]) rfl (fun loc' e2 _ q => by
          rcases q with ⟨q1, q2⟩ | ⟨b2, C2, q1, q2⟩
          · exact .inl ⟨by rw [e2, q1], q2⟩
          · exact .inr ⟨b2, C2, by rw [e2, q1], q2⟩) (by rw [AS.obj_setO, if_neg hno]; exact hnx)
        refine hmv.congr rfl (fun _ => rfl) (fun k => ?_)
        simp only [AS.obj_setO]
        by_cases e1 : nx = k
        · rw [if_pos e1, if_pos e1]
        · rw [if_neg e1, if_neg e1]
          by_cases e2 : o = k
          · rw [if_pos e2, if_pos e2]
          · rw [if_neg e2, if_neg e2, if_neg e2]
    · have hg : cap < l.length + l2.length := by omega
      have holds : ∀ j v, (bcs l)[j]? = some v → w.cell? (ad.add j) = some v := fun j v hj => by
        have hjl : j < l.length := by
          have := (List.getElem?_eq_some_iff.1 hj).1
          simpa using this
        have had := g3 (by omega)
        subst had
        rw [Q5, Nat.zero_add]
        have hjC : j < C.size := by omega
        rw [U7 hC hjC, ← hj]
        have h4 := congrArg (fun q => q[j]?) hel
        simp only [List.getElem?_take, if_pos hjl] at h4
        rw [← h4]; simp [hjC]
      have hrun := run_append_grow_src (P := P) w t tx ty e i _ ht hi hz (some ad) l.length cap (bcs l) (run_firstCells_some (P := P) w.drew i.size l.length ad l.length cap _ (by rw [h1]; simp) (by simpa using holds)) v l2.length (bcs l2) hsrc hg (by omega) (growslice_fits hg (by rw [hb1]; omega))
      have hs1 := (hs.kill o).heap (w' := w.drew) rfl rfl rfl rfl
      have hge := grownCap_ge w (l.length + l2.length) cap e
      have hsize : ((bcs l ++ bcs l2).toArray ++ Builtin.zeroCells (Value.int .u8 0).cells (grownCap w (l.length + l2.length) cap e - (l.length + l2.length))).size = grownCap w (l.length + l2.length) cap e := by
        simp only [Array.size_append, List.size_toArray, size_zeroCells, List.length_append, List.length_map]
        have : (Value.int .u8 0).cells.size = 1 := rfl
        rw [this]; omega
      refine ⟨_, y1 loc nx (.blk w.heap.size ((bcs l ++ bcs l2).toArray ++ Builtin.zeroCells (Value.int .u8 0).cells (grownCap w (l.length + l2.length) cap e - (l.length + l2.length))).size), _, hrun, hs1.born hnx' _ (.inr ⟨_, _, by simp only [y1, if_true], heap_alloc_new w.drew _, ?_⟩), ?_⟩
      · rw [List.map_append]
        have e1 : (l ++ l2).length = (bcs l ++ bcs l2).length := by simp
        rw [e1, Array.toList_append]
        exact List.take_left
      · refine .own _ _ _ _ w.heap.size _ _ _ locSet_same hge ?_ (fun _ => by simp)
        rw [hsize]; omega
theorem zHk (b : ByteArray) : (zU9 b).length = b.size := by
 unfold zU9
 rw [List.length_map, Array.length_toList]; rfl
theorem zHj {b : ByteArray} {i : Nat} (hi : i < (zU9 b).length) : ∃ c : UInt8, b.data.toList[i]? = some c ∧ (zU9 b)[i] = .raw (.int .u8 (c.toNat : Int)) := by
 have hl : i < b.data.toList.length := by unfold zU9 at hi; simpa using hi
 exact ⟨b.data.toList[i], List.getElem?_eq_getElem hl, by simp only [zU9, List.getElem_map]⟩
theorem zKF {l : List UInt8} {news : List Value} (h : ElemsW w I loc 1 (l.map fun b => AV.raw (.int .u8 (b.toNat : Int))) news) : news = bcs l := by
 have hl : news.length = l.length := by have := h.1; simp at this; omega
 refine List.ext_getElem (by simpa using hl) (fun j h1 h2 => ?_)
 have hv := h.2 j (by simpa using (by omega : j < l.length)) 0 (by simp [AV.cells]) (by simp; omega)
 simp only [List.getElem_map, AV.cells, List.getElem_singleton, Nat.mul_one, Nat.add_zero] at hv
 have := hv.raw_eq
 simp only [List.getElem_map]
 exact this
theorem zIb {t tx ty nx : Nat} {s x : AV} {u v : Value} {K : Cont} (hs : SR E I loc σ a w) (hu : VR w I loc s u) (hv : VR w I loc x v) (h : K7 P t tx s x σ.obj nx K)
  (hbs : ∀ (ys : List AV) (k : List UInt8 → Prop), M4 ys k → ∃ l, ys = l.map (fun b => .raw (.int .u8 (b.toNat : Int))) ∧ k l) :
  ∃ z rd wr w' loc' r, K z rd wr ∧ (Builtin.append_ #[t, tx] ty #[u, v]).run P w = .ok r w' ∧ SR E I loc' (σ.writes wr) a w' ∧ VR w' I loc' z r := by
 unfold K7 at h
 split at h
 ·rename_i e ht
  obtain ⟨⟨hsz, hby, hz⟩, hnx, h⟩ := h
  obtain ⟨i, hi, his⟩ := zBY hsz
  have hib : i.bytes = 1 := by unfold bytesT at hby; rw [hi] at hby; simpa using hby
  have hiz : i.zero = some (.int .u8 0) := by unfold zeroT at hz; rw [hi] at hz; simpa using hz
  have htt := V5 ht
  obtain ⟨l2, rd, hsrc, hne, h⟩ : ∃ l2 rd, Src P i.size tx v l2.length (bcs l2) w ∧ l2 ≠ [] ∧ zVE e s l2 rd σ.obj nx K := by
   unfold zVi at h
   split at h
   ·rename_i b
    obtain ⟨h1, h2, h3⟩ := h
    have ev := hv.raw_eq
    subst ev
    refine ⟨_, _, ?_, h2, h3⟩
    have := Src.ofString (P := P) w (P7 h1) b
    rw [his]
    have e1 : b.data.toList.length = b.size := by rw [Array.length_toList]; rfl
    rw [e1]; exact this
   ·rename_i o z off len
    obtain ⟨rfl, h⟩ := h
    cases hr : l6 σ.obj 1 (.own o z off len) with
    | none => simp only [hr] at h
    | some p =>
     obtain ⟨ys, rd⟩ := p
     simp only [hr] at h
     obtain ⟨hne, h⟩ := h
     obtain ⟨l, rfl, h2, h3⟩ := hbs _ _ h
     refine ⟨_, _, ?_, h2, h3⟩
     rcases zBm hs hv hr (fun y hy => by obtain ⟨b, _, rfl⟩ := List.mem_map.1 hy; rfl) with ⟨h0, _⟩ | ⟨ad, c, news, rfl, hel, hc⟩
     ·exact absurd h0 hne
     ·have e1 := zKF hel
      subst e1
      rw [his, List.length_map]
      exact Src.ofSlice w htt ad _ c _ (by simp) hc (fun x hx => by obtain ⟨b, _, rfl⟩ := List.mem_map.1 hx; rfl)
   ·exact h.elim
  unfold zVE at h
  split at h
  ·rename_i o sz' len _
   generalize hA : σ.obj o = A at h
   cases A with
   | brow e' l =>
    obtain ⟨rfl, rfl, rfl, hb, hK⟩ := h
    obtain ⟨w', loc', r, q1, q2, q3⟩ := zId (ty := ty) htt hi hiz his hib hs hnx hA hu hsrc hne hb
    exact ⟨_, _, _, w', loc', r, hK, q1, q2, q3⟩
   | _ => exact h.elim
  ·obtain ⟨hb, hK⟩ := h
   have e1 := hu.raw_eq; subst e1
   obtain ⟨w', loc', r, q1, q2, q3⟩ := zEM (ty := ty) htt hi hiz his hib hs hnx hsrc hne hb
   exact ⟨_, _, _, w', loc', r, hK, q1, q2, q3⟩
  ·exact h.elim
 ·exact h.elim
theorem zE3 {t : TypeId} {fs : Array Field} (ht : P.underlying t = some (.struct fs)) {pl : Array (Nat × Nat)} (hpl : ∀ i u off n, w8 P t i = some (u, off) → sizeT P u = some n → pl[i]? = some (off, n)) :
  ∀ (ps : List (Nat × Operand)) {cs ds : List AV} {C : Array Value} {ev : Operand → AV} {ρ : Operand → Value}, (∀ x, VR w I loc (ev x) (ρ x)) → (∀ p, p ∈ ps → (ev p.2).sized = true) → CV w I loc cs C →
   J6 P t cs (ps.map fun p => (p.1, ev p.2)) = some ds → ∃ D, Instr.fill (pl[·]?) C (ps.map fun p => (p.1, ρ p.2)) = some D ∧ CV w I loc ds D
 | [], cs, ds, C, ev, ρ, _, _, hc, h => by
  simp only [List.map_nil, J6, Option.some.injEq] at h; subst h
  exact ⟨C, rfl, hc⟩
 | p :: ps, cs, ds, C, ev, ρ, hev, hps, hc, h => by
  simp only [List.map_cons, J6] at h
  cases hf : w8 P t p.1 with
  | none => simp only [hf] at h; cases h
  | some uo =>
   obtain ⟨u, off⟩ := uo
   simp only [hf] at h
   split at h
   ·rename_i hcond
    obtain ⟨hsz, hfit⟩ := hcond
    have hcv := (hev p.2).toCV (hps p (by simp))
    obtain ⟨D, h1, h2⟩ := zE3 ht hpl ps hev (fun q hq => hps q (by simp [hq])) (hc.splice hcv hfit) h
    refine ⟨D, ?_, h2⟩
    rw [List.map_cons, zCf (off := off) (size := (ρ p.2).cells.size) (by rw [hpl _ _ _ _ hf hsz, hcv.1]) rfl (by rw [← hcv.1, ← hc.1]; exact hfit)]
    exact h1
   ·cases h
theorem zE4 {sz : Nat} :
  ∀ (ps : List (Nat × Operand)) {cs ds : List AV} {C : Array Value} {ev : Operand → AV} {ρ : Operand → Value}, (∀ x, VR w I loc (ev x) (ρ x)) → (∀ p, p ∈ ps → (ev p.2).sized = true) → CV w I loc cs C →
   J7 sz cs (ps.map fun p => (p.1, ev p.2)) = some ds → ∃ D, Instr.fill (fun i => some (i * sz, sz)) C (ps.map fun p => (p.1, ρ p.2)) = some D ∧ CV w I loc ds D
 | [], cs, ds, C, ev, ρ, _, _, hc, h => by
  simp only [List.map_nil, J7, Option.some.injEq] at h; subst h
  exact ⟨C, rfl, hc⟩
 | p :: ps, cs, ds, C, ev, ρ, hev, hps, hc, h => by
  simp only [List.map_cons, J7] at h
  split at h
  ·rename_i hcond
   obtain ⟨hsz, hfit⟩ := hcond
   have hcv := (hev p.2).toCV (hps p (by simp))
   obtain ⟨D, h1, h2⟩ := zE4 ps hev (fun q hq => hps q (by simp [hq])) (hc.splice hcv (by omega)) h
   refine ⟨D, ?_, h2⟩
   rw [List.map_cons, zCf (off := p.1 * sz) (size := (ρ p.2).cells.size) (by rw [← hcv.1, hsz]) rfl (by rw [← hcv.1, ← hc.1, hsz]; exact hfit)]
   exact h1
  ·cases h
theorem zNz {fs : List Field} (h : ∀ f, f ∈ fs → (sizeT P f.type).isSome = true) : ∃ pl : List (Nat × Nat), (fs.mapM (fun f => do pure (f.offset, ← sizeOf f.type) : Field → Sem (Nat × Nat))).run P w = .ok pl w ∧
  ∀ (i : Nat) (f : Field) (n : Nat), fs[i]? = some f → sizeT P f.type = some n → pl[i]? = some (f.offset, n) := by
 induction fs with
 | nil => exact ⟨[], by simp, fun i f n hf => by simp at hf⟩
 | cons f fs ih =>
  obtain ⟨pl, h1, h2⟩ := ih (fun g hg => h g (by simp [hg]))
  obtain ⟨n, hn⟩ := Option.isSome_iff_exists.1 (h f (by simp))
  refine ⟨(f.offset, n) :: pl, ?_, fun i g m hg hm => ?_⟩
  ·simp only [List.mapM_cons, Sem.run_bind, f9 hn, Result.andThen_ok, Sem.run_pure, h1]
  ·cases i with
   | zero => simp at hg; subst hg; rw [hn] at hm; cases hm; rfl
   | succ i => simp at hg ⊢; exact h2 i g m hg hm
theorem zJQ {t : TypeId} {ps : Array (Nat × Operand)} {K : Cont} (hs : SR E I loc σ a w) (h : buildA P t (ps.toList.map fun p => (p.1, σ.ev p.2)) K) :
  ∃ v y, K v [] [] ∧ (Instr.build t (ps.map fun (i, x) => (i, a.eval x))).run P w = .ok y w ∧ VR w I loc v y := by
 unfold buildA at h
 split at h
 ·rename_i z fs hz ht
  obtain ⟨h1, h2, h3, h⟩ := h
  obtain ⟨pl, g1, g2⟩ := zNz (P := P) (w := w) (fs := fs.toList) (fun f hf => h2 f (by simpa using hf))
  cases hfill : J6 P t (z.cells.toList.map .raw) (ps.toList.map fun p => (p.1, σ.ev p.2)) with
  | none => simp only [hfill] at h
  | some cs =>
   simp only [hfill] at h
   obtain ⟨D, f1, f2⟩ := zE3 (w := w) (I := I) (loc := loc) (pl := pl.toArray) ht (fun i u off n hf hn => by
    obtain ⟨fs', x, q1, q2, q3, q4⟩ := zBS hf
    rw [ht] at q1; cases q1
    subst q3; subst q4
    have := g2 i x n (by simpa using q2) hn
    simpa using this) ps.toList (fun x => hs.ev x) (fun p hp => h3 _ (List.mem_map.2 ⟨p, hp, rfl⟩)) (zEC h1) hfill
   refine ⟨_, .agg D, h, ?_, .agg _ _ f2.1 f2.2⟩
   have e2 : (ps.map fun (i, x) => (i, a.eval x)).toList = ps.toList.map fun p => (p.1, a.eval p.2) := by simp
   have e3 : (fs.mapM (fun f => do pure (f.offset, ← sizeOf f.type) : Field → Sem (Nat × Nat))).run P w = .ok pl.toArray w := by
    have e4 : fs = fs.toList.toArray := by simp
    rw [e4, List.mapM_toArray]
    simp only [Sem.run_map, g1, Result.andThen_ok]
   simp only [Instr.build, Sem.run_bind, L8 hz, Result.andThen_ok, run_underlying ht, e3]
   rw [e2, f1]
   rfl
 ·rename_i z n e hz ht
  obtain ⟨h1, h3, h⟩ := h
  cases hse : sizeT P e with
  | none => simp only [hse] at h
  | some sz =>
   simp only [hse] at h
   cases hfill : J7 sz (z.cells.toList.map .raw) (ps.toList.map fun p => (p.1, σ.ev p.2)) with
   | none => simp only [hfill] at h
   | some cs =>
    simp only [hfill] at h
    obtain ⟨D, f1, f2⟩ := zE4 (w := w) (I := I) (loc := loc) ps.toList (fun x => hs.ev x) (fun p hp => h3 _ (List.mem_map.2 ⟨p, hp, rfl⟩)) (zEC h1) hfill
    refine ⟨_, .agg D, h, ?_, .agg _ _ f2.1 f2.2⟩
    have e2 : (ps.map fun (i, x) => (i, a.eval x)).toList = ps.toList.map fun p => (p.1, a.eval p.2) := by simp
    simp only [Instr.build, Sem.run_bind, L8 hz, Result.andThen_ok, run_underlying ht, f9 hse]
    rw [e2, f1]
    rfl
 ·exact h.elim
end
end Go.Abs

namespace Go.Abs
open Go
variable [Cur]
theorem zDC (k0 : Nat) : ∀ (fp : List AObj) (k : Nat), lkO (zUS k0 fp) k = if k < k0 then .unb else fp.getD (k - k0) .unb
 | [], k => by simp [zUS, lkO]
 | A :: r, k => by
  simp only [zUS, lkO, zDC (k0 + 1) r k]
  by_cases h : k0 = k
  ·subst h; simp
  ·rw [if_neg h]
   by_cases h1 : k < k0
   ·rw [if_pos (by omega), if_pos h1]
   ·rw [if_neg (by omega), if_neg h1]
    have e : k - k0 = (k - (k0 + 1)) + 1 := by omega
    rw [e]; simp
theorem O8 (fp : List AObj) (k : Nat) : (hs fp).obj k = fp.getD k .unb := by
 show lkO (zUS 0 fp) k = _
 rw [zDC]; simp
theorem PR.ren {w : World} {I : Nat → Prop} {x : AV} {v : Value} (h : PR w I x v) (f : Nat → Nat) : x.ren f = x := by
 induction h with
 | any => rfl
 | raw => rfl
 | nil => rfl
 | list => rfl
 | elt => rfl
 | nmap => rfl
 | fmap => rfl
 | ifc => rfl
 | clp => rfl
 | agg cs vs hl _ ih =>
  simp only [AV.ren, X9]
  congr 1
  apply List.ext_getElem (by simp)
  intro i h1 h2
  simp only [List.getElem_map]
  exact ih i h2 (by omega)
theorem PR.scal {w : World} {I I' : Nat → Prop} {x : AV} {v : Value} (h : PR w I x v) (hs : Scal x) : PR w I' x v := by
 induction h with
 | any v => exact .any v
 | raw v h => exact .raw v h
 | nil => cases hs
 | list => cases hs
 | elt => cases hs
 | nmap => cases hs
 | fmap => cases hs
 | ifc => cases hs
 | clp => cases hs
 | agg cs vs hl _ ih =>
  cases hs with
  | agg _ hc => exact .agg cs vs hl (fun i h h' => ih i h h' (hc _ (List.getElem_mem h)))
theorem VR.ren {w : World} {I I' : Nat → Prop} {loc loc' : Nat → Loc} {f : Nat → Nat} (hl : ∀ o, loc o ≠ .un → loc' (f o) = loc o) {x : AV} {v : Value} (h : VR w I loc x v) :
  ((∀ b, I b → I' b) ∨ Scal x) → VR w I' loc' (x.ren f) v := by
 have hk : ∀ {o l}, loc o = l → l ≠ .un → loc' (f o) = l := fun {o l} e hne => (hl o (e ▸ hne)).trans e
 have hsub : ∀ {cs : List AV} {c : AV}, c ∈ cs → ((∀ b, I b → I' b) ∨ Scal (.agg cs)) → ((∀ b, I b → I' b) ∨ Scal c) := fun hc h => by
  rcases h with h | h
  ·exact .inl h
  ·cases h with
   | agg _ h => exact .inr (h _ hc)
 have hsub2 : ∀ {cs : List AV} {c : AV}, c ∈ cs → ((∀ b, I b → I' b) ∨ Scal (.tup cs)) → ((∀ b, I b → I' b) ∨ Scal c) := fun hc h => by
  rcases h with h | h
  ·exact .inl h
  ·cases h with
   | tup _ h => exact .inr (h _ hc)
 have hsub3 : ∀ {g : FuncId} {cs : List AV} {c : AV}, c ∈ cs → ((∀ b, I b → I' b) ∨ Scal (.fn g cs)) → ((∀ b, I b → I' b) ∨ Scal c) := fun hc h => by
  rcases h with h | h
  ·exact .inl h
  ·cases h with
   | fn _ _ h => exact .inr (h _ hc)
 induction h with
 | pure h =>
  intro hI
  rw [h.ren]
  rcases hI with hI | hI
  ·exact .pure (h.mono (fun _ _ => rfl) hI)
  ·exact .pure (h.scal hI)
 | agg cs vs hlen _ ih =>
  intro hI
  simp only [AV.ren, X9]
  refine .agg _ vs (by simpa using hlen) (fun i h h' => ?_)
  simp only [List.getElem_map]
  exact ih i (by simpa using h) h' (hsub (List.getElem_mem _) hI)
 | tup cs vs hlen _ ih =>
  intro hI
  simp only [AV.ren, X9]
  refine .tup _ vs (by simpa using hlen) (fun i h h' => ?_)
  simp only [List.getElem_map]
  exact ih i (by simpa using h) h' (hsub2 (List.getElem_mem _) hI)
 | fn g cs vs hlen _ ih =>
  intro hI
  simp only [AV.ren, X9]
  refine .fn g _ vs (by simpa using hlen) (fun i h h' => ?_)
  simp only [List.getElem_map]
  exact ih i (by simpa using h) h' (hsub3 (List.getElem_mem _) hI)
 | ptr o off b c h => exact fun _ => .ptr _ _ b c (hk h (by simp))
 | eptr o sz i off b c h => exact fun _ => .eptr _ _ _ _ b c (hk h (by simp))
 | ownN o sz h => exact fun _ => .ownN _ _ (hk h (by simp))
 | own o sz off len b c a cap h h1 h2 h3 => exact fun _ => .own _ _ _ _ b c a cap (hk h (by simp)) h1 h2 h3
 | mp o b c h => exact fun _ => .mp _ b c (hk h (by simp))
 | yld o b c h => exact fun _ => .yld _ b c (hk h (by simp))
 | ifp t o off b c h => exact fun _ => .ifp _ _ _ b c (hk h (by simp))
theorem zF6 (f : Nat → Nat) (t : Nat) : ∀ env : List (Nat × AV), lkV (env.map fun q => (q.1, q.2.ren f)) t = (lkV env t).ren f
 | [] => rfl
 | (k, v) :: r => by
  simp only [List.map_cons, lkV]
  split
  ·rfl
  ·exact zF6 f t r
section
variable {P : Program} {E : Env} {I : Nat → Prop} {loc : Nat → Loc} {σ : AS} {a : Act} {w : World}
theorem SR.bare (h : SR E I loc σ a w) (he : E.ds = [] := by rfl) : SR E I loc ⟨0, [], σ.objs⟩ P2 w :=
 ⟨.nil he, rfl, fun _ => .pure (.any _), h.objs, h.inj, h.imm, h.sep, h.fr, h.base, h.top, h.keep⟩
theorem SG.bare {γ : Gh} (h : SG E I γ loc σ a w) (he : E.ds = [] := by rfl) : SG E I γ loc ⟨0, [], σ.objs⟩ P2 w :=
 ⟨h.sr.bare he, ⟨h.og.wf, h.og.rd, h.og.live, fun d r hd => by simp [P2] at hd, h.og.own, h.og.fro⟩⟩
theorem zCC {f : AV → AV → Prop} {w' : World} {I' : Nat → Prop} {loc' : Nat → Loc} : ∀ {xs ys : List AV} {vs : List Value}, All2 f xs ys → ys.length = vs.length →
  (∀ i (h : i < ys.length) (h' : i < vs.length), VR w I loc ys[i] vs[i]) → (∀ x y v, f x y → VR w I loc y v → VR w' I' loc' x v) → xs.length = vs.length ∧ ∀ i (h : i < xs.length) (h' : i < vs.length), VR w' I' loc' xs[i] vs[i]
 | [], [], vs, _, hl, _, _ => ⟨hl, fun i h => by simp at h⟩
 | x :: xs, y :: ys, vs, h, hl, hv, hf => by
  cases h with
  | cons h1 h2 =>
   cases vs with
   | nil => simp at hl
   | cons v vs =>
    obtain ⟨g1, g2⟩ := zCC h2 (by simpa using hl) (fun i h h' => by have := hv (i + 1) (by simpa using h) (by simpa using h'); simpa using this) hf
    refine ⟨by simp [g1], fun i h h' => ?_⟩
    cases i with
    | zero => exact hf _ _ _ h1 (hv 0 (by simp) (by simp))
    | succ i => simp only [List.getElem_cons_succ]; exact g2 i _ _
 | [], _ :: _, _, h, _, _, _ => by cases h
 | _ :: _, [], _, h, _, _, _ => by cases h
theorem AObj.ren_live (f : Nat → Nat) (A : AObj) : (A.ren f).live = A.live := by cases A <;> rfl
theorem zEA : ∀ (wr : List (Nat × AObj)) (σ : AS) (o : Nat), (∀ p q, p ∈ wr → q ∈ wr → p.1 = q.1 → p.2 = q.2) →
  (∀ p, p ∈ wr → p.1 = o → (σ.writes wr).obj o = p.2) ∧ ((∀ p, p ∈ wr → p.1 ≠ o) → (σ.writes wr).obj o = σ.obj o)
 | [], σ, o, _ => ⟨fun p hp => by simp at hp, fun _ => rfl⟩
 | q :: wr, σ, o, hu => by
  have ih := zEA wr (σ.setO q.1 q.2) o (fun p p' hp hp' => hu p p' (by simp [hp]) (by simp [hp']))
  have e : σ.writes (q :: wr) = (σ.setO q.1 q.2).writes wr := rfl
  rw [e]
  refine ⟨fun p hp hpo => ?_, fun hn => ?_⟩
  ·by_cases hin : ∃ p', p' ∈ wr ∧ p'.1 = o
   ·obtain ⟨p', hp', hpo'⟩ := hin
    rw [ih.1 p' hp' hpo']
    exact hu p' p (by simp [hp']) hp (hpo'.trans hpo.symm)
   ·have hnin : ∀ p', p' ∈ wr → p'.1 ≠ o := fun p' hp' e' => hin ⟨p', hp', e'⟩
    rw [ih.2 hnin]
    rcases List.mem_cons.1 hp with rfl | hp
    ·rw [AS.obj_setO, if_pos hpo]
    ·exact absurd hpo (hnin p hp)
  ·rw [ih.2 (fun p hp => hn p (by simp [hp])), AS.obj_setO, if_neg (hn q (by simp))]
theorem U1 (wr : List (Nat × AObj)) : ∀ (σ : AS), (σ.writes wr).n = σ.n ∧ ∀ t, (σ.writes wr).get t = σ.get t := by
 induction wr with
 | nil => exact fun σ => ⟨rfl, fun _ => rfl⟩
 | cons q wr ih => exact fun σ => ⟨(ih (σ.setO q.1 q.2)).1, fun t => (ih (σ.setO q.1 q.2)).2 t⟩
theorem zAn (k0 : Nat) : ∀ (fp : List AObj) (p : Nat × AObj), p ∈ zUS k0 fp ↔ ∃ i, ∃ h : i < fp.length, p = (k0 + i, fp[i])
 | [], p => by simp [zUS]
 | A :: r, p => by
  simp only [zUS, List.mem_cons, zAn (k0 + 1) r p]
  constructor
  ·rintro (rfl | ⟨i, h, rfl⟩)
   ·exact ⟨0, by simp, by simp⟩
   ·exact ⟨i + 1, by simpa using h, by simp; omega⟩
  ·rintro ⟨i, h, rfl⟩
   cases i with
   | zero => exact .inl (by simp)
   | succ i => exact .inr ⟨i, by simpa using h, by simp; omega⟩
theorem zCP {γ : Gh} {avs : List AV} {vs : Array Value} {nx : Nat} {ids ex : List Nat} {args : List AV} {fp : List AObj} {r : AV} {out : List AObj} (hs : SG E I γ loc σ a w)
    (hl : avs.length = vs.size) (hv : ∀ i (h : i < avs.length) (h' : i < vs.size), VR w I loc avs[i] vs[i]) (hm : MetX (fun _ _ _ _ _ => True) avs σ.obj nx ids ex args fp r out) :
    (SG (o6 w (zUW σ.obj (· ∈ ex) loc I) γ fp.length (zUQ (r9 ids) loc)) (zUW σ.obj (· ∈ ex) loc I) γ (zUQ (r9 ids) loc) (Go.Abs.hs fp) P2 w ∧ vs.size = args.length ∧
      ∀ i (h : i < args.length) (h' : i < vs.size), VR w (zUW σ.obj (· ∈ ex) loc I) (zUQ (r9 ids) loc) args[i] vs[i]) ∧
    ∀ (e : Ending) (w' : World) (γ' : Gh), (∃ v I' loc', e = .returned v ∧ Post w (zUW σ.obj (· ∈ ex) loc I) γ (zUQ (r9 ids) loc) fp.length r out v w' I' γ' loc') →
      ∃ v I' loc', e = .returned v ∧ SG E I' γ' loc' (σ.writes (u7 ids nx out)) a w' ∧ VR w' I' loc' (r.ren (x9 ids nx)) v ∧ ∀ o, loc o ≠ .un → loc' o = loc o := by
  obtain ⟨hs, og⟩ := hs
  have hn : fp.length = ids.length := hm.fpl
  have hid : ∀ k, k < ids.length → ids.getD k 0 ∈ ids ∧ (σ.obj (ids.getD k 0)).live = true := fun k hk => by
    refine ⟨by rw [w4 hk]; exact List.getElem_mem hk, ?_⟩
    obtain ⟨h1, h2⟩ := hm.fps k (by omega)
    exact h2.live h1
  have hinj : ∀ k k', k < ids.length → k' < ids.length → ids.getD k 0 = ids.getD k' 0 → k = k' := fun k k' hk hk' e => by
    rw [w4 hk, w4 hk'] at e
    have hp := List.pairwise_iff_getElem.1 hm.nodup
    rcases Nat.lt_trichotomy k k' with h | h | h
    · exact absurd e (hp k k' hk hk' h)
    · exact h
    · exact absurd e.symm (hp k' k hk' hk h)
  -- what the callee sees
  have hwk : WK (r9 ids) (· ∈ ex) σ (Go.Abs.hs fp) := by
    refine ⟨fun o k ho e => ?_, fun t => .any _, fun k => ?_, fun k k' o _ _ e e' => ?_⟩
    · unfold r9 at e
      split at e
      · rename_i hk
        simp only [Option.some.injEq] at e
        exact (hm.apart o ho (e ▸ (hid k hk).1)).elim
      · cases e
    · rw [O8]
      by_cases hk : k < ids.length
      · simp only [r9, hk, if_true]
        have h2 := (hm.fps k (by omega)).2
        rw [w4 (by omega)]
        exact h2
      · simp only [r9, hk, if_false]
        left; simp [show ¬ k < fp.length by omega]
    · unfold r9 at e e'
      split at e
      · split at e'
        · rename_i hk hk'
          simp only [Option.some.injEq] at e e'
          exact hinj k k' hk hk' (e.trans e'.symm)
        · cases e'
      · cases e
  obtain ⟨_, q2, q3, q4, q5⟩ := WK.core hs hwk
  have hlx : ∀ k, k < ids.length → zUQ (r9 ids) loc k = loc (ids.getD k 0) := fun k hk => by simp only [zUQ, r9, hk, if_true]
  have hlv : ∀ k, ((Go.Abs.hs fp).obj k).live = true → k < fp.length := fun k hk => by
    rw [O8] at hk
    rcases Nat.lt_or_ge k fp.length with h | h
    · exact h
    · rw [List.getD, List.getElem?_eq_none h] at hk; simp [AObj.live] at hk
  have hlaid : zEF (o6 w (zUW σ.obj (· ∈ ex) loc I) γ fp.length (zUQ (r9 ids) loc)) := fun p hp => by
    obtain ⟨l1, l2, l3⟩ := hs.fr.laid p hp
    have hlt : p.1 < E.w0.heap.size := by
      rcases Nat.lt_or_ge p.1 E.w0.heap.size with h | h
      · exact h
      · simp [World.cell?, Array.getElem?_eq_none h] at l1
    refine ⟨(zAZ (hs.fr.block p.1 hlt l3 l2) 0).trans l1, ?_, og.prot l3⟩
    rintro ⟨k, c, hk, e⟩
    have hk' : k < ids.length := by have : k < fp.length := hk; omega
    have e : zUQ (r9 ids) loc k = .blk p.1 c := e
    rw [hlx k hk'] at e
    exact l2 ((hs.sep (ids.getD k 0) p.1 c (hid k hk').2 e).2 hlt)
  have hsc : SR (o6 w (zUW σ.obj (· ∈ ex) loc I) γ fp.length (zUQ (r9 ids) loc)) (zUW σ.obj (· ∈ ex) loc I) (zUQ (r9 ids) loc) (Go.Abs.hs fp) P2 w := by
    refine ⟨.nil, rfl, fun _ => .pure (.any _), q2, q3, q4, fun o b c hl' e => ⟨(q5 o b c hl' e).1, fun _ => ⟨o, c, hlv o hl', e⟩⟩, ⟨rfl, rfl, rfl, Nat.le_refl _, fun _ _ _ _ => rfl, fun _ => Nat.le_refl _, hlaid⟩, fun b hb => hb, fun b hb => .inl hb, fun k hk => ⟨rfl, ?_⟩⟩
    have hk' : k < ids.length := by have : k < fp.length := hk; omega
    rw [hlx k hk']
    intro e
    have h1 := (hid k hk').2
    have h2 := hs.objs (ids.getD k 0)
    generalize σ.obj (ids.getD k 0) = A at h1 h2
    cases A with
    | unb => simp [AObj.live] at h1
    | dead => simp [AObj.live] at h1
    | box cs => obtain h3 | ⟨b, C, _, h3, _⟩ := h2
                · rw [e] at h3; cases h3.1
                · rw [e] at h3; cases h3
    | row sz xs => obtain ⟨_, _, h3 | ⟨b, C, _, h3, _⟩⟩ := h2
                   · rw [e] at h3; cases h3.1
                   · rw [e] at h3; cases h3
    | mapo ks xs => obtain ⟨b, C, _, h3, _⟩ := h2; rw [e] at h3; cases h3
    | iter c ks xs => obtain ⟨b, h3, _⟩ := h2; rw [e] at h3; cases h3
    | siter s pos => obtain ⟨b, h3, _⟩ := h2; rw [e] at h3; cases h3
    | tbox _ cs => obtain ⟨b, C, h3, _⟩ := h2; rw [e] at h3; cases h3
    | brow _ l => obtain h3 | ⟨b, C, h3, _⟩ := h2
                  · rw [e] at h3; cases h3.1
                  · rw [e] at h3; cases h3
    | loopo L env p => obtain ⟨b, _, _, h3, _⟩ := h2; rw [e] at h3; cases h3
  obtain ⟨ga, gv⟩ := zCC (w := w) (w' := w) (I' := zUW σ.obj (· ∈ ex) loc I) (loc' := zUQ (r9 ids) loc) (vs := vs.toList) hm.args (by simpa using hl) (fun i h h' => by have := hv i h (by simpa using h'); simpa using this)
    (fun x y v hxy hyv => Xp.sound hs hxy hyv)
  refine ⟨⟨⟨hsc, ⟨og.wf, ?_, fun o b c hl' e => ?_, fun d r hd => by simp [P2] at hd, fun _ hb => hb, fun _ hb => hb⟩⟩, by simpa using ga.symm, fun i h h' => by have := gv i h (by simpa using h'); simpa using this⟩, ?_⟩
  · rintro b (hb | ⟨o, c, ho, e, _⟩)
    · exact og.rd b hb
    · exact .inl (og.live o b c ho e)
  · have hk := hlv o hl'
    rw [hlx o (by omega)] at e
    exact og.live _ b c (hid o (by omega)).2 e
  rintro e w' γ' ⟨v, I1, loc1, rfl, hp⟩
  have hog := hp.sg.og
  have hlen : ids.length ≤ out.length := by have := hp.len; omega
  -- the caller's own view behind the call
  have hl1 : ∀ k, k < ids.length → loc1 k = loc (ids.getD k 0) := fun k hk => by
    have h1 : loc1 k = zUQ (r9 ids) loc k := (hp.sg.sr.keep k (show k < fp.length by omega)).1
    rw [h1]; exact hlx k hk
  have hfix : ∀ b, b < w.heap.size → γ.O b ∨ γ.F b → (∀ k, k < ids.length → ∀ c, loc (ids.getD k 0) ≠ .blk b c) → w'.heap[b]? = w.heap[b]? := fun b hb hpr hno =>
    hp.sg.sr.fr.block b hb hpr (by
      rintro ⟨k, c, hk, e⟩
      have hk' : k < ids.length := by have : k < fp.length := hk; omega
      have e : zUQ (r9 ids) loc k = .blk b c := e
      rw [hlx k hk'] at e
      exact hno k hk' c e)
  have hsize : w.heap.size ≤ w'.heap.size := hp.sg.sr.fr.size
  have hIfix : ∀ b, I b → w'.heap[b]? = w.heap[b]? := fun b hb => hfix b (hs.imm b hb) (og.rd b hb) (fun k hk c e => (hs.sep _ b c (hid k hk).2 e).1 hb)
  have hof : ∀ o b c, (σ.obj o).live = true → o ∉ ids → loc o = .blk b c → w'.heap[b]? = w.heap[b]? := fun o b c ho hno e =>
    hfix b ((hs.objs o).lt ho e) (.inl (og.live o b c ho e)) (fun k hk c' e' => by
      have := hs.inj o _ b c c' ho (hid k hk).2 e e'
      exact hno (this ▸ (hid k hk).1))
  let isNew : Nat → Prop := fun o => nx ≤ o ∧ o < nx + (out.length - ids.length)
  have hnewunb : ∀ o, isNew o → σ.obj o = .unb := fun o ho => by
    have := hm.fresh (o - nx) (by have := ho.1; have := ho.2; omega)
    have e : nx + (o - nx) = o := by have := ho.1; omega
    rw [e] at this; exact this
  have hback : ∀ k, k < out.length → (k < ids.length ∧ x9 ids nx k = ids.getD k 0) ∨ (ids.length ≤ k ∧ x9 ids nx k = nx + (k - ids.length) ∧ isNew (x9 ids nx k)) := fun k hk => by
    unfold x9
    by_cases h : k < ids.length
    · exact .inl ⟨h, by rw [if_pos h]⟩
    · refine .inr ⟨by omega, by rw [if_neg h], ?_⟩
      rw [if_neg h]; exact ⟨by omega, by omega⟩
  have hidnew : ∀ k, k < ids.length → ¬ isNew (ids.getD k 0) := fun k hk hnew => by
    have := (hid k hk).2; rw [hnewunb _ hnew] at this; simp [AObj.live] at this
  have hbinj : ∀ k k', k < out.length → k' < out.length → x9 ids nx k = x9 ids nx k' → k = k' := fun k k' hk hk' e => by
    rcases hback k hk with ⟨h1, h2⟩ | ⟨h1, h2, h3⟩ <;> rcases hback k' hk' with ⟨g1, g2⟩ | ⟨g1, g2, g3⟩
    · rw [h2, g2] at e; exact hinj k k' h1 g1 e
    · exact absurd (by rw [← e, h2] at g3; exact g3) (hidnew k h1)
    · exact absurd (by rw [e, g2] at h3; exact h3) (hidnew k' g1)
    · rw [h2, g2] at e; omega
  classical
  let loc2 : Nat → Loc := fun o => if isNew o then loc1 (ids.length + (o - nx)) else loc o
  have hloc2 : ∀ k, k < out.length → loc2 (x9 ids nx k) = loc1 k := fun k hk => by
    rcases hback k hk with ⟨h1, h2⟩ | ⟨h1, h2, h3⟩
    · simp only [loc2, h2, if_neg (hidnew k h1)]; exact (hl1 k h1).symm
    · simp only [loc2, if_pos h3]
      congr 1
      omega
  have hun1 : ∀ k, loc1 k ≠ .un → k < out.length := fun k hk => by
    rcases Nat.lt_or_ge k out.length with h | h
    · exact h
    · have := hp.sg.sr.objs k
      rw [O8, List.getD, List.getElem?_eq_none h] at this
      exact absurd this hk
  have hren : ∀ o, loc1 o ≠ .un → loc2 (x9 ids nx o) = loc1 o := fun o ho => hloc2 o (hun1 o ho)
  have hlocold : ∀ o, loc o ≠ .un → loc2 o = loc o := fun o ho => by
    simp only [loc2]
    rw [if_neg]
    intro hnew
    exact ho (hs.un (hnewunb o hnew))
  let fb : Nat → Prop := fun b => ∃ k c, k < ids.length ∧ loc (ids.getD k 0) = .blk b c
  let I2 : Nat → Prop := fun b => I b ∨ (I1 b ∧ (w.heap.size ≤ b ∨ ¬ γ.O b ∨ fb b))
  have hI12 : ex = [] → ∀ b, I1 b → I2 b := fun he b hb => by
    rcases hp.sg.sr.top b hb with h | h | ⟨k, c, hk, h⟩
    · rcases h with h | ⟨o, c, _, _, h⟩
      · exact .inl h
      · rw [he] at h; cases h
    · exact .inr ⟨hb, h.imp id .inl⟩
    · have hk' : k < ids.length := by have : k < fp.length := hk; omega
      have h : zUQ (r9 ids) loc k = .blk b c := h
      rw [hlx k hk'] at h
      exact .inr ⟨hb, .inr (.inr ⟨k, c, hk', h⟩)⟩
  have hII1 : ∀ b, I b → I1 b := fun b hb => hp.sg.sr.base b (.inl hb)
  have hborn : ∀ k b c, ids.length ≤ k → (hk : k < out.length) → (out[k]).live = true → loc1 k = .blk b c → w.heap.size ≤ b ∨ fb b := fun k b c hk hko hl' e => by
    rcases Nat.lt_or_ge b w.heap.size with hlt | hge
    · obtain ⟨j, c', hj, e'⟩ := (hp.sg.sr.sep k b c (by rw [O8, w4 hko]; exact hl') e).2 hlt
      have hj' : j < ids.length := by have : j < fp.length := hj; omega
      have e' : zUQ (r9 ids) loc j = .blk b c' := e'
      rw [hlx j hj'] at e'
      exact .inr ⟨j, c', hj', e'⟩
    · exact .inl hge
  have hfb : ∀ o b c, (σ.obj o).live = true → o ∉ ids → loc o = .blk b c → ¬ (w.heap.size ≤ b ∨ ¬ γ.O b ∨ fb b) := fun o b c ho hno e h => by
    rcases h with h | h | ⟨k, c', hk, h⟩
    · have := (hs.objs o).lt ho e; omega
    · exact h (og.live o b c ho e)
    · exact hno ((hs.inj o _ b c c' ho (hid k hk).2 e h) ▸ (hid k hk).1)
  have hunq : ∀ p q, p ∈ u7 ids nx out → q ∈ u7 ids nx out → p.1 = q.1 → p.2 = q.2 := by
    intro p q hp' hq' e
    obtain ⟨p0, hp0, rfl⟩ := List.mem_map.1 hp'
    obtain ⟨q0, hq0, rfl⟩ := List.mem_map.1 hq'
    obtain ⟨i, hi, rfl⟩ := (zAn 0 out p0).1 hp0
    obtain ⟨j, hj, rfl⟩ := (zAn 0 out q0).1 hq0
    simp only [Nat.zero_add] at e ⊢
    have := hbinj i j hi hj e
    subst this; rfl
  have hnewobj : ∀ k (hk : k < out.length), (σ.writes (u7 ids nx out)).obj (x9 ids nx k) = (out[k]).ren (x9 ids nx) := fun k hk => by
    refine (zEA (u7 ids nx out) σ (x9 ids nx k) hunq).1 (x9 ids nx k, (out[k]).ren (x9 ids nx)) ?_ rfl
    exact List.mem_map.2 ⟨(k, out[k]), (zAn 0 out _).2 ⟨k, hk, by simp⟩, rfl⟩
  have holdobj : ∀ o, (∀ k, k < out.length → x9 ids nx k ≠ o) → (σ.writes (u7 ids nx out)).obj o = σ.obj o := fun o ho => by
    refine (zEA (u7 ids nx out) σ o hunq).2 ?_
    intro p hp'
    obtain ⟨p0, hp0, rfl⟩ := List.mem_map.1 hp'
    obtain ⟨i, hi, rfl⟩ := (zAn 0 out p0).1 hp0
    simpa using ho i hi
  have hcase : ∀ o, (∃ k, k < out.length ∧ x9 ids nx k = o) ∨ ((∀ k, k < out.length → x9 ids nx k ≠ o) ∧ o ∉ ids ∧ ¬ isNew o) := fun o => by
    by_cases h : ∃ k, k < out.length ∧ x9 ids nx k = o
    · exact .inl h
    · refine .inr ⟨fun k hk e => h ⟨k, hk, e⟩, fun hin => ?_, fun hnew => ?_⟩
      · obtain ⟨k, hk, rfl⟩ := List.getElem_of_mem hin
        refine h ⟨k, by omega, ?_⟩
        rcases hback k (by omega) with ⟨_, h2⟩ | ⟨h1, _⟩
        · rw [h2, w4 hk]
        · omega
      · have h1 := hnew.1; have h2 := hnew.2
        refine h ⟨ids.length + (o - nx), by omega, ?_⟩
        unfold x9
        rw [if_neg (by omega)]; omega
  have hscal : ∀ x, (ex = [] ∨ Scal x) → (∀ b, I1 b → I2 b) ∨ Scal x := fun x h => h.imp hI12 id
  have hout : ∀ k (hk : k < out.length), OR w' I2 loc2 (x9 ids nx k) ((out[k]).ren (x9 ids nx)) := fun k hk => by
    have ho := hp.sg.sr.objs k
    rw [O8, w4 hk] at ho
    have hsc' : ex = [] ∨ C1 (out[k]) := hm.scal.imp id (fun h => h.2 _ (List.getElem_mem hk))
    have hunb := hm.unb _ (List.getElem_mem hk)
    have hlk := hloc2 k hk
    generalize out[k] = A at *
    cases A with
    | unb => exact absurd rfl hunb
    | dead => exact trivial
    | mapo ks xs =>
      obtain ⟨b, es, clock, h1, h2, h3, h4⟩ := ho
      refine ⟨b, es, clock, by rw [hlk, h1], h2, h3, h4.imp (fun i hi v hv => ?_)⟩
      rcases hsc' with he | hsc'
      · exact hv.mono (fun _ _ => rfl) (hI12 he)
      · exact hv.scal (hsc' _ (List.getElem_mem hi))
    | iter c ks xs =>
      rcases hsc' with he | hsc'
      · obtain ⟨b, h1, h⟩ := ho
        refine ⟨b, by rw [hlk, h1], ?_⟩
        rcases h with h | ⟨m, es, clock, seen, h2, h3, h4, h5, h6, h7, h8⟩
        · exact .inl h
        · exact .inr ⟨m, es, clock, seen, h2, hI12 he _ h3, h4, h5, h6, h7.imp (fun i h v hv => hv.mono (fun _ _ => rfl) (hI12 he)), fun p hp => by
            obtain ⟨e, g1, g2, g3, g4⟩ := h8 p hp
            exact ⟨e, g1, g2, g3, g4.mono (fun _ _ => rfl) (hI12 he)⟩⟩
      · exact hsc'.elim
    | siter s pos =>
      obtain ⟨b, h1, h2⟩ := ho
      exact ⟨b, by rw [hlk, h1], h2⟩
    | brow e0 l =>
      rcases ho with ⟨h1, h2⟩ | ⟨b, C, h1, h2, h3⟩
      · exact .inl ⟨by rw [hlk, h1], h2⟩
      · exact .inr ⟨b, C, by rw [hlk, h1], h2, h3⟩
    | tbox e0 cs =>
      obtain ⟨b, C, h1, h2, h0, h3, h4⟩ := ho
      refine ⟨b, C, by rw [hlk, h1], h2, h0, by simp only [X9, List.length_map]; exact h3, fun i hi hi' => ?_⟩
      simp only [X9, List.length_map] at hi
      simp only [X9, List.getElem_map]
      exact (h4 i hi hi').ren hren (hscal _ (hsc'.imp id (fun h => h _ (List.getElem_mem hi))))
    | loopo L env p =>
      obtain ⟨b, tmps, ds, h1, h2, h3, h4⟩ := ho
      refine ⟨b, tmps, ds, by rw [hlk, h1], h2, h3, fun t => ?_⟩
      rw [zF6]
      exact (h4 t).ren hren (hscal _ (hsc'.imp id (fun h => h t)))
    | box cs =>
      rcases ho with ⟨h1, h2⟩ | ⟨b, C, ec, h1, h2, h3, h4⟩
      · exact .inl ⟨by rw [hlk, h1], by simp only [X9, h2, List.map_nil]⟩
      refine .inr ⟨b, C, ec, by rw [hlk, h1], h2, by simp only [X9, List.length_map]; exact h3, fun i hi hi' => ?_⟩
      simp only [X9, List.length_map] at hi
      simp only [X9, List.getElem_map]
      exact (h4 i hi hi').ren hren (hscal _ (hsc'.imp id (fun h => h _ (List.getElem_mem hi))))
    | row sz xs =>
      obtain ⟨h0, hx, ho⟩ := ho
      refine ⟨h0, hx, ?_⟩
      rcases ho with ⟨h1, h2⟩ | ⟨b, C, ec, h1, h2, h3, h4⟩
      · exact .inl ⟨by rw [hlk, h1], h2⟩
      · refine .inr ⟨b, C, ec, by rw [hlk, h1], h2, h3, fun i hi j hj h' => ?_⟩
        rcases hsc' with he | hsc'
        · exact (h4 i hi j hj h').mono (fun _ _ => rfl) (hI12 he)
        · exact (h4 i hi j hj h').scal (hsc' _ (List.getElem_mem hi) _ (List.getElem_mem hj))
  have hmk : Marks E I2 loc2 (σ.writes (u7 ids nx out)) a.defers w' := hs.defers.imp2 fun r hd g1 g2 g3 g4 => by
    have hmO := og.mark _ r hd rfl
    have hr : r < w.heap.size := (Array.getElem?_eq_some_iff.1 g1).1
    have hnf : ¬ (w.heap.size ≤ r ∨ fb r) := by
      rintro (h | ⟨k, c, hk, h⟩)
      · omega
      · exact g4 _ c (hid k hk).2 h
    refine ⟨by rw [hfix r hr (.inl hmO) (fun k hk c => g4 _ c (hid k hk).2)]; exact g1, ?_, g3, fun o c ho e => ?_⟩
    · rintro (h | ⟨_, h⟩)
      · exact g2 h
      · exact h.elim (fun x => hnf (.inl x)) (fun x => x.elim (fun y => y hmO) fun y => hnf (.inr y))
    · rcases hcase o with ⟨k, hk, rfl⟩ | ⟨h1, h2, h3⟩
      · rw [hnewobj k hk, AObj.ren_live] at ho
        rw [hloc2 k hk] at e
        rcases Nat.lt_or_ge k ids.length with hk1 | hk1
        · rw [hl1 k hk1] at e
          exact g4 _ c (hid k hk1).2 e
        · exact hnf (hborn k r c hk1 hk ho e)
      · rw [holdobj o h1] at ho
        have e2 : loc o = .blk r c := by simpa only [loc2, if_neg h3] using e
        exact g4 o c ho e2
  refine ⟨v, I2, loc2, rfl, ⟨⟨hmk, hs.size.trans (U1 _ σ).1.symm, fun t => ?_, fun o => ?_, ?_, ?_, ?_, ?_, fun b hb => .inl (hs.base b hb), fun b hb => ?_, fun k hk => by rw [hlocold k (hs.keep k hk).2]; exact hs.keep k hk⟩, ⟨hog.wf, ?_, fun o b c ho e => ?_, fun d r hd e => hog.own _ (og.mark d r hd e), fun b hb => hog.own _ (og.own b hb), fun b hb => hog.fro _ (og.fro b hb)⟩⟩, hp.val.ren hren (hscal _ (hm.scal.imp id (·.1))), hlocold⟩
  · rw [(U1 _ σ).2]
    exact (hs.tmps t).mono hIfix (fun _ hb => .inl hb) hlocold
  · rcases hcase o with ⟨k, hk, rfl⟩ | ⟨h1, h2, h3⟩
    · rw [hnewobj k hk]; exact hout k hk
    · rw [holdobj o h1]
      exact (hs.objs o).mono hIfix (fun _ hb => .inl hb) hlocold (fun e => by simp only [loc2, if_neg h3]; exact hs.un e) (fun hlv b c e => hof o b c hlv h2 e)
  · intro o o' b c c' ho ho' e e'
    rcases hcase o with ⟨k, hk, rfl⟩ | ⟨h1, h2, h3⟩ <;> rcases hcase o' with ⟨k', hk', rfl⟩ | ⟨g1, g2, g3⟩
    · rw [hnewobj k hk, AObj.ren_live] at ho
      rw [hnewobj k' hk', AObj.ren_live] at ho'
      rw [hloc2 k hk] at e; rw [hloc2 k' hk'] at e'
      rw [hp.sg.sr.inj k k' b c c' (by rw [O8, w4 hk]; exact ho) (by rw [O8, w4 hk']; exact ho') e e']
    · rw [holdobj o' g1] at ho'
      rw [hnewobj k hk, AObj.ren_live] at ho
      rw [hloc2 k hk] at e
      have e2 : loc o' = .blk b c' := by simpa only [loc2, if_neg g3] using e'
      rcases Nat.lt_or_ge k ids.length with hk1 | hk1
      · rw [hl1 k hk1] at e
        have := hs.inj _ o' b c c' (hid k hk1).2 ho' e e2
        exact absurd (this ▸ (hid k hk1).1) g2
      · exact absurd ((hborn k b c hk1 hk ho e).imp id .inr) (hfb o' b c' ho' g2 e2)
    · rw [holdobj o h1] at ho
      rw [hnewobj k' hk', AObj.ren_live] at ho'
      rw [hloc2 k' hk'] at e'
      have e2 : loc o = .blk b c := by simpa only [loc2, if_neg h3] using e
      rcases Nat.lt_or_ge k' ids.length with hk1 | hk1
      · rw [hl1 k' hk1] at e'
        have := hs.inj o _ b c c' ho (hid k' hk1).2 e2 e'
        exact absurd (this.symm ▸ (hid k' hk1).1) h2
      · exact absurd ((hborn k' b c' hk1 hk' ho' e').imp id .inr) (hfb o b c ho h2 e2)
    · rw [holdobj o h1] at ho
      rw [holdobj o' g1] at ho'
      have e2 : loc o = .blk b c := by simpa only [loc2, if_neg h3] using e
      have e2' : loc o' = .blk b c' := by simpa only [loc2, if_neg g3] using e'
      exact hs.inj o o' b c c' ho ho' e2 e2'
  · rintro b (hb | ⟨hb, _⟩)
    · have := hs.imm b hb; omega
    · exact hp.sg.sr.imm b hb
  · intro o b c ho e
    rcases hcase o with ⟨k, hk, rfl⟩ | ⟨h1, h2, h3⟩
    · rw [hnewobj k hk, AObj.ren_live] at ho
      rw [hloc2 k hk] at e
      have hsp := hp.sg.sr.sep k b c (by rw [O8, w4 hk]; exact ho) e
      refine ⟨?_, fun hb => ?_⟩
      · rintro (hb | ⟨hb, _⟩)
        · exact hsp.1 (hII1 b hb)
        · exact hsp.1 hb
      · rcases Nat.lt_or_ge k ids.length with hk1 | hk1
        · rw [hl1 k hk1] at e
          exact (hs.sep _ b c (hid k hk1).2 e).2 hb
        · rcases hborn k b c hk1 hk ho e with h | ⟨j, c', hj, h⟩
          · have := hs.fr.size; omega
          · exact (hs.sep _ b c' (hid j hj).2 h).2 hb
    · rw [holdobj o h1] at ho
      have e2 : loc o = .blk b c := by simpa only [loc2, if_neg h3] using e
      have hsp := hs.sep o b c ho e2
      refine ⟨?_, hsp.2⟩
      rintro (hb | ⟨_, hb⟩)
      · exact hsp.1 hb
      · exact hfb o b c ho h2 e2 hb
  · refine hs.fr.of_prot hp.sg.sr.fr.os hp.sg.sr.fr.tape hp.sg.sr.fr.output hsize (fun b hb hpr hf => hfix b (by have := hs.fr.size; omega) (og.prot hpr) (fun k hk c e => ?_)) hp.sg.sr.fr.drawn
    exact hf ((hs.sep _ b c (hid k hk).2 e).2 hb)
  · rcases hb with hb | ⟨_, hb | hb | ⟨k, c, hk, hb⟩⟩
    · exact hs.top b hb
    · exact .inr (.inl (.inl (by have := hs.fr.size; omega)))
    · by_cases ho : E.γ0.O b
      · exact absurd (og.own b ho) hb
      · exact .inr (.inl (.inr ho))
    · rcases Nat.lt_or_ge b E.w0.heap.size with hlt | hge
      · exact .inr (.inr ((hs.sep _ b c (hid k hk).2 hb).2 hlt))
      · exact .inr (.inl (.inl hge))
  · rintro b (hb | ⟨hb, _⟩)
    · exact (og.rd b hb).imp (hog.own b) (hog.fro b)
    · exact hog.rd b hb
  · rcases hcase o with ⟨k, hk, rfl⟩ | ⟨h1, h2, h3⟩
    · rw [hnewobj k hk, AObj.ren_live] at ho
      rw [hloc2 k hk] at e
      exact hog.live k b c (by rw [O8, w4 hk]; exact ho) e
    · rw [holdobj o h1] at ho
      have e2 : loc o = .blk b c := by simpa only [loc2, if_neg h3] using e
      exact hog.own b (og.live o b c ho e2)
theorem zBK {C : G4} {γ : Gh} (hC : ∀ loc vs w γ R R', (∀ e w' γ', R e w' γ' → R' e w' γ') → C loc vs w γ R → C loc vs w γ R') {avs : List AV} {vs : Array Value} {nx : Nat} {ids ex : List Nat} {args : List AV} {fp : List AObj} {r : AV} {out : List AObj} (hs : SG E I γ loc σ a w)
  (hl : avs.length = vs.size) (hv : ∀ i (h : i < avs.length) (h' : i < vs.size), VR w I loc avs[i] vs[i]) (hm : MetX C avs σ.obj nx ids ex args fp r out) :
  C (zUQ (r9 ids) loc) vs w γ fun e w' γ' => ∃ v I' loc', e = .returned v ∧ SG E I' γ' loc' (σ.writes (u7 ids nx out)) a w' ∧ VR w' I' loc' (r.ren (x9 ids nx)) v ∧ ∀ o, loc o ≠ .un → loc' o = loc o := by
 obtain ⟨⟨h1, h2, h3⟩, hb⟩ := zCP hs hl hv (⟨fun _ _ _ _ _ _ _ _ => trivial, hm.nodup, hm.apart, hm.args, hm.fpl, hm.fps, hm.scal, hm.fresh, hm.unb⟩ : MetX (fun _ _ _ _ _ => True) avs σ.obj nx ids ex args fp r out)
 exact hC _ _ _ _ _ _ hb (hm.spec w _ γ _ vs h1 h2 h3)
theorem zJU {γ : Gh} {f : FuncId} {avs : List AV} {vs : Array Value} {nx : Nat} {ids ex : List Nat} {args : List AV} {fp : List AObj} {r : AV} {out : List AObj} (hs : SG E I γ loc σ a w)
  (hl : avs.length = vs.size) (hv : ∀ i (h : i < avs.length) (h' : i < vs.size), VR w I loc avs[i] vs[i]) (hm : Met P f avs σ.obj nx ids ex args fp r out) :
  U6 (Cur.way P) .normal f vs (fun e w' γ' => ∃ v I' loc', e = .returned v ∧ SG E I' γ' loc' (σ.writes (u7 ids nx out)) a w' ∧ VR w' I' loc' (r.ren (x9 ids nx)) v ∧ ∀ o, loc o ≠ .un → loc' o = loc o) w γ :=
 zBK (C := zCO P f) (fun _ _ _ _ _ _ h hc => R6 hc h) hs hl hv hm
theorem zML {fs : List Nat} {wr : List (Nat × AObj)} (σ : AS) : ((Y6 σ fs).writes wr).n = (σ.writes (w5 fs ++ wr)).n ∧ (∀ t, ((Y6 σ fs).writes wr).get t = (σ.writes (w5 fs ++ wr)).get t) ∧ ∀ o, ((Y6 σ fs).writes wr).obj o = (σ.writes (w5 fs ++ wr)).obj o := by
 obtain ⟨h1, h2, h3⟩ := zD8 fs σ
 obtain ⟨g1, g2⟩ := E8 σ fs
 rw [zIB]
 have key : ∀ (wr : List (Nat × AObj)) (τ τ' : AS), (∀ o, τ.obj o = τ'.obj o) → ∀ o, (τ.writes wr).obj o = (τ'.writes wr).obj o := fun wr => by
  induction wr with
  | nil => exact fun τ τ' h => h
  | cons p wr ih => exact fun τ τ' h => ih (τ.setO p.1 p.2) (τ'.setO p.1 p.2) (fun o => by rw [AS.obj_setO, AS.obj_setO, h])
 refine ⟨by rw [(U1 wr _).1, (U1 wr _).1, g1, h1], fun t => by rw [(U1 wr _).2, (U1 wr _).2, g2, h2], key wr _ _ (fun o => by rw [I5, h3])⟩
theorem zCM {γ : Gh} {f : FuncId} {avs : List AV} {vs : Array Value} {nx : Nat} {K : Cont} (hs : SG E I γ loc σ a w)
  (hl : avs.length = vs.size) (hv : ∀ i (h : i < avs.length) (h' : i < vs.size), VR w I loc avs[i] vs[i]) (h : y2 P f avs σ.obj nx K) :
  ∃ r rd wr, K r rd wr ∧ U6 (Cur.way P) .normal f vs (fun e w' γ' => ∃ v I' loc', e = .returned v ∧ SG E I' γ' loc' (σ.writes wr) a w' ∧ VR w' I' loc' r v ∧ ∀ o, loc o ≠ .un → loc' o = loc o) w γ := by
 obtain ⟨gone, as', hx, ids, ex, args, fp, r, out, hm, hK⟩ := h
 have hs1 := hs.freeze gone
 obtain ⟨ga, gv⟩ := zCC (w := w) (w' := w) (I' := zUW σ.obj (· ∈ gone) loc I) (loc' := loc) (vs := vs.toList) hx (by simpa using hl) (fun i h h' => by have := hv i h (by simpa using h'); simpa using this)
  (fun x y v hxy hyv => by have := Xp.sound hs.sr hxy hyv; rwa [zDD] at this)
 have hobj : (Y6 σ gone).obj = (fun o => if o ∈ gone then .dead else σ.obj o) := funext fun o => I5 σ gone o
 rw [← hobj] at hm
 refine ⟨_, _, _, hK, R6 (zJU hs1 (by simpa using ga) (fun i h h' => by have := gv i h (by simpa using h'); simpa using this) hm) ?_⟩
 rintro e w' γ' ⟨v, I', loc', he, hsr, hvr, hk⟩
 obtain ⟨h1, h2, h3⟩ := zML (fs := gone) (wr := u7 ids nx out) σ
 exact ⟨v, I', loc', he, hsr.congr h1.symm (fun t => (h2 t).symm) (fun o => (h3 o).symm), hvr, hk⟩
end
end Go.Abs

namespace Go.Abs
open Go
section
variable {P : Program} {E : Env} {I : Nat → Prop} {loc : Nat → Loc} {σ : AS} {a : Act} {w : World}
theorem I9 {t k e : TypeId} (h : zVQ P t = some (k, e)) : P.underlying t = some (.map k e) := by
 unfold zVQ at h
 split at h
 ·rename_i hu; cases h; exact hu
 ·cases h
theorem zBb {k : AV} {kv : Value} (h : zVR k = some kv) {v : Value} (hv : VR w I loc k v) : v = kv := by
 unfold zVR at h
 split at h
 ·cases h; exact hv.raw_eq
 ·rename_i cs
  cases hr : Q1 cs with
  | none => rw [hr] at h; cases h
  | some vs =>
   rw [hr] at h; cases h
   obtain ⟨us, rfl, h1, h2⟩ := hv.agg_inv
   have := H4 hr us.toList (by simpa using h1) (fun i h h' => by have := h2 i h (by simpa using h'); simpa using this)
   rw [← this]
 ·cases h
theorem zFj {k : Value} : ∀ {ks : List Value}, k ∉ ks → zUo k ks = none
 | [], _ => rfl
 | x :: r, h => by
  have hx : ¬ x = k := fun e => h (by simp [e])
  have hr : k ∉ r := fun e => h (by simp [e])
  simp only [zUo, hx, if_false, zFj hr, Option.map_none]
theorem zDJ {α : Type} {l : List α} (hn : l.Nodup) {i j : Nat} {hi : i < l.length} {hj : j < l.length} : l[i] = l[j] ↔ i = j := by
 constructor
 ·intro h
  rcases Nat.lt_trichotomy i j with h' | h' | h'
  ·exact absurd h ((List.pairwise_iff_getElem.1 hn) i j hi hj h')
  ·exact h'
  ·exact absurd h.symm ((List.pairwise_iff_getElem.1 hn) j i hj hi h')
 ·rintro rfl; rfl
theorem zHl {α : Type} [DecidableEq α] : ∀ {a b : List α}, a.Nodup → (∀ x, x ∈ a → x ∈ b) → b.length ≤ a.length → ∀ x, x ∈ b → x ∈ a
 | [], b, _, _, hl, x, hx => by
  have : b = [] := List.eq_nil_of_length_eq_zero (by simpa using hl)
  subst this; simp at hx
 | y :: r, b, hn, hs, hl, x, hx => by
  obtain ⟨hy, hr⟩ := List.nodup_cons.1 hn
  by_cases e : x = y
  ·subst e; simp
  ·have hyb := hs y (by simp)
   have hlen := List.length_erase_of_mem hyb
   have hpos : 0 < b.length := List.length_pos_of_mem hyb
   refine List.mem_cons_of_mem _ (zHl (b := b.erase y) hr (fun z hz => ?_) (by simp at hl; omega) x ?_)
   ·exact (List.mem_erase_of_ne (fun e => by subst e; exact hy hz)).2 (hs z (by simp [hz]))
   ·exact (List.mem_erase_of_ne e).2 hx
open Classical in
theorem A5 {ks : List Value} {xs : List AV} {es : List MapEntry} {clock : Nat} {R : AV → Value → Prop} (hs : U2 ks xs.length es clock) (hv : MapVals R ks xs es) {k : Value} : k ∈ ks ↔ k ∈ es.map (·.key) := by
 obtain ⟨h1, h2, h3, h4, _⟩ := hs
 have hsub : ∀ x, x ∈ ks → x ∈ es.map (·.key) := fun x hx => by
  obtain ⟨i, hi, rfl⟩ := List.getElem_of_mem hx
  obtain ⟨e, g1, g2, _⟩ := hv i hi (by omega)
  exact List.mem_map.2 ⟨e, g1, g2⟩
 exact ⟨hsub k, zHl h3 hsub (by simp; omega) k⟩
theorem zEt {es : List MapEntry} (hn : (es.map (·.key)).Nodup) {x y : MapEntry} (hx : x ∈ es) (hy : y ∈ es) (h : x.key = y.key) : x = y := by
 obtain ⟨i, hi, rfl⟩ := List.getElem_of_mem hx
 obtain ⟨j, hj, rfl⟩ := List.getElem_of_mem hy
 have : i = j := (zDJ hn (hi := by simpa using hi) (hj := by simpa using hj)).1 (by simpa using h)
 subst this; rfl
theorem zCx {k : Value} : ∀ {ks : List Value} {i : Nat}, ks.Nodup → ks[i]? = some k → zUo k ks = some i
 | [], i, _, h => by simp at h
 | x :: r, 0, hn, h => by
  simp at h; subst h
  simp [zUo]
 | x :: r, i + 1, hn, h => by
  simp at h
  have hx : ¬ x = k := fun e => by
   subst e
   exact (List.nodup_cons.1 hn).1 (List.mem_of_getElem? h)
  simp only [zUo, hx, if_false, zCx (List.nodup_cons.1 hn).2 h, Option.map_some]
theorem zMn {t nx : Nat} {r : Option AV} {vr : Option Value} {K : Cont} (hs : SR E I loc σ a w) (hr : ∀ x, r = some x → ∃ v, vr = some v ∧ VR w I loc x v) (hr0 : r = none → vr = none) (h : A7 P t r σ.obj nx K) :
  ∃ v rd A w' loc' y, K v rd [(nx, A)] ∧ (Instr.makeMap t vr).run P w = .ok y w' ∧ SR E I loc' (σ.setO nx A) a w' ∧ VR w' I loc' v y := by
 have fin : ∀ (hnx : σ.obj nx = .unb), SR E I (y1 loc nx (.blk w.heap.size 0)) (σ.setO nx (.mapo [] [])) a (w.alloc (.map #[] 0)) ∧ VR (w.alloc (.map #[] 0)) I (y1 loc nx (.blk w.heap.size 0)) (.mp nx) (.map (some w.heap.size)) := fun hnx => by
  refine ⟨hs.born hnx _ ⟨w.heap.size, #[], 0, by simp [y1], heap_alloc_new w _, ⟨rfl, rfl, List.nodup_nil, List.nodup_nil, List.Pairwise.nil, fun e he => by simp at he⟩, fun i h => by simp at h⟩, .mp _ w.heap.size 0 (by simp [y1])⟩
 unfold A7 at h
 split at h
 ·obtain ⟨hnx, hK⟩ := h
  rw [hr0 rfl]
  refine ⟨_, _, _, _, _, _, hK, ?_, (fin hnx).1, (fin hnx).2⟩
  simp [Instr.makeMap]
 ·rename_i k n
  obtain ⟨hm, hnx, hK⟩ := h
  obtain ⟨v, hv, hvr⟩ := hr _ rfl
  have e := hvr.raw_eq
  subst e
  obtain ⟨⟨kt, et⟩, hmt⟩ := Option.isSome_iff_exists.1 hm
  refine ⟨_, _, _, _, _, _, hK, ?_, (fin hnx).1, (fin hnx).2⟩
  rw [hv]
  simp [Instr.makeMap, run_underlying (I9 hmt), asInt, asIntOf]
 ·exact h.elim
theorem zDG {k : TypeId} (hk : Maps.Keyed P k) {k' : Value} (hkb : zVA P k k') {R : AV → Value → Prop} {es : List MapEntry} {ks : List Value} {xs : List AV} {clock : Nat} (hall : ∀ q, q ∈ ks → zVA P k q) (hs : U2 ks xs.length es clock) (hv : MapVals R ks xs es) :
  ((Instr.findKey k k' es).run P w = .ok none w ∧ zUo k' ks = none) ∨ ∃ j i, ∃ h : j < es.length, ∃ hi : i < ks.length, ∃ hi' : i < xs.length, (Instr.findKey k k' es).run P w = .ok (some (j, es[j].val)) w ∧ zUo k' ks = some i ∧ es[j].key = k' ∧ ks[i] = k' ∧ R xs[i] es[j].val := by
 obtain ⟨_, l, hl⟩ := hkb
 have hes : ∀ e ∈ es, ∃ l, keyOf P k e.key = some l := fun e hm => (hall _ ((A5 hs hv).2 (List.mem_map.2 ⟨e, hm, rfl⟩))).2
 rcases hk.find w hl es hes with ⟨h1, h2⟩ | ⟨j, e, h1, h2, h3⟩
 ·refine .inl ⟨h1, zFj (fun hin => ?_)⟩
  obtain ⟨e, hm, hke⟩ := List.mem_map.1 ((A5 hs hv).1 hin)
  exact h2 e hm hke
 ·obtain ⟨hj, hje⟩ := List.getElem?_eq_some_iff.1 h2
  have hin : k' ∈ ks := (A5 hs hv).2 (List.mem_map.2 ⟨e, List.mem_of_getElem? h2, h3⟩)
  obtain ⟨i, hi, hie⟩ := List.getElem_of_mem hin
  have hi' : i < xs.length := by have := hs.1; omega
  obtain ⟨e', g1, g2, g3⟩ := hv i hi hi'
  have : e' = es[j] := zEt hs.2.2.2.1 g1 (List.getElem_mem hj) (by rw [g2, hje, h3, hie])
  subst this
  exact .inr ⟨j, i, hj, hi, hi', by rw [hje]; exact h1, zCx hs.2.2.1 (List.getElem?_eq_some_iff.2 ⟨hi, hie⟩), by rw [hje]; exact h3, hie, g3⟩
theorem zGE {t : TypeId} {m k x : AV} {vm vk vx : Value} {K : Cont} (hs : SR E I loc σ a w) (hm : VR w I loc m vm) (hk : VR w I loc k vk) (hx : VR w I loc x vx) (h : N1 P t m k x σ.obj K) :
    ∃ rd wr w' I', K (.tup []) rd wr ∧ (Instr.mapUpdate t vm vk vx).run P w = .ok () w' ∧ SR E I' loc (σ.writes wr) a w' := by
  unfold N1 at h
  split at h
  · rename_i kt et o kv hmt hkv
    generalize hA : σ.obj o = A at h
    cases A with
    | mapo ks xs =>
      obtain ⟨hK, hkb, hall, hp, hno, h⟩ := h
      have e := zBb hkv hk
      subst e
      cases hm with
      | pure hm => cases hm
      | mp _ b c hl =>
        have ho := hs.objs o
        rw [hA] at ho
        obtain ⟨b', es, clock, h1, h2, h3, h4⟩ := ho
        rw [hl] at h1; cases h1
        obtain ⟨h3a, h3b, h3c, h3k, h3d, h3e⟩ := id h3
        let fs := (zUO σ.obj 3 x).2
        have hs1 := hs.freeze fs
        have hofs : o ∉ fs := fun hin => by
          have : fs.contains o = true := by simpa using hin
          rw [hno] at this; cases this
        have hA1 : (Y6 σ fs).obj o = .mapo ks xs := by rw [I5, if_neg hofs]; exact hA
        have hvx : PR w (zUW σ.obj (· ∈ fs) loc I) (zUO σ.obj 3 x).1 vx := (zFK hs hx (fun _ ho => ho)).toPR hp
        have hbI : ¬ zUW σ.obj (· ∈ fs) loc I b := (hs1.sep o b 0 (by rw [hA1]; rfl) hl).1
        have hsz : w.heap.size = (w.heap.setIfInBounds b (.map #[] 0)).size := by simp
        have hset : ∀ ob : Obj, (setObj b ob).run P w = .ok () { w with heap := w.heap.setIfInBounds b ob } := fun ob => MapKept.run_setObj_map ob h2
        have hblt : b < w.heap.size := (Array.getElem?_eq_some_iff.1 h2).1
        have hmono : ∀ ob : Obj, ∀ q, zUW σ.obj (· ∈ fs) loc I q → ({ w with heap := w.heap.setIfInBounds b ob } : World).heap[q]? = w.heap[q]? := fun ob q hq => by
          have : b ≠ q := fun e => hbI (e ▸ hq)
          simp [Array.getElem?_setIfInBounds, this]
        have h4' : MapVals (PR w (zUW σ.obj (· ∈ fs) loc I)) ks xs es.toList := h4.imp (fun i hi v hv => hv.mono (fun _ _ => rfl) (fun _ hb => .inl hb))
        obtain ⟨hkf, l, hkl⟩ := hkb
        have hchk := hK.check w false hkl
        have hxl : xs.length = es.size := by simpa using h3b
        have fin : ∀ (es' : Array MapEntry) (clock' : Nat) (ks' : List Value) (xs' : List AV), U2 ks' xs'.length es'.toList clock' → MapVals (PR w (zUW σ.obj (· ∈ fs) loc I)) ks' xs' es'.toList →
            zVb ks vk = ks' → zVc ks xs vk (zUO σ.obj 3 x).1 = xs' → (Instr.mapUpdate t (.map (some b)) vk vx).run P w = .ok () { w with heap := w.heap.setIfInBounds b (.map es' clock') } →
            ∃ rd wr w' I', K (.tup []) rd wr ∧ (Instr.mapUpdate t (.map (some b)) vk vx).run P w = .ok () w' ∧ SR E I' loc (σ.writes wr) a w' := by
          intro es' clock' ks' xs' hsh hpr e1 e2 hrun
          rw [e1, e2] at h
          refine ⟨_, _, _, _, h, hrun, SR.thenWrite (hs1.writeG (w' := { w with heap := w.heap.setIfInBounds b (.map es' clock') }) (A := .mapo ks' xs') (by rw [hA1]; rfl) hl rfl rfl rfl (by simp) (fun q hq => ?_) ⟨b, es', clock', hl, ?_, hsh, hpr.imp (fun i hi v hv => hv.mono (hmono _) (fun _ x => x))⟩ (by simp))⟩
          · simp [Array.getElem?_setIfInBounds, hq.symm]
          · simp [hblt]
        rcases zDG (w := w) hK ⟨hkf, l, hkl⟩ hall h3 h4' with ⟨g1, g2⟩ | ⟨j, i, hj, hi, hi', g1, g2, g3, g4, g5⟩
        · have hnew : vk ∉ ks := fun hin => by
            obtain ⟨i, hi, e⟩ := List.getElem_of_mem hin
            have := zCx h3c (List.getElem?_eq_some_iff.2 ⟨hi, e⟩)
            rw [g2] at this; cases this
          refine fin (es.push { key := vk, val := vx, born := clock }) (clock + 1) (ks ++ [vk]) (xs ++ [(zUO σ.obj 3 x).1]) ⟨by simp [h3a], by simp [hxl], ?_, ?_, ?_, ?_⟩ (fun i hi hi' => ?_) (by simp [zVb, g2]) (by simp [zVc, g2]) ?_
          · rw [List.nodup_append]
            refine ⟨h3c, by simp, fun p hp q hq => ?_⟩
            simp at hq; subst hq
            rintro rfl; exact hnew hp
          · rw [Array.toList_push, List.map_append, List.nodup_append]
            refine ⟨h3k, by simp, fun p hp q hq => ?_⟩
            simp at hq; subst hq
            rintro rfl
            exact hnew ((A5 h3 h4).2 hp)
          · rw [Array.toList_push, List.pairwise_append]
            exact ⟨h3d, by simp, fun p hp q hq => by simp at hq; subst hq; exact h3e p hp⟩
          · intro e he
            rw [Array.toList_push, List.mem_append] at he
            rcases he with he | he
            · have := h3e e he; omega
            · simp at he; subst he; simp
          · by_cases hlt : i < xs.length
            · obtain ⟨e, q1, q2, q3⟩ := h4' i (by omega) hlt
              exact ⟨e, by simp at q1 ⊢; exact .inl q1, by rw [List.getElem_append_left (by omega)]; exact q2, by rw [List.getElem_append_left hlt]; exact q3⟩
            · have hie : i = xs.length := by simp at hi'; omega
              refine ⟨{ key := vk, val := vx, born := clock }, by simp, ?_, ?_⟩
              · rw [List.getElem_append_right (by omega)]; simp
              · rw [List.getElem_append_right (by omega)]; simpa using hvx
          · simp [Instr.mapUpdate, run_underlying (I9 hmt), MapKept.run_getObj_map h2, hchk, g1, hset]
        · have hjs : j < es.size := by simpa using hj
          have hkey : es[j].key = vk := by simpa using g3
          have hst := hK.stays w hkl
          have hkm : (es.modify j fun e => { e with key := vk, val := vx }).toList.map (·.key) = es.toList.map (·.key) := by
            apply List.ext_getElem (by simp)
            intro i h1 h2
            simp only [List.getElem_map, Array.getElem_toList, Array.getElem_modify]
            split
            · rename_i e; subst e; exact hkey.symm
            · rfl
          refine fin (es.modify j fun e => { e with key := vk, val := vx }) clock ks (xs.set i (zUO σ.obj 3 x).1) ⟨by simp [h3a], by simp [hxl], h3c, by rw [hkm]; exact h3k, ?_, ?_⟩ (fun i2 hi2 hi2' => ?_) (by simp [zVb, g2]) (by simp [zVc, g2]) ?_
          · rw [List.pairwise_iff_getElem] at h3d ⊢
            intro i i' hi hi' hlt
            have := h3d i i' (by simpa using hi) (by simpa using hi') hlt
            simp only [Array.getElem_toList, Array.getElem_modify] at this ⊢
            split <;> split <;> simpa using this
          · intro e he
            obtain ⟨i, hi, rfl⟩ := List.getElem_of_mem he
            have := h3e (es[i]'(by simpa using hi)) (by simp)
            simp only [Array.getElem_toList, Array.getElem_modify]
            split <;> simpa using this
          · by_cases hii : i = i2
            · subst hii
              refine ⟨(es.modify j fun e => { e with key := vk, val := vx })[j]'(by simpa using hjs), Array.mem_toList_iff.2 (Array.getElem_mem _), ?_, ?_⟩
              · simp [Array.getElem_modify, g4]
              · simpa [Array.getElem_modify] using hvx
            · rw [List.getElem_set_ne hii]
              simp only [List.length_set] at hi2'
              obtain ⟨e, q1, q2, q3⟩ := h4' i2 hi2 hi2'
              obtain ⟨j2, hj2, rfl⟩ := List.getElem_of_mem q1
              have hne : j ≠ j2 := fun e => by
                subst e
                apply hii
                have : ks[i] = ks[i2] := by rw [g4, ← q2, g3]
                exact (zDJ h3c).1 this
              refine ⟨(es.modify j fun e => { e with key := vk, val := vx })[j2]'(by simpa using hj2), Array.mem_toList_iff.2 (Array.getElem_mem _), ?_, ?_⟩
              · simp only [Array.getElem_modify, if_neg hne]; simpa using q2
              · simp only [Array.getElem_modify, if_neg hne]; simpa using q3
          · simp [Instr.mapUpdate, run_underlying (I9 hmt), MapKept.run_getObj_map h2, hchk, g1, hset, hjs, hkey, hst]
    | _ => exact h.elim
  · exact h.elim
theorem zID {z : Value} (h : z.cells.all (·.oneCell') = true) : PR w I (zAV z) z := by
 unfold zAV
 split
 ·exact .nil none 0
 ·exact .nmap
 ·have hv := H1 (w := w) (I := I) (loc := fun _ => .un) z
  refine hv.toPR ?_
  unfold i5
  split
  ·split
   ·exact .agg _ (fun c hc => by obtain ⟨v, _, rfl⟩ := List.mem_map.1 hc; exact .raw _)
   ·exact .any
  ·exact .any
  ·exact .raw _
theorem zMh {t : TypeId} {m k : AV} {vm vk : Value} {ok : Bool} {K : Cont} (hs : SR E I loc σ a w) (hm : VR w I loc m vm) (hk : VR w I loc k vk) (h : I8 P t m k ok σ.obj K) :
    ∃ v rd y, K v rd [] ∧ (Instr.lookup t vm vk ok).run P w = .ok y w ∧ VR w I loc v y := by
  unfold I8 at h
  split at h
  · rename_i kt et kv hmt hkv
    cases hz : zeroT P et with
    | none => simp only [hz] at h
    | some z =>
      simp only [hz] at h
      obtain ⟨hK, hkb, hzo, h⟩ := h
      have e := zBb hkv hk
      subst e
      have hkb' := hkb
      obtain ⟨_, l, hkl⟩ := hkb
      have hzr : (zeroValue et).run P w = .ok z w := L8 hz
      have core : ∀ (ks : List Value) (xs : List AV) (b : Nat) (es : Array MapEntry) (clock : Nat), w.heap[b]? = some (.map es clock) → U2 ks xs.length es.toList clock → MapVals (PR w I) ks xs es.toList → (∀ q, q ∈ ks → zVA P kt q) →
          ∃ y, (Instr.lookup t (.map (some b)) vk ok).run P w = .ok y w ∧ VR w I loc (if ok = true then .tup [P1 ks xs vk (zAV z), .raw (.bool (zVV ks vk))] else P1 ks xs vk (zAV z)) y := by
        intro ks xs b es clock h2 h3 h4 hall
        have hchk := hK.check w es.isEmpty hkl
        rcases zDG (w := w) hK hkb' hall h3 h4 with ⟨g1, g2⟩ | ⟨j, i, hj, hi, hi', g1, g2, g3, g4, g5⟩
        · refine ⟨if ok = true then .tuple #[z, .bool false] else z, ?_, ?_⟩
          · simp [Instr.lookup, run_underlying (I9 hmt), MapKept.run_getObj_map h2, hchk, g1, hzr]
          · simp only [P1, zVV, g2, Option.isSome_none]
            have hzp : VR w I loc (zAV z) z := .pure (zID hzo)
            cases ok
            · exact hzp
            · refine .tup _ _ rfl (fun i hi hi' => ?_)
              have : i = 0 ∨ i = 1 := by simp at hi; omega
              rcases this with rfl | rfl
              · exact hzp
              · exact .pure (.raw _ rfl)
        · have hjs : j < es.size := by simpa using hj
          refine ⟨if ok = true then .tuple #[es[j].val, .bool true] else es[j].val, ?_, ?_⟩
          · have g1' : (Instr.findKey kt vk es.toList).run P w = .ok (some (j, es[j].val)) w := by simpa using g1
            simp [Instr.lookup, run_underlying (I9 hmt), MapKept.run_getObj_map h2, hchk, g1']
          · simp only [P1, zVV, g2, Option.isSome_some]
            have hvp : VR w I loc (xs.getD i .any) es[j].val := by rw [w4 hi']; exact .pure (by simpa using g5)
            cases ok
            · exact hvp
            · refine .tup _ _ rfl (fun i hi hi' => ?_)
              have : i = 0 ∨ i = 1 := by simp at hi; omega
              rcases this with rfl | rfl
              · exact hvp
              · exact .pure (.raw _ rfl)
      split at h
      · rename_i ks xs
        obtain ⟨hall, h⟩ := h
        cases hm.toPR (.fmap _ _) with
        | nmap =>
          have hchk := hK.check w true hkl
          refine ⟨_, _, if ok = true then .tuple #[z, .bool false] else z, h, ?_, ?_⟩
          · have hf : (Instr.findKey kt vk []).run P w = .ok none w := by
              rcases zDG (w := w) hK hkb' (R := PR w I) (es := []) (ks := []) (xs := []) (clock := 0) (fun q hq => by simp at hq) ⟨rfl, rfl, List.nodup_nil, List.nodup_nil, List.Pairwise.nil, fun e he => by simp at he⟩ (fun i hi => by simp at hi) with ⟨g1, _⟩ | ⟨j, i, hj, _⟩
              · exact g1
              · simp at hj
            simp [Instr.lookup, run_underlying (I9 hmt), hchk, hf, hzr]
          · have hzp : VR w I loc (zAV z) z := .pure (zID hzo)
            simp only [P1, zVV, zUo, Option.isSome_none]
            cases ok
            · exact hzp
            · refine .tup _ _ rfl (fun i hi hi' => ?_)
              have : i = 0 ∨ i = 1 := by simp at hi; omega
              rcases this with rfl | rfl
              · exact hzp
              · exact .pure (.raw _ rfl)
        | fmap b es clock _ _ V hb hh hsh hV hpr =>
          obtain ⟨y, h1, h2⟩ := core ks xs b es clock hh hsh (PR.fmap_vals hV hpr) hall
          exact ⟨_, _, y, h, h1, h2⟩
      · rename_i o
        generalize hA : σ.obj o = A at h
        cases A with
        | mapo ks xs =>
          obtain ⟨hall, h⟩ := h
          cases hm with
          | pure hm => cases hm
          | mp _ b c hl =>
            have ho := hs.objs o
            rw [hA] at ho
            obtain ⟨b', es, clock, h1, h2, h3, h4⟩ := ho
            rw [hl] at h1; cases h1
            obtain ⟨y, h5, h6⟩ := core ks xs b es clock h2 h3 h4 hall
            exact ⟨_, _, y, h, h5, h6⟩
        | _ => exact h.elim
      · exact h.elim
  · exact h.elim
theorem zNV {t nx : Nat} {x : AV} {u : Value} {K : Cont} (hs : SR E I loc σ a w) (hx : VR w I loc x u) (h : D1 P t x σ.obj nx K) :
  ∃ v rd A w' loc' y, K v rd [(nx, A)] ∧ (Instr.range t u).run P w = .ok y w' ∧ SR E I loc' (σ.setO nx A) a w' ∧ VR w' I loc' v y := by
 unfold D1 at h
 split at h
 ·rename_i ks xs
  obtain ⟨hm, hnx, hK⟩ := h
  obtain ⟨⟨kt, et⟩, hmt⟩ := Option.isSome_iff_exists.1 hm
  cases hx.toPR (.fmap _ _) with
  | nmap =>
   refine ⟨_, _, _, w.alloc (.mapIter none 0 #[] 0), y1 loc nx (.blk w.heap.size 0), .pointer (some ⟨w.heap.size, 0, none⟩), hK, ?_, hs.born hnx _ ⟨w.heap.size, by simp [y1], .inl ⟨0, #[], 0, heap_alloc_new w _, rfl, rfl, rfl⟩⟩, .ptr _ _ _ 0 (by simp [y1])⟩
   simp [Instr.range, run_underlying (I9 hmt)]
  | fmap b es clock _ _ V hb hh hsh hV hpr =>
   have hbw := hs.imm b hb
   have hh' : (w.alloc (.mapIter (some b) clock #[] clock)).heap[b]? = some (.map es clock) := by rw [Z8 _ _ _ hbw]; exact hh
   have hfil : es.toList.filter (fun e => !(#[] : Array Nat).contains e.born) = es.toList := List.filter_eq_self.2 (fun _ _ => by simp)
   refine ⟨_, _, _, w.alloc (.mapIter (some b) clock #[] clock), y1 loc nx (.blk w.heap.size 0), .pointer (some ⟨w.heap.size, 0, none⟩), hK, ?_, hs.born hnx _ ⟨w.heap.size, by simp [y1], .inr ⟨b, es, clock, #[], heap_alloc_new w _, hb, hh', ?_, ?_, ?_, fun p hp => by cases hp⟩⟩, .ptr _ _ _ 0 (by simp [y1])⟩
   ·simp [Instr.range, run_underlying (I9 hmt), MapKept.run_getObj_map hh]
   ·exact ⟨by simp, by simp, hsh.2.2.2.1, hsh.2.2.2⟩
   ·rw [hfil]; exact hsh
   ·rw [hfil]
    exact (PR.fmap_vals hV hpr).imp (fun i hi v hv => PR.alloc hs hv _)
 ·obtain ⟨hm, hnx, hK⟩ := h
  cases hx.toPR (.raw _) with
  | raw _ _ =>
   refine ⟨_, _, _, w.alloc (.stringIter _ 0), y1 loc nx (.blk w.heap.size 0), .pointer (some ⟨w.heap.size, 0, none⟩), hK, ?_, hs.born hnx _ ⟨w.heap.size, by simp [y1], heap_alloc_new w _⟩, .ptr _ _ _ 0 (by simp [y1])⟩
   simp [Instr.range, run_underlying (P7 hm)]
 ·exact h.elim
theorem zAY : ∀ (ys : List AV) (k : List UInt8 → Prop), M4 ys k → ∃ l : List UInt8, ys = l.map (fun b => .raw (.int .u8 (b.toNat : Int))) ∧ k l
 | [], k, h => ⟨[], rfl, h⟩
 | .raw (.int .u8 n) :: r, k, h => by
  obtain ⟨⟨h0, h1⟩, h⟩ := h
  obtain ⟨l, rfl, hk⟩ := zAY r _ h
  refine ⟨_, ?_, hk⟩
  have e : ((UInt8.ofNat n.toNat).toNat : Int) = n := by
   have : n.toNat < 256 := by omega
   rw [UInt8.toNat_ofNat_of_lt' (by simpa using this)]; omega
  rw [List.map_cons, e]
theorem zCL {k k' : List UInt8 → Prop} : ∀ (ys : List AV), M4 ys k → (∀ l, ys = l.map (fun b => .raw (.int .u8 (b.toNat : Int))) → k l → k' l) → M4 ys k'
  | [], h, f => f [] rfl h
  | .raw (.int .u8 n) :: r, ⟨⟨h0, h1⟩, h⟩, f => ⟨⟨h0, h1⟩, zCL r h (fun l e hk => f _ (by
      have e2 : ((UInt8.ofNat n.toNat).toNat : Int) = n := by
        have : n.toNat < 256 := by omega
        rw [UInt8.toNat_ofNat_of_lt' (by simpa using this)]; omega
      rw [List.map_cons, e2, ← e]) hk)⟩
theorem zJt {s d : TypeId} {x : AV} {u : Value} (hs : SR E I loc σ a w) (hsrc : (P.underlying s).isSome = true) (hx : VR w I loc x u) {K : Cont} (h : F7 P s d x σ.obj K) :
  ∃ v rd r, K v rd [] ∧ v = .raw r ∧ r.oneCell' = true ∧ (convert s d u).run P w = .ok r w := by
 unfold F7 at h
 split at h
 ·rename_i k _ n hk
  have e := hx.raw_eq; subst e
  cases hu : P.underlying s with
  | none => rw [hu] at hsrc; cases hsrc
  | some ds =>
   refine ⟨_, _, _, h, rfl, rfl, ?_⟩
   simp only [convert, Sem.run_bind, run_underlying hu, run_underlying (A3 hk), Result.andThen_ok]
   cases ds <;> rfl
 ·have e := hx.raw_eq; subst e
  exact ⟨_, _, _, h.2, rfl, rfl, run_convert_int_string w s d _ _ hsrc (P7 h.1)⟩
 ·have e := hx.raw_eq; subst e
  cases hu : P.underlying s with
  | none => rw [hu] at hsrc; cases hsrc
  | some ds =>
   refine ⟨_, _, _, h.2, rfl, rfl, ?_⟩
   simp only [convert, Sem.run_bind, run_underlying hu, run_underlying (P7 h.1), Result.andThen_ok]
   cases ds <;> rfl
 ·rename_i o z off len _
  obtain ⟨hd, h⟩ := h
  cases hsl : sliceT P s with
  | none => simp only [hsl] at h
  | some e =>
   cases hr : l6 σ.obj 1 (.own o z off len) with
   | none => simp only [hsl, hr] at h
   | some p =>
    obtain ⟨ys, rd⟩ := p
    simp only [hsl, hr] at h
    obtain ⟨he, hne, h⟩ := h
    obtain ⟨l, rfl, hK⟩ := zAY _ _ h
    have hse : P.underlying s = some (.slice e) := V5 hsl
    refine ⟨_, _, _, hK, rfl, rfl, ?_⟩
    rcases zBm hs hx hr (fun y hy => by obtain ⟨b, _, rfl⟩ := List.mem_map.1 hy; rfl) with ⟨h0, _⟩ | ⟨ad, c, news, rfl, hel, hc⟩
    ·exact absurd h0 hne
    ·rw [List.length_map]
     refine run_convert_bytes_back w s d e ad c l hse (A3 he) (P7 hd) (fun j hj => ?_)
     have hl : news.length = l.length := by have := hel.1; simp at this; omega
     have hv := hel.2 j (by simpa using hj) 0 (by simp [AV.cells]) (by simp; omega)
     simp only [List.getElem_map, AV.cells, List.getElem_singleton, Nat.mul_one, Nat.add_zero] at hv
     have := hv.raw_eq
     rw [hc j _ (by rw [List.getElem?_eq_getElem (by omega)])]
     exact congrArg some this
 ·exact h.elim
theorem SR.grown {w' : World} (h : SR E I loc σ a w) (ho : w'.os = w.os) (ht : w'.tape = w.tape) (hu : w'.output = w.output) (hz : w.heap.size ≤ w'.heap.size)
  (hk : ∀ k, k < w.heap.size → w'.heap[k]? = w.heap[k]?) (hd : D9 → w.drawn ≤ w'.drawn) : SR E I loc σ a w' := by
 have hI : ∀ b, I b → w'.heap[b]? = w.heap[b]? := fun b hb => hk b (h.imm b hb)
 exact ⟨h.defers.imp (fun r g1 g2 g3 g4 => ⟨by rw [hk r (Array.getElem?_eq_some_iff.1 g1).1]; exact g1, g2, g3, g4⟩), h.size, fun t => (h.tmps t).mono hI (fun _ x => x) (fun _ _ => rfl),
  fun o => (h.objs o).mono hI (fun _ x => x) (fun _ _ => rfl) (fun e => h.un e) (fun hl b c hb => hk b ((h.objs o).lt hl hb)), h.inj, fun b hb => by have := h.imm b hb; omega, h.sep,
  h.fr.of_same ho ht hu hz (fun b hb _ => hk b (by have := h.fr.size; omega)) hd, h.base, h.top, h.keep⟩
theorem SR.addI {b : Nat} {C : Array Value} {e : TypeId} {fr : Nat × Nat} (h : SR E I loc σ a w) (hb : w.heap[b]? = some (.cells C e fr)) (h0 : E.w0.heap.size ≤ b) (hn : ∀ o c, (σ.obj o).live = true → loc o ≠ .blk b c) : SR E (fun k => I k ∨ k = b) loc σ a w := by
 have hI : ∀ k, I k → I k ∨ k = b := fun k hk => .inl hk
 refine ⟨h.defers.imp (fun r g1 g2 g3 g4 => ⟨g1, fun hr => hr.elim g2 (fun e => by rw [e, hb] at g1; cases g1), g3, g4⟩), h.size, fun t => (h.tmps t).mono (fun _ _ => rfl) hI (fun _ _ => rfl),
  fun o => (h.objs o).mono (fun _ _ => rfl) hI (fun _ _ => rfl) (fun e => h.un e) (fun _ _ _ _ => rfl), h.inj, fun k hk => hk.elim (h.imm k) (fun e => by rw [e]; exact (Array.getElem?_eq_some_iff.1 hb).1), fun o k c hl hk => ⟨fun hi => hi.elim (h.sep o k c hl hk).1 (fun e => hn o c hl (e ▸ hk)), (h.sep o k c hl hk).2⟩,
  h.fr, fun k hk => .inl (h.base k hk), fun k hk => hk.elim (h.top k) (fun e => .inr (.inl (.inl (e ▸ h0)))), h.keep⟩
theorem zJu {s d : TypeId} {x : AV} {u : Value} (hs : SR E I loc σ a w) (hsrc : (P.underlying s).isSome = true) (hx : VR w I loc x u) {K : Cont} (h : K9 P s d x σ.obj K) :
  ∃ v rd w' I' r, K v rd [] ∧ (convert s d u).run P w = .ok r w' ∧ SR E I' loc σ a w' ∧ VR w' I' loc v r := by
 unfold K9 at h
 split at h
 ·rename_i e b hd
  obtain ⟨h1, h2, hK⟩ := h
  have ev := hx.raw_eq
  subst ev
  have hrun := Lib.run_convert_string_bytes (P := P) w s d e b (P7 h1) (V5 hd) (A3 h2)
  have hs1 := hs.grown (w' := Lib.bytesWorld w e b) rfl rfl rfl (by rw [Lib.bytesWorld_size]; omega) (fun k hk => Lib.bytesWorld_at_old w e b k hk) (fun _ => Nat.le_succ _)
  have hs2 := hs1.addI (b := w.heap.size) (Lib.bytesWorld_at_new w e b) hs.fr.size (fun o c hl hk => by have := (hs.objs o).lt hl hk; omega)
  refine ⟨_, _, _, _, _, hK, hrun, hs2, .pure ?_⟩
  by_cases hb : zU9 b = []
  ·rw [hb]
   have : b.size = 0 := by rw [← zHk, hb]; rfl
   rw [this]
   exact .nil _ _
  ·have hl := zHk b
   have hge := grownCap_ge w b.size 0 e
   have hp : PR (Lib.bytesWorld w e b) (fun k => I k ∨ k = w.heap.size) (.list (zU9 b)) (.slice (some ⟨w.heap.size, 0, none⟩) (zU9 b).length (grownCap w b.size 0 e)) := by
    refine .list w.heap.size 0 _ 1 (zU9 b) (fun i _ => .int .u8 ((b.data.toList.getD i 0).toNat : Int)) (.inr rfl) (by omega) (by omega) (fun i hi => ?_) (fun i j hi hj => ?_) (fun i hi j hj => ?_)
    ·obtain ⟨c, _, h2⟩ := zHj hi
     rw [h2]; rfl
    ·have hj0 : j = 0 := by omega
     subst hj0
     rw [show 0 + i * 1 + 0 = i by omega]
     exact Lib.bytesWorld_cell w e b i (by omega)
    ·obtain ⟨c, h1, h2⟩ := zHj hi
     have hj0 : j = 0 := by
      rw [h2] at hj
      simp only [AV.cells, List.length_cons, List.length_nil] at hj
      omega
     subst hj0
     rw [List.getD_eq_getElem?_getD, h1, Option.getD_some]
     simp only [h2, AV.cells, List.getElem_cons_zero]
     exact .raw _ rfl
   rw [hl] at hp
   exact hp
 ·obtain ⟨v, rd, r, hK, rfl, h1, h2⟩ := zJt (P := P) hs hsrc hx h
  exact ⟨_, _, w, I, r, hK, h2, hs, .pure (.raw _ h1)⟩
theorem zL7 {t : TypeId} {x : AV} {u : Value} (hx : VR w I loc x u) {K : Cont} (h : zAk P t x K) : ∃ v r, K v [] [] ∧ (Instr.makeInterface t u).run P w = .ok r w ∧ VR w I loc v r := by
 obtain ⟨hc, h⟩ := h
 have hr : (Instr.makeInterface t u).run P w = .ok (.iface t u) w := by
  unfold zAb at hc
  unfold Instr.makeInterface
  cases hu : P.underlying t with
  | none => rw [hu] at hc; cases hc
  | some d =>
   rw [hu] at hc
   rw [Sem.run_bind, run_underlying hu]
   cases d <;> first | rfl | cases hc
 cases x with
 | raw v => have e := hx.raw_eq; subst e; exact ⟨_, _, h, hr, .pure (.raw _ rfl)⟩
 | ptr o off =>
  cases hx with
  | pure hp => cases hp
  | ptr _ _ b c hb => exact ⟨_, _, h, hr, .ifp _ _ _ b c hb⟩
 | agg cs =>
  simp only at h
  cases hq : Q1 cs with
  | none =>
   simp only [hq] at h
   exact ⟨_, _, h.2, hr, .pure (.ifc _ _ _ (hx.toPR h.1))⟩
  | some l =>
   simp only [hq] at h
   obtain ⟨vs, rfl, hl, hv⟩ := hx.agg_inv
   have e : vs.toList = l := H4 hq vs.toList (by simpa using hl) (fun i h h' => by have := hv i h (by simpa using h'); simpa using this)
   have e2 : vs = l.toArray := by rw [← e]
   subst e2
   exact ⟨_, _, h, hr, .pure (.raw _ rfl)⟩
 | _ => exact h.elim
theorem zBO {x y : AV} {u : Value} {t : TypeId} (hx : VR w I loc x u) (h : zVH x = some (t, y)) : ∃ v, u = .iface t v ∧ VR w I loc y v := by
 unfold zVH at h
 split at h
 ·cases h; exact ⟨_, hx.raw_eq, H1 _⟩
 ·cases h
  cases hx with
  | pure hx => cases hx with
   | ifc _ _ v hv => exact ⟨v, rfl, .pure hv⟩
 ·cases h
  cases hx with
  | pure hx => cases hx
  | ifp _ _ _ b c hb => exact ⟨_, rfl, .ptr _ _ b c hb⟩
 ·cases h
theorem zI7 {t u : TypeId} {ok : Bool} {x : AV} {v : Value} (hx : VR w I loc x v) {K : Cont} (h : zAW P u ok x K) : ∃ z r, K z [] [] ∧ (Instr.typeAssert v t u ok).run P w = .ok r w ∧ VR w I loc z r := by
 obtain ⟨hc, h⟩ := h
 unfold zAb at hc
 cases hu : P.underlying u with
 | none => rw [hu] at hc; cases hc
 | some d =>
  rw [hu] at hc
  have hd : ∀ ms, d ≠ .interface ms := fun ms e => by subst e; cases hc
  have two : ∀ (y : AV) (r : Value) (b : Bool), VR w I loc y r → VR w I loc (.tup [y, .raw (.bool b)]) (.tuple #[r, .bool b]) := fun y r b hr => .tup _ _ rfl (fun i hi hi' => by
   have : i = 0 ∨ i = 1 := by simp at hi; omega
   rcases this with rfl | rfl
   ·exact hr
   ·exact .pure (.raw _ rfl))
  cases hq : zVH x with
  | some p =>
   obtain ⟨t', y⟩ := p
   simp only [hq] at h
   obtain ⟨v', rfl, hv⟩ := zBO hx hq
   by_cases he : t' = u
   ·subst he
    simp only [if_true] at h
    refine ⟨_, if ok = true then .tuple #[v', .bool true] else v', h, ?_, ?_⟩
    ·unfold Instr.typeAssert
     rw [Sem.run_bind, run_underlying hu, Result.andThen_ok]
     cases d <;> first | (exact (hd _ rfl).elim) | simp
    ·cases ok
     ·exact hv
     ·exact two _ _ _ hv
   ·simp only [if_neg he] at h
    obtain ⟨rfl, h⟩ := h
    cases hz : zeroT P u with
    | none => simp only [hz] at h
    | some z =>
     simp only [hz] at h
     refine ⟨_, .tuple #[z, .bool false], h, ?_, two _ _ _ (H1 _)⟩
     unfold Instr.typeAssert
     rw [Sem.run_bind, run_underlying hu, Result.andThen_ok]
     cases d <;> first | (exact (hd _ rfl).elim) | simp [he, L8 hz]
  | none =>
   simp only [hq] at h
   obtain ⟨rfl, rfl, h⟩ := h
   have e := hx.raw_eq
   subst e
   cases hz : zeroT P u with
   | none => simp only [hz] at h
   | some z =>
    simp only [hz] at h
    refine ⟨_, .tuple #[z, .bool false], h, ?_, two _ _ _ (H1 _)⟩
    unfold Instr.typeAssert
    rw [Sem.run_bind, run_underlying hu, Result.andThen_ok]
    cases d <;> first | (exact (hd _ rfl).elim) | simp [L8 hz]
theorem zGK {t : TypeId} {name : String} {f : FuncId} (h : S6 P t name = some f) : ∃ i d m p, P.info? t = some i ∧ P.underlying t = some d ∧ i.methods.find? (·.name == name) = some m ∧ m.path.toList = [] ∧ m.func = some (f, p) ∧ ((∃ e, d = .pointer e) ↔ p = true) := by
 unfold S6 at h
 split at h
 ·rename_i i d hi hd
  split at h
  ·rename_i m hm
   split at h
   ·rename_i hp
    cases hf : m.func with
    | none => rw [hf] at h; cases d <;> cases h
    | some fp =>
     obtain ⟨f', p⟩ := fp
     rw [hf] at h
     cases p with
     | true =>
      cases d <;> first | (cases h; done) | skip
      cases h
      exact ⟨i, _, m, true, hi, hd, hm, hp, hf, ⟨fun _ => rfl, fun _ => ⟨_, rfl⟩⟩⟩
     | false =>
      have hn : ∀ e, d ≠ .pointer e := fun e he => by subst he; cases h
      have hh : f' = f := by cases d <;> first | (cases h; rfl) | cases h
      subst hh
      exact ⟨i, d, m, false, hi, hd, hm, hp, hf, ⟨fun ⟨e, he⟩ => (hn e he).elim, fun e => by cases e⟩⟩
   ·cases h
  ·cases h
 ·cases h
theorem zDa {t : TypeId} {name : String} {f : FuncId} (h : S6 P t name = some f) (n : Nat) (v : Value) : (method (n + 1) t v name).run P w = .ok (f, v) w := by
 obtain ⟨i, d, m, p, h1, h2, h3, h4, h5, h6⟩ := zGK h
 have hr : ∀ wr, (receiverAt t (.val v) p wr).run P w = .ok v w := fun wr => by
  unfold receiverAt
  rw [Sem.run_bind, run_underlying h2, Result.andThen_ok]
  cases p with
  | true =>
   obtain ⟨e, rfl⟩ := h6.2 rfl
   rfl
  | false =>
   have hn : ∀ e, d ≠ .pointer e := fun e he => by have := h6.1 ⟨e, he⟩; cases this
   cases d <;> first | rfl | exact (hn _ rfl).elim
 unfold method
 simp only [Sem.run_bind, typeInfo, run_program, Result.andThen_ok, h1, Sem.run_pure, h3, h4, follow, h5, hr]
theorem zMy {x : AV} {u : Value} {K : Cont} {ty : TypeId} (hs : SR E I loc σ a w) (hx : VR w I loc x u) (h : E9 x σ.obj K) :
  ∃ v rd wr y w', K v rd wr ∧ (Instr.next u true ty).run P w = .ok y w' ∧ SR E I loc (σ.writes wr) a w' ∧ VR w' I loc v y := by
 unfold E9 at h
 split at h
 ·rename_i o
  generalize hA : σ.obj o = A at h
  cases A with
  | siter s pos =>
   obtain ⟨k1, k2⟩ := h
   cases hx with
   | pure hx => cases hx
   | ptr _ _ b c hl =>
    have ho := hs.objs o
    rw [hA] at ho
    have hlive : (σ.obj o).live = true := by rw [hA]; rfl
    obtain ⟨b', h1, h2⟩ := ho
    rw [hl] at h1; cases h1
    by_cases hp : pos < s.size
    ·refine ⟨_, _, _, _, _, k1 hp, Lib.run_next_any_at w b s pos ty h2 hp, ?_, .tup _ _ rfl (fun i hi hi' => ?_)⟩
     ·exact hs.writeG (w' := w.iterAt b s (pos + (Utf8.decode s pos).2)) (A := .siter s (pos + (Utf8.decode s pos).2)) hlive hl rfl rfl rfl (by simp [World.iterAt]) (fun k hk => by simp [World.iterAt, Array.getElem?_setIfInBounds, hk.symm]) ⟨b, hl, Lib.iterAt_heap w b s pos _ h2⟩ (by simp)
     ·have : i = 0 ∨ i = 1 ∨ i = 2 := by simp at hi; omega
      rcases this with rfl | rfl | rfl <;> exact .pure (.raw _ rfl)
    ·refine ⟨_, _, _, _, _, k2 hp, Lib.run_next_end_at w b s pos ty h2 hp, ?_, .tup _ _ rfl (fun i hi hi' => ?_)⟩
     ·exact hs.writeG (A := .siter s pos) hlive hl rfl rfl rfl rfl (fun _ _ => rfl) ⟨b, hl, h2⟩ (by simp)
     ·have : i = 0 := by simp at hi; omega
      subst this; exact .pure (.raw _ rfl)
  | _ => exact h.elim
 ·exact h.elim
theorem zKG {x : AV} {u : Value} {K : Cont} (hs : SR E I loc σ a w) (hx : VR w I loc x u) (h : E3 x σ.obj K) :
  ∃ v rd y, K v rd [] ∧ (Instr.entry u).run P w = .ok y w ∧ VR w I loc v y := by
 unfold E3 at h
 split at h
 ·rename_i o
  generalize hA : σ.obj o = A at h
  cases A with
  | iter cur ks xs =>
   cases cur with
   | none => exact h.elim
   | some p =>
    obtain ⟨k, x⟩ := p
    simp only at h
    cases hx with
    | pure hx => cases hx
    | ptr _ _ b c hl =>
     have ho := hs.objs o
     rw [hA] at ho
     obtain ⟨b', h1, ⟨_, _, _, _, h2, _⟩ | ⟨m, es, clock, seen, h2, h3, h4, h5, h6, h7, h8⟩⟩ := ho
     ·cases h2
     ·rw [hl] at h1; cases h1
      obtain ⟨e, g1, g2, g3, g4⟩ := h8 _ rfl
      have hseen : ∃ s' : Array Nat, seen = s'.push e.born := by
       have hne : seen ≠ #[] := fun e => by subst e; simp at g2
       obtain ⟨s', y, rfl⟩ := Array.exists_push_of_ne_empty hne
       simp at g2; subst g2; exact ⟨s', rfl⟩
      obtain ⟨s', rfl⟩ := hseen
      have hborn : (es.toList.map (·.born)).Nodup := by
       rw [List.nodup_iff_pairwise_ne, List.pairwise_map]
       exact h5.2.2.2.2.1.imp (fun h => by omega)
      refine ⟨_, _, _, h, run_entry_at w b m clock s' es clock e h2 h4 g1 hborn, ?_⟩
      refine .tup _ _ rfl (fun i hi hi' => ?_)
      have : i = 0 ∨ i = 1 := by simp at hi; omega
      rcases this with rfl | rfl
      ·subst g3; exact H1 _
      ·exact .pure g4
  | _ => exact h.elim
 ·exact h.elim
end
end Go.Abs

namespace Go.Abs
open Go
variable [Cur]
section
variable {P : Program} {E : Env} {I : Nat → Prop} {loc : Nat → Loc} {σ : AS} {a : Act} {w : World}
theorem SR.putD (h : SR E I loc σ a w) {d : Option Tmp} {v : AV} {x : Value} (hv : VR w I loc v x) (hd : ∀ t, d = some t → t < σ.n) : SR E I loc (σ.putD d v) (a.put d x) w := by
 cases d with
 | none => exact h
 | some t => exact h.put hv (hd t rfl)
theorem G0 : VR w I loc (.tup []) undef := .tup [] #[] rfl (fun i h => by simp at h)
theorem N7 {f : FuncId} (h : y9 P f = true) (args : Array Value) : (callFunc f args).run P w = .ok (.enter f args) w := by
 unfold y9 at h
 cases hf : P.funcs[f]? with
 | none => rw [hf] at h; cases h
 | some fn =>
  rw [hf] at h
  simp at h
  obtain ⟨h1, h2⟩ := h
  have h3 : fn.body.isNone = false := by cases hb : fn.body <;> simp_all
  simp only [callFunc, Sem.run_bind, run_program, Result.andThen_ok, hf]
  have h4 : (fn.name == "runtime.NumGoroutine") = false := by simpa using h2
  simp [h4, h3]
theorem zBR {f : FuncId} (h : y9 P f = true) (args : Array Value) {w : World} : (callFunc f args).events P w #[] = #[] := by
 unfold y9 at h
 cases hf : P.funcs[f]? with
 | none => rw [hf] at h; cases h
 | some fn =>
  rw [hf] at h
  simp at h
  obtain ⟨h1, h2⟩ := h
  have h4 : (fn.name == "runtime.NumGoroutine") = false := by simpa using h2
  cases hb : fn.body with
  | none => rw [hb] at h1; cases h1
  | some c => simp [callFunc, Sem.events_bind, run_program, Result.evThen_ok, events_program, hf, h4, hb]
theorem Y5 (hs : SR E I loc σ a w) (args : Array Operand) : (args.toList.map σ.ev).length = (args.map a.eval).size ∧ ∀ i (h : i < (args.toList.map σ.ev).length) (h' : i < (args.map a.eval).size), VR w I loc (args.toList.map σ.ev)[i] (args.map a.eval)[i] := by
 refine ⟨by simp, fun i h h' => ?_⟩
 simp only [List.getElem_map, Array.getElem_toList, Array.getElem_map]
 exact hs.ev _
inductive OpRes (P : Program) (E : Env) (I : Nat → Prop) (loc : Nat → Loc) (σ : AS) (a : Act) (w : World) (o : Oper) (nx : Nat) (K : Cont) : Prop
 | val (v : AV) (rd : List Nat) (wr : List (Nat × AObj)) (x : Value) (w' : World) (I' : Nat → Prop) (loc' : Nat → Loc) : K v rd wr → (execOp a.eval o).run P w = .ok (.value x) w' → SR E I' loc' (σ.writes wr) a w' → VR w' I' loc' v x → OpRes P E I loc σ a w o nx K
 | unit (v : AV) (rd : List Nat) (wr : List (Nat × AObj)) (w' : World) (I' : Nat → Prop) (loc' : Nat → Loc) : K v rd wr → (execOp a.eval o).run P w = .ok .skip w' → SR E I' loc' (σ.writes wr) a w' → VR w' I' loc' v undef → OpRes P E I loc σ a w o nx K
 | call (f : FuncId) (avs : List AV) (vs : Array Value) : (execOp a.eval o).run P w = .ok (.enter f vs) w → y2 P f avs σ.obj nx K → avs.length = vs.size → (∀ i (h : i < avs.length) (h' : i < vs.size), VR w I loc avs[i] vs[i]) → OpRes P E I loc σ a w o nx K
theorem zE0 (hs : SR E I loc σ a w) {o : Oper} {nx : Nat} {K : Cont} (h : zUV P o σ.ev σ.obj nx K) : OpRes P E I loc σ a w o nx K := by
  -- the ways to end
  have val : ∀ {v rd x}, K v rd [] → (execOp a.eval o).run P w = .ok (.value x) w → VR w I loc v x → OpRes P E I loc σ a w o nx K := fun {v rd x} hK hr hv => .val v rd [] x w I loc hK hr hs hv
  have mem : ∀ {v rd wr x w' I' loc'}, K v rd wr → (execOp a.eval o).run P w = .ok (.value x) w' → SR E I' loc' (σ.writes wr) a w' → VR w' I' loc' v x → OpRes P E I loc σ a w o nx K := fun {v rd wr x w' I' loc'} hK hr hsr hv => .val v rd wr x w' I' loc' hK hr hsr hv
  have call : ∀ {f avs vs}, (execOp a.eval o).run P w = .ok (.enter f vs) w → y2 P f avs σ.obj nx K → avs.length = vs.size → (∀ i (h : i < avs.length) (h' : i < vs.size), VR w I loc avs[i] vs[i]) → OpRes P E I loc σ a w o nx K := fun {f avs vs} hr hc hl hv => .call f avs vs hr hc hl hv
  unfold zUV at h
  cases hop : o.op <;> rw [hop] at h <;> simp only at h <;> try (first | exact h.elim | skip)
  case move x => exact val h (by simp [execOp, hop]) (hs.ev x)
  case assign x => exact val h (by simp [execOp, hop]) (hs.ev x)
  case pick c x y =>
    obtain ⟨v, z, hK, hr, hv⟩ := zNQ (P := P) (hs.ev c) (hs.ev x) (hs.ev y) h
    exact val hK (by simp only [execOp, hop]; exact hr) hv
  case alloc t =>
    obtain ⟨v, rd, A, w', loc', y, hK, hr, hsr, hv⟩ := zIV hs h
    exact mem hK (by simp only [execOp, hop, Sem.run_bind, hr, Result.andThen_ok, Sem.run_pure]) hsr hv
  case box t x =>
    obtain ⟨v, rd, A, w', loc', y, hK, hr, hsr, hv⟩ := zJP (P := P) (t := t) hs (hs.ev x) h
    exact mem hK (by simp only [execOp, hop, Sem.run_bind, hr, Result.andThen_ok, Sem.run_pure]) hsr hv
  case build t ps =>
    obtain ⟨v, y, hK, hr, hv⟩ := zJQ hs h
    exact val hK (by simp only [execOp, hop, Sem.run_bind, hr, Result.andThen_ok, Sem.run_pure]) hv
  case buildSlice t n ps =>
    obtain ⟨v, rd, wr, w', I', loc', y, hK, hr, hsr, hv⟩ := zJS hs h
    exact mem hK (by simp only [execOp, hop, Sem.run_bind, hr, Result.andThen_ok, Sem.run_pure]) hsr hv
  case load t x =>
    obtain ⟨v, rd, y, hK, hr, hv⟩ := zF7 (P := P) hs (hs.ev x) h
    exact val hK (by simp only [execOp, hop, Sem.run_bind, hr, Result.andThen_ok, Sem.run_pure]) hv
  case store t x y =>
    obtain ⟨rd, ob, A, w', hK, hr, hsr⟩ := zQQ (P := P) hs (hs.ev x) (hs.ev y) h
    exact .unit _ _ [(ob, A)] _ I loc hK (by simp only [execOp, hop, Sem.run_bind, hr, Result.andThen_ok, Sem.run_pure]) hsr G0
  case nilCheck x =>
    obtain ⟨hK, hv⟩ := zGR (hs.ev x) h
    refine val hK ?_ (hs.ev x)
    simp only [execOp, hop]
    revert hv
    generalize a.eval x = v
    intro hv
    rcases hv with hv | ⟨name, t, u, caps, rfl, hv⟩
    rotate_left
    · simp [Sem.run_bind, run_program, (hv w).1]
    cases v with
    | pointer p => cases p with
      | none => exact hv.elim
      | some p => simp
    | func fn f c => cases fn with
      | method n => exact hv.elim
      | _ => simp
    | nilFunc => exact hv.elim
    | nilIface => exact hv.elim
    | _ => simp
  case binOp op t x y u =>
    obtain ⟨z, r, hK, rfl, hr1, hr⟩ := zJB (P := P) (ox := x) (oy := y) (hs.ev x) (hs.ev y) h
    unfold C6 at hr
    exact val hK (by simp only [execOp, hop]; rw [Sem.run_bind, hr]; rfl) (.pure (.raw _ hr1))
  case unOp op t x =>
    obtain ⟨z, r, hK, rfl, hr1, hr⟩ := zRH (P := P) (w := w) (hs.ev x) h
    exact val hK (by simp only [execOp, hop, Sem.run_bind, hr, Result.andThen_ok, Sem.run_pure]) (.pure (.raw _ hr1))
  case convert s d x =>
    obtain ⟨z, rd, w', I', r, hK, hr, hsr, hv⟩ := zJu (P := P) (w := w) hs h.1 (hs.ev x) h.2
    exact mem hK (by simp only [execOp, hop, Sem.run_bind, hr, Result.andThen_ok, Sem.run_pure]) hsr hv
  case makeInterface t x =>
    obtain ⟨z, r, hK, hr, hv⟩ := zL7 (P := P) (hs.ev x) h
    exact val hK (by simp only [execOp, hop, Sem.run_bind, hr, Result.andThen_ok, Sem.run_pure]) hv
  case typeAssert x t u ok =>
    obtain ⟨z, r, hK, hr, hv⟩ := zI7 (P := P) (t := t) (hs.ev x) h
    exact val hK (by simp only [execOp, hop, Sem.run_bind, hr, Result.andThen_ok, Sem.run_pure]) hv
  case makeFunc fn first cs =>
    cases fn with
    | func f =>
      obtain ⟨h0, h⟩ := h
      have h0 : first = #[] := by simpa using h0
      subst h0
      obtain ⟨h1, h2⟩ := Y5 hs cs
      exact val h (by simp [execOp, hop, Instr.makeFunc]) (.fn _ _ _ h1 h2)
    | method name =>
      simp only [zBf] at h
      split at h
      · rename_i t u e1 e2
        obtain ⟨g1, g2⟩ := Y5 hs first
        rw [e1] at g1
        have hcs : cs = #[] := by simpa using e2
        subst hcs
        have hsz : (first.map a.eval).size = 1 := by simpa using g1.symm
        have hv0 := g2 0 (by rw [e1]; simp) (by omega)
        simp only [e1, List.getElem_cons_zero] at hv0
        have hargs : first.map a.eval = #[.iface t u] := by
          apply Array.ext
          · simpa using hsz
          · intro i h1 h2; have : i = 0 := by omega
            subst this
            exact hv0.raw_eq
        exact val h (by simp [execOp, hop, Instr.makeFunc, hargs]) (.pure (.raw _ rfl))
      · exact h.elim
    | _ => exact h.elim
  case makeSlice t x y =>
    obtain ⟨v, rd, A, w', loc', r, hK, hr, hsr, hv⟩ := zMo hs (hs.ev x) (hs.ev y) h
    exact mem hK (by simp only [execOp, hop, Sem.run_bind, hr, Result.andThen_ok, Sem.run_pure]) hsr hv
  case slice t x lo hi mx =>
    have hopt : ∀ (z : Option Operand), (∀ x, z.map σ.ev = some x → ∃ v, z.map a.eval = some v ∧ VR w I loc x v) ∧ (z.map σ.ev = none → z.map a.eval = none) := fun z => by
      cases z with
      | none => exact ⟨fun x h => by simp at h, fun _ => rfl⟩
      | some z => exact ⟨fun x h => by simp at h; subst h; exact ⟨_, rfl, hs.ev z⟩, fun h => by simp at h⟩
    obtain ⟨v, y, hK, hr, hv⟩ := zOL (P := P) (hs.ev x) (hopt lo).1 (hopt lo).2 (hopt hi).1 (hopt hi).2 (hopt mx).1 (hopt mx).2 h
    exact val hK (by simp only [execOp, hop, Sem.run_bind, hr, Result.andThen_ok, Sem.run_pure]) hv
  case fieldAddr s x f =>
    obtain ⟨v, y, hK, hr, hv⟩ := zKV (P := P) (hs.ev x) h
    exact val hK (by simp only [execOp, hop, Sem.run_bind, hr, Result.andThen_ok, Sem.run_pure]) hv
  case field s x f =>
    obtain ⟨v, y, hK, hr, hv⟩ := zKU (P := P) (hs.ev x) h
    exact val hK (by simp only [execOp, hop, Sem.run_bind, hr, Result.andThen_ok, Sem.run_pure]) hv
  case indexAddr t x i =>
    obtain ⟨v, y, hK, hr, hv⟩ := zL9 (P := P) (hs.ev x) (hs.ev i) h
    exact val hK (by simp only [execOp, hop, Sem.run_bind, hr, Result.andThen_ok, Sem.run_pure]) hv
  case index t x i =>
    obtain ⟨v, y, hK, hr, hv⟩ := zL8 (P := P) (hs.ev x) (hs.ev i) h
    exact val hK (by simp only [execOp, hop, Sem.run_bind, hr, Result.andThen_ok, Sem.run_pure]) hv
  case extract x i =>
    obtain ⟨v, y, hK, hr, hv⟩ := zKT (P := P) (hs.ev x) h
    exact val hK (by simp only [execOp, hop, Sem.run_bind, hr, Result.andThen_ok, Sem.run_pure]) hv
  case makeMap t r =>
    have hopt : ∀ (z : Option Operand), (∀ x, z.map σ.ev = some x → ∃ v, z.map a.eval = some v ∧ VR w I loc x v) ∧ (z.map σ.ev = none → z.map a.eval = none) := fun z => by
      cases z with
      | none => exact ⟨fun x h => by simp at h, fun _ => rfl⟩
      | some z => exact ⟨fun x h => by simp at h; subst h; exact ⟨_, rfl, hs.ev z⟩, fun h => by simp at h⟩
    obtain ⟨v, rd, A, w', loc', y, hK, hr, hsr, hv⟩ := zMn (P := P) hs (hopt r).1 (hopt r).2 h
    exact mem hK (by simp only [execOp, hop, Sem.run_bind, hr, Result.andThen_ok, Sem.run_pure]) hsr hv
  case mapUpdate t m k x =>
    obtain ⟨rd, wr, w', I', hK, hr, hsr⟩ := zGE (P := P) hs (hs.ev m) (hs.ev k) (hs.ev x) h
    exact .unit _ _ wr _ I' loc hK (by simp only [execOp, hop, Sem.run_bind, hr, Result.andThen_ok, Sem.run_pure]) hsr G0
  case insert t m k x =>
    obtain ⟨rd, wr, w', I', hK, hr, hsr⟩ := zGE (P := P) hs (hs.ev m) (hs.ev k) (hs.ev x) h
    exact .unit _ _ wr _ I' loc hK (by simp only [execOp, hop, Sem.run_bind, hr, Result.andThen_ok, Sem.run_pure]) hsr G0
  case lookup t m k ok =>
    obtain ⟨v, rd, y, hK, hr, hv⟩ := zMh (P := P) hs (hs.ev m) (hs.ev k) h
    exact val hK (by simp only [execOp, hop, Sem.run_bind, hr, Result.andThen_ok, Sem.run_pure]) hv
  case range t x =>
    obtain ⟨v, rd, A, w', loc', y, hK, hr, hsr, hv⟩ := zNV (P := P) hs (hs.ev x) h
    exact mem hK (by simp only [execOp, hop, Sem.run_bind, hr, Result.andThen_ok, Sem.run_pure]) hsr hv
  case next x b =>
    obtain ⟨rfl, h⟩ := h
    obtain ⟨v, rd, wr, y, w', hK, hr, hsr, hv⟩ := zMy (P := P) (ty := o.type) hs (hs.ev x) h
    exact mem hK (by simp only [execOp, hop, Sem.run_bind, hr, Result.andThen_ok, Sem.run_pure]) hsr hv
  case entry x =>
    obtain ⟨v, rd, y, hK, hr, hv⟩ := zKG (P := P) hs (hs.ev x) h
    exact val hK (by simp only [execOp, hop, Sem.run_bind, hr, Result.andThen_ok, Sem.run_pure]) hv
  case call c =>
    obtain ⟨callee, args, ts⟩ := c
    cases callee with
    | invoke r m =>
      simp only [R3] at h
      obtain ⟨g1, g2⟩ := Y5 hs args
      cases hq : zVH (σ.ev r) with
      | none => simp only [hq] at h
      | some p =>
        obtain ⟨t, y⟩ := p
        simp only [hq] at h
        cases hm : S6 P t m with
        | none => simp only [hm] at h
        | some f =>
          simp only [hm] at h
          obtain ⟨v, hv, hy⟩ := zBO (hs.ev r) hq
          have hfu : ∃ n, P.types.size + Made.depth = n + 1 := ⟨P.types.size + Made.depth - 1, by have : 0 < Made.depth := by decide
                                                                                                  omega⟩
          obtain ⟨n, hn⟩ := hfu
          refine call (vs := #[v] ++ args.map a.eval) ?_ h.2 (by simp only [List.length_cons, Array.size_append, g1]; simp; omega) (fun i h1 h2 => ?_)
          · simp only [execOp, hop, resolve, hv, Sem.run_bind, Sem.run_pure, Result.andThen_ok, invoke]
            simp only [Array.getElem?_append_left (show 0 < (#[Value.iface t v] : Array Value).size by simp)]
            simp only [callMethod, hn, Sem.run_bind, run_program, Result.andThen_ok, zDa hm]
            have e : ((#[Value.iface t v] ++ args.map a.eval).extract 1 (#[Value.iface t v] ++ args.map a.eval).size) = args.map a.eval := by
              apply Array.ext'
              simp
              exact List.take_of_length_le (by simp)
            simp only [List.getElem?_toArray, List.getElem?_cons_zero, e, run_program, Result.andThen_ok, zDa hm, hn, Sem.run_bind]
            exact N7 h.1 _
          · cases i with
            | zero => simpa using hy
            | succ i =>
              have := g2 i (by simpa using h1) (by simp at h2; simp; omega)
              simp only [List.getElem_cons_succ]
              rw [Array.getElem_append_right (by simp)]
              simpa using this
    | builtin b =>
      simp only [R3] at h
      have hexec : (execOp a.eval o).run P w = (builtin b ts o.type (args.map fun | .const _ => true | _ => false) (args.map a.eval)).run P w := by
        simp only [execOp, hop, resolve, Sem.run_bind, Sem.run_pure, Result.andThen_ok, invoke]
        rfl
      unfold C8 at h
      split at h
      · rename_i x hx
        obtain ⟨h0, h⟩ := h
        cases hn' : M9 P (ts.getD 0 0) x with
        | none => simp only [hn'] at h
        | some n =>
          simp only [hn'] at h
          obtain ⟨g1, g2⟩ := Y5 hs args
          rw [hx] at g1
          have hsz : (args.map a.eval).size = 1 := by simpa using g1.symm
          have hargs : args.map a.eval = #[(args.map a.eval)[0]'(by omega)] := by
            apply Array.ext
            · simpa using hsz
            · intro i h1 h2; have : i = 0 := by omega
              subst this; rfl
          have hv0 : VR w I loc x ((args.map a.eval)[0]'(by omega)) := by
            have := g2 0 (by rw [hx]; simp) (by omega)
            simpa only [hx, List.getElem_cons_zero] using this
          have hr := zMZ (P := P) hv0 hn' ts rfl h0 o.type
          rw [← hargs] at hr
          exact val h (by rw [hexec]; simp only [builtin, Sem.run_bind, hr, Result.andThen_ok, Sem.run_pure]) (.pure (.raw _ rfl))
      · rename_i s x hx
        obtain ⟨g1, g2⟩ := Y5 hs args
        rw [hx] at g1
        have hsz : (args.map a.eval).size = 2 := by simpa using g1.symm
        have hargs : args.map a.eval = #[(args.map a.eval)[0]'(by omega), (args.map a.eval)[1]'(by omega)] := by
          apply Array.ext
          · simpa using hsz
          · intro i h1 h2
            have : i = 0 ∨ i = 1 := by omega
            rcases this with rfl | rfl <;> rfl
        have hv0 : VR w I loc s ((args.map a.eval)[0]'(by omega)) := by
          have := g2 0 (by rw [hx]; simp) (by omega)
          simpa only [hx, List.getElem_cons_zero] using this
        have hv1 : VR w I loc x ((args.map a.eval)[1]'(by omega)) := by
          have := g2 1 (by rw [hx]; simp) (by omega)
          simpa only [hx, List.getElem_cons_succ, List.getElem_cons_zero] using this
        obtain ⟨z, rd, wr, w', loc', r, hK, hr, hsr, hv⟩ : ∃ z rd wr w' loc' r, K z rd wr ∧ (Builtin.append_ ts o.type (args.map a.eval)).run P w = .ok r w' ∧ SR E I loc' (σ.writes wr) a w' ∧ VR w' I loc' z r := by
          split at h
          · obtain ⟨hts, h⟩ := h
            rw [hargs, hts]
            exact zIb (P := P) (ty := o.type) hs hv0 hv1 h (fun ys k hk => zAY ys k hk)
          · obtain ⟨hts, h⟩ := h
            rw [hargs, hts]
            exact zIZ (P := P) (ty := o.type) hs hv0 hv1 h
        exact mem hK (by rw [hexec]; simp only [builtin, Sem.run_bind, hr, Result.andThen_ok, Sem.run_pure]) hsr hv
      · rename_i ob sz len hx
        obtain ⟨rfl, h⟩ := h
        obtain ⟨g1, g2⟩ := Y5 hs args
        rw [hx] at g1
        have hsz : (args.map a.eval).size = 1 := by simpa using g1.symm
        have hv0 : VR w I loc (.own ob 1 0 (len + 1)) ((args.map a.eval)[0]'(by omega)) := by
          have := g2 0 (by rw [hx]; simp) (by omega)
          simpa only [hx, List.getElem_cons_zero] using this
        have hargs : args.map a.eval = #[(args.map a.eval)[0]'(by omega)] := by
          apply Array.ext
          · simpa using hsz
          · intro i h1 h2; have : i = 0 := by omega
            subst this; rfl
        generalize (args.map a.eval)[0]'(by omega) = v0 at hv0 hargs
        rcases hv0.own_inv with ⟨_, _, hx0, _⟩ | ⟨b, c, ad, cap, hl, rfl, q1, q2, q3⟩
        · cases hx0
        · have had := q3 (by omega)
          subst had
          refine val (x := .pointer (some ⟨b, 0 * 1, none⟩)) h (by rw [hexec, hargs]; simp only [builtin, Sem.run_bind, Lib.run_unsafeSliceData_row _ _ _ _ _ _ (show cap ≠ 0 by omega), Result.andThen_ok, Sem.run_pure]) ?_
          have := VR.eptr (w := w) (I := I) (loc := loc) ob 1 0 0 b c hl
          simpa using this
      · rename_i ob sz k n hx
        generalize hA : σ.obj ob = A at h
        cases A with
        | brow e l =>
          obtain ⟨rfl, rfl, rfl, hne, hmx, hce, hpt, h⟩ := h
          obtain ⟨g1, g2⟩ := Y5 hs args
          rw [hx] at g1
          have hsz : (args.map a.eval).size = 2 := by simpa using g1.symm
          have hv0 : VR w I loc (.eptr ob 1 0 0) ((args.map a.eval)[0]'(by omega)) := by
            have := g2 0 (by rw [hx]; simp) (by omega)
            simpa only [hx, List.getElem_cons_zero] using this
          have hv1 : (args.map a.eval)[1]'(by omega) = .int .i64 (l.length : Int) := by
            have := g2 1 (by rw [hx]; simp) (by omega)
            simp only [hx, List.getElem_cons_succ, List.getElem_cons_zero] at this
            exact this.raw_eq
          have hargs : args.map a.eval = #[(args.map a.eval)[0]'(by omega), .int .i64 (l.length : Int)] := by
            apply Array.ext
            · simpa using hsz
            · intro i h1 h2
              have : i = 0 ∨ i = 1 := by omega
              rcases this with rfl | rfl
              · rfl
              · exact hv1
          generalize (args.map a.eval)[0]'(by omega) = v0 at hv0 hargs
          have hor := hs.objs ob
          rw [hA] at hor
          have hlive : (σ.obj ob).live = true := by rw [hA]; rfl
          cases hv0 with
          | pure hp => cases hp
          | eptr _ _ _ _ b c hl =>
            rcases hor with ⟨hn, _⟩ | ⟨b', C, hl', hC, hel⟩
            · rw [hl] at hn; cases hn
            rw [hl] at hl'; cases hl'
            have hlC : l.length ≤ C.size := by
              have := congrArg List.length hel
              simp at this; omega
            cases hpu : P.underlying (ts.getD 0 0) with
            | none => rw [hpu] at hpt; exact hpt.elim
            | some d =>
              rw [hpu] at hpt
              cases d with
              | pointer e' =>
                obtain ⟨rfl, hts⟩ := hpt
                have hrun : (Builtin.unsafeString_ ts o.type #[.pointer (some ⟨b, 0, none⟩), .int .i64 (l.length : Int)]).run P w = .ok (.string ⟨l.toArray⟩) (w.freeze ⟨b, 0, none⟩ l.length) := by
                  have := Lib.run_unsafeString_row (P := P) w (ts.getD 0 0) (ts.getD 1 0) o.type e' hpu hce b C.size (by simp [World.shape?, hC]) l hne (by omega) hmx (fun j x hj => by
                    have hjl : j < l.length := (List.getElem?_eq_some_iff.1 hj).1
                    rw [Q5, Nat.zero_add, U7 hC (by omega)]
                    have h4 := congrArg (fun q => q[j]?) hel
                    simp only [List.getElem?_take, if_pos hjl, List.getElem?_map, hj, Option.map_some] at h4
                    have hjC : j < C.size := by omega
                    have h5 : C.toList[j]? = some C[j] := by simp [hjC]
                    rw [h5] at h4
                    exact h4)
                  unfold Builtin.unsafeString_ at this ⊢
                  have e0 : ts[0]? = some (ts.getD 0 0) := by
                    rw [Array.getElem?_eq_getElem hts]
                    simp [hts]
                  rw [e0]
                  exact this
                have h0 : l.length ≠ 0 := fun e => hne (List.eq_nil_of_length_eq_zero e)
                have hz : (w.freeze ⟨b, 0, none⟩ l.length).heap.size = w.heap.size := by simp [World.freeze, h0]
                have hsr := hs.writeG (w' := w.freeze ⟨b, 0, none⟩ l.length) (A := .dead) hlive hl (by simp [World.freeze, h0]) (by simp [World.freeze, h0]) (by simp [World.freeze, h0]) hz (fun k hk => by
                  simp only [World.freeze, if_neg h0, Array.getElem?_modify]
                  rw [if_neg (fun e => hk e.symm)]) trivial (by simp) (fun _ => by simp [World.freeze, h0])
                refine mem h (by rw [hexec, hargs]; simp only [builtin, Nat.zero_mul, Nat.zero_add, Sem.run_bind, hrun, Result.andThen_ok, Sem.run_pure]) hsr (.pure (.raw _ rfl))
              | _ => exact hpt.elim
        | _ => exact h.elim
      · rename_i hx
        obtain ⟨hts, hu, h⟩ := h
        obtain ⟨g1, g2⟩ := Y5 hs args
        rw [hx] at g1
        have hsz : (args.map a.eval).size = 1 := by simpa using g1.symm
        have hv0 : (args.map a.eval)[0]'(by omega) = .slice none 0 0 := by
          have := g2 0 (by rw [hx]; simp) (by omega)
          simp only [hx, List.getElem_cons_zero] at this
          exact this.raw_eq
        have hargs : args.map a.eval = #[.slice none 0 0] := by
          apply Array.ext
          · simpa using hsz
          · intro i h1 h2; have : i = 0 := by omega
            subst this; exact hv0
        have e0 : ts[0]? = some (ts.getD 0 0) := by
          rw [Array.getElem?_eq_getElem hts]
          simp [hts]
        cases hpu : P.underlying (ts.getD 0 0) with
        | none => rw [hpu] at hu; exact hu.elim
        | some d =>
          rw [hpu] at hu
          cases d with
          | slice e' =>
            have hrun : (Builtin.cap_ ts o.type #[.slice none 0 0]).run P w = .ok (.int .i64 0) w := by
              unfold Builtin.cap_
              rw [e0]
              generalize ts.getD 0 0 = t0 at hpu
              simp [run_underlying hpu, goInt]
            exact val h (by rw [hexec, hargs]; simp only [builtin, Sem.run_bind, hrun, Result.andThen_ok, Sem.run_pure]) (.pure (.raw _ rfl))
          | _ => exact hu.elim
      all_goals first
        | exact h.elim
        | (rename_i k x k' y hx
           obtain ⟨g1, g2⟩ := Y5 hs args
           rw [hx] at g1
           have hsz : (args.map a.eval).size = 2 := by simpa using g1.symm
           have hv0 : (args.map a.eval)[0]'(by omega) = .int k x := by
             have := g2 0 (by rw [hx]; simp) (by omega)
             simp only [hx, List.getElem_cons_zero] at this
             exact this.raw_eq
           have hv1 : (args.map a.eval)[1]'(by omega) = .int k' y := by
             have := g2 1 (by rw [hx]; simp) (by omega)
             simp only [hx, List.getElem_cons_succ, List.getElem_cons_zero] at this
             exact this.raw_eq
           have hargs : args.map a.eval = #[.int k x, .int k' y] := by
             apply Array.ext
             · simpa using hsz
             · intro i h1 h2
               have : i = 0 ∨ i = 1 := by omega
               rcases this with rfl | rfl
               · exact hv0
               · exact hv1
           exact val h (by rw [hexec, hargs]; simp [builtin, Builtin.max_, Builtin.min_, Builtin.max2, Builtin.min2, zWA, zVl]) (.pure (.raw _ rfl)))
    | value fo =>
      simp only [R3] at h
      have hfo := hs.ev fo
      obtain ⟨g1, g2⟩ := Y5 hs args
      unfold C9 at h
      split at h
      · rename_i f fs caps hfe
        split at h
        rotate_left
        · obtain ⟨hf, rfl, rfl, h⟩ := h
          rw [hfe] at hfo
          have e := hfo.raw_eq
          unfold zVX at h
          split at h
          · rename_i n hx
            obtain ⟨⟨fn, ps, t, m1, m2, m3, m4, m5, m6⟩, h0, hb, hnx, hK⟩ := h
            rw [hx] at g1
            have hsz : (args.map a.eval).size = 1 := by simpa using g1.symm
            have hv0 : (args.map a.eval)[0]'(by omega) = .int .i64 n := by
              have := g2 0 (by rw [hx]; simp) (by omega)
              simp only [hx, List.getElem_cons_zero] at this
              exact this.raw_eq
            have hargs : args.map a.eval = #[.int .i64 n] := by
              apply Array.ext
              · simpa using hsz
              · intro i h1 h2; have : i = 0 := by omega
                subst this; exact hv0
            obtain ⟨k, rfl⟩ := Int.eq_ofNat_of_zero_le h0
            obtain ⟨cs, r1, r2, r3⟩ := Lib.run_makeNoZero (P := P) w ps t MKE m6 k (by omega)
            have hs1 := (hs.heap (w' := w.drew) rfl rfl rfl rfl).heap (w' := w.drew.drew) rfl rfl rfl rfl
            refine mem (x := Value.slice (some ⟨w.heap.size, 0, none⟩) k cs.size) hK ?_ (hs1.born hnx (.cells cs MKE) (c := cs.size) (.inr ⟨_, cs, by simp only [y1, if_true], heap_alloc_new w.drew.drew _, rfl⟩)) ?_
            · simp only [execOp, hop, resolve, e, Deferred.ofValue, Sem.run_bind, Sem.run_pure, Result.andThen_ok, invoke, Array.append_empty, Array.empty_append, hargs]
              rw [hf, run_callFunc_extern m1 m2 m3 m4 m5, r1]
              rfl
            · exact .own _ _ _ _ w.heap.size _ _ _ locSet_same r2 (by simp) (fun _ => by simp)
          · exact h.elim
        rename_i hc
        obtain ⟨rfl, rfl, h⟩ := h
        rw [hfe] at hfo
        have e := hfo.raw_eq
        refine call ?_ h g1 g2
        simp only [execOp, hop, resolve, e, Deferred.ofValue, Sem.run_bind, Sem.run_pure, Result.andThen_ok, invoke, Array.append_empty, Array.empty_append]
        exact N7 hc _
      · rename_i f caps hfe
        obtain ⟨hc, h⟩ := h
        rw [hfe] at hfo
        generalize hfv : a.eval fo = fv at hfo
        cases hfo with
        | pure hp => cases hp
        | fn _ _ vs q1 q2 =>
          refine call (vs := args.map a.eval ++ vs) ?_ h (by simp only [List.length_append, Array.size_append]; omega) (fun i h1 h2 => ?_)
          · simp only [execOp, hop, resolve, hfv, Deferred.ofValue, Sem.run_bind, Sem.run_pure, Result.andThen_ok, invoke, Array.empty_append]
            exact N7 hc _
          · by_cases hlt : i < (args.toList.map σ.ev).length
            · rw [List.getElem_append_left hlt, Array.getElem_append_left (by omega)]
              exact g2 i hlt _
            · rw [List.getElem_append_right (by omega), Array.getElem_append_right (by omega)]
              have e3 : i - (args.map a.eval).size = i - (args.toList.map σ.ev).length := by omega
              simp only [e3]
              exact q2 _ _ _
      · exact h.elim
end
end Go.Abs

namespace Go.Abs
open Go
variable [Cur]
def Fix (F : (Nat → AObj) → Cont → Prop) : Prop := ∀ H K, F H K → ∃ v rd wr, K v rd wr ∧ ∀ H', (∀ o, o ∈ rd → H' o = H o) → ∀ K' : Cont, K' v rd wr → F H' K'
theorem Fix.out (v : AV) (rd : List Nat) (wr : List (Nat × AObj)) : Fix (fun _ K => K v rd wr) := fun _ _ h => ⟨v, rd, wr, h, fun _ _ _ h' => h'⟩
theorem Fix.no : Fix (fun _ _ => False) := fun _ _ h => h.elim
theorem Fix.and {A : Prop} {F : (Nat → AObj) → Cont → Prop} (h : Fix F) : Fix (fun H K => A ∧ F H K) := fun H K ⟨ha, hf⟩ =>
 let ⟨v, rd, wr, h1, h2⟩ := h H K hf
 ⟨v, rd, wr, h1, fun H' hh K' hk => ⟨ha, h2 H' hh K' hk⟩⟩
theorem Fix.ite {c : Prop} [Decidable c] {F G : (Nat → AObj) → Cont → Prop} (hf : Fix F) (hg : Fix G) : Fix (fun H K => if c then F H K else G H K) := fun H K h => by
 by_cases hc : c
 ·simp only [hc, if_true] at h ⊢; exact hf H K h
 ·simp only [hc, if_false] at h ⊢; exact hg H K h
theorem zK5 (c a b : AV) : Fix (fun _ K => zAG c a b K) := by
 unfold zAG
 split
 ·exact Fix.out _ _ _
 ·exact Fix.no
theorem zKd (P : Program) (t : TypeId) (nx : Nat) : Fix (fun H K => C4 P t H nx K) := by
 intro H K h
 unfold C4 at h ⊢
 cases hz : zeroT P t with
 | none => simp only [hz] at h
 | some z =>
  simp only [hz] at h ⊢
  exact ⟨_, _, _, h.2.2, fun H' hh K' hk => ⟨h.1, by rw [hh nx (by simp)]; exact h.2.1, hk⟩⟩
theorem zKi (x : AV) (nx : Nat) : Fix (fun H K => zVk x H nx K) := fun H K h =>
 ⟨_, _, _, h.2.2, fun H' hh K' hk => ⟨h.1, by rw [hh nx (by simp)]; exact h.2.1, hk⟩⟩
theorem zKy (P : Program) (t : TypeId) (x : AV) : Fix (fun H K => P0 P t x H K) := by
 intro H K h
 unfold P0 at h ⊢
 cases x with
 | ptr o off =>
  simp only at h ⊢
  cases hA : H o with
  | box cs =>
   simp only [hA] at h
   cases hg : s9 P t with
   | none => simp only [hg] at h
   | some ag =>
    cases hs : sizeT P t with
    | none => cases ag <;> simp only [hg, hs] at h
    | some n =>
     cases ag <;> simp only [hg, hs] at h
     ·exact ⟨_, _, _, h.2, fun H' hh K' hk => by simp only [hh o (by simp), hA]; exact ⟨h.1, hk⟩⟩
     ·exact ⟨_, _, _, h.2, fun H' hh K' hk => by simp only [hh o (by simp), hA]; exact ⟨h.1, hk⟩⟩
  | tbox e0 cs =>
   simp only [hA] at h
   cases hg : s9 P t with
   | none => simp only [hg] at h
   | some ag =>
    cases hs : sizeT P t with
    | none => cases ag <;> simp only [hg, hs] at h
    | some n =>
     cases ag <;> simp only [hg, hs] at h
     exact ⟨_, _, _, h.2, fun H' hh K' hk => by simp only [hh o (by simp), hA]; exact ⟨h.1, hk⟩⟩
  | _ => simp only [hA] at h
 | eptr o sz i off =>
  simp only at h ⊢
  cases hA : H o with
  | row sz' xs =>
   simp only [hA] at h
   obtain ⟨h1, h2, h⟩ := h
   cases hg : s9 P t with
   | none => simp only [hg] at h
   | some ag =>
    cases hs : sizeT P t with
    | none => cases ag <;> simp only [hg, hs] at h
    | some n =>
     cases ag <;> simp only [hg, hs] at h
     ·exact ⟨_, _, _, h.2, fun H' hh K' hk => by simp only [hh o (by simp), hA]; exact ⟨h1, h2, h.1, hk⟩⟩
     ·exact ⟨_, _, _, h.2, fun H' hh K' hk => by simp only [hh o (by simp), hA]; exact ⟨h1, h2, h.1, hk⟩⟩
  | box cs =>
   simp only [hA] at h
   cases hg : s9 P t with
   | none => simp only [hg] at h
   | some ag =>
    cases hs : sizeT P t with
    | none => cases ag <;> simp only [hg, hs] at h
    | some n =>
     cases ag <;> simp only [hg, hs] at h
     ·exact ⟨_, _, _, h.2, fun H' hh K' hk => by simp only [hh o (by simp), hA]; exact ⟨h.1, hk⟩⟩
     ·exact ⟨_, _, _, h.2, fun H' hh K' hk => by simp only [hh o (by simp), hA]; exact ⟨h.1, hk⟩⟩
  | _ => simp only [hA] at h
 | elt x =>
  simp only at h ⊢
  cases hg : s9 P t with
  | none => simp only [hg] at h
  | some ag =>
   cases hs : sizeT P t with
   | none => cases ag <;> simp only [hg, hs] at h
   | some n =>
    cases ag <;> simp only [hg, hs] at h
    ·exact ⟨_, _, _, h.2, fun H' hh K' hk => ⟨h.1, hk⟩⟩
    ·exact ⟨_, _, _, h.2, fun H' hh K' hk => ⟨h.1, hk⟩⟩
 | _ => exact h.elim
theorem zK8 (P : Program) (t : TypeId) (a x : AV) : Fix (fun H K => H8 P t a x H K) := by
 intro H K h
 unfold H8 at h ⊢
 cases a with
 | ptr o off =>
  simp only at h ⊢
  cases hA : H o with
  | box cs =>
   simp only [hA] at h
   exact ⟨_, _, _, h.2.2.2, fun H' hh K' hk => by simp only [hh o (by simp), hA]; exact ⟨h.1, h.2.1, h.2.2.1, hk⟩⟩
  | tbox e0 cs =>
   simp only [hA] at h
   exact ⟨_, _, _, h.2.2.2.2, fun H' hh K' hk => by simp only [hh o (by simp), hA]; exact ⟨h.1, h.2.1, h.2.2.1, h.2.2.2.1, hk⟩⟩
  | _ => simp only [hA] at h
 | eptr o sz i off =>
  simp only at h ⊢
  cases hA : H o with
  | row sz' xs =>
   simp only [hA] at h
   obtain ⟨h1, h2, h3, h4, h5, h⟩ := h
   by_cases hc : off = 0 ∧ x.cells.length = sz
   ·rw [if_pos hc] at h
    exact ⟨_, _, _, h, fun H' hh K' hk => by simp only [hh o (by simp), hA]; exact ⟨h1, h2, h3, h4, h5, by rw [if_pos hc]; exact hk⟩⟩
   ·rw [if_neg hc] at h
    exact ⟨_, _, _, h.2, fun H' hh K' hk => by simp only [hh o (by simp), hA]; exact ⟨h1, h2, h3, h4, h5, by rw [if_neg hc]; exact ⟨h.1, hk⟩⟩⟩
  | box cs =>
   simp only [hA] at h
   exact ⟨_, _, _, h.2.2.2, fun H' hh K' hk => by simp only [hh o (by simp), hA]; exact ⟨h.1, h.2.1, h.2.2.1, hk⟩⟩
  | _ => simp only [hA] at h
 | _ => exact h.elim
theorem zK4 (P : Program) (x : AV) : Fix (fun _ K => zVY P x K) := by
 unfold zVY
 split
 ·split
  ·exact Fix.and (Fix.out _ _ _)
  ·exact Fix.no
 all_goals first | exact Fix.out _ _ _ | exact Fix.no
theorem zKx (op : BinOp) (k : IntKind) (a b : Int) : Fix (fun _ K => zVI op k a b K) := by
 unfold zVI
 split
 case h_10 =>
  split <;> first | exact Fix.out _ _ _ | exact Fix.no
 all_goals first | exact Fix.out _ _ _ | exact Fix.and (Fix.out _ _ _)
theorem zK9 (op : BinOp) (a b : ByteArray) : Fix (fun _ K => zVd op a b K) := by
 unfold zVd
 split <;> first | exact Fix.out _ _ _ | exact Fix.and (Fix.out _ _ _) | exact Fix.no
theorem zKh (P : Program) (op : BinOp) (t : TypeId) (x y : AV) : Fix (fun _ K => zVP P op t x y K) := by
 unfold zVP
 split
 ·split
  ·exact Fix.and (Fix.out _ _ _)
  ·exact Fix.and (Fix.out _ _ _)
  ·exact Fix.and (zKx _ _ _ _)
 ·exact zK9 _ _ _
 ·split
  ·split <;> first | exact Fix.out _ _ _ | exact Fix.no
  ·exact Fix.no
 ·unfold zAS
  split
  ·split
   ·split <;> first | exact Fix.out _ _ _ | exact Fix.no
   ·exact Fix.no
  ·exact Fix.no
 ·unfold zAp
  split
  ·split <;> first | exact Fix.out _ _ _ | exact Fix.no
  ·exact Fix.no
 ·split
  ·split <;> first | exact Fix.out _ _ _ | exact Fix.no
  ·exact Fix.no
 ·split
  ·refine Fix.and ?_
   split <;> first | exact Fix.out _ _ _ | exact Fix.no
  ·exact Fix.no
 ·exact Fix.no
theorem zLA (op : UnOp) (x : AV) : Fix (fun _ K => unA op x K) := by
 unfold unA
 split <;> first | exact Fix.out _ _ _ | exact Fix.no
theorem zKt (P : Program) (s : TypeId) (x : AV) (f : Nat) : Fix (fun _ K => E5 P s x f K) := by
 unfold E5
 split
 ·split
  ·refine Fix.and ?_
   split
   ·exact Fix.out _ _ _
   ·exact Fix.out _ _ _
   ·exact Fix.and (Fix.ite (Fix.out _ _ _) (Fix.and (Fix.and (Fix.and (Fix.out _ _ _)))))
   ·exact Fix.no
  ·exact Fix.no
 ·exact Fix.no
theorem zFH (P : Program) (u : TypeId) (cs : List AV) (off : Nat) : Fix (fun _ K => D0 P u cs off K) := by
 unfold D0
 split <;> first | exact Fix.out _ _ _ | exact Fix.and (Fix.out _ _ _) | exact Fix.no
theorem zKs (P : Program) (s : TypeId) (x : AV) (f : Nat) : Fix (fun _ K => B3 P s x f K) := by
 unfold B3
 split
 ·exact zFH _ _ _ _
 ·exact Fix.no
theorem zKw (P : Program) (t : TypeId) (x i : AV) : Fix (fun _ K => A2 P t x i K) := by
 unfold A2
 split
 ·split
  ·exact Fix.and (Fix.and (Fix.out _ _ _))
  ·exact Fix.and (Fix.and (Fix.out _ _ _))
  ·split
   ·split
    ·exact Fix.and (Fix.out _ _ _)
    ·exact Fix.no
   ·exact Fix.no
  ·exact Fix.no
 ·exact Fix.no
theorem zKv (P : Program) (t : TypeId) (x i : AV) : Fix (fun _ K => A1 P t x i K) := by
 unfold A1
 split
 ·exact Fix.and (Fix.and (Fix.out _ _ _))
 ·split
  ·split
   ·exact Fix.and (zFH _ _ _ _)
   ·exact Fix.no
  ·exact Fix.no
 ·exact Fix.no
theorem zK7 (P : Program) (t : TypeId) (x : AV) (lo hi mx : Option AV) : Fix (fun _ K => zAN P t x lo hi mx K) := by
 unfold zAN
 split
 ·split
  ·split
   ·split
    ·exact Fix.and (Fix.and (Fix.and (Fix.out _ _ _)))
    ·exact Fix.no
   ·exact Fix.no
  ·split
   ·exact Fix.and (Fix.and (Fix.and (Fix.out _ _ _)))
   ·exact Fix.no
  ·exact Fix.no
 ·split
  ·refine Fix.and ?_
   split
   ·exact Fix.and (Fix.out _ _ _)
   ·exact Fix.no
  ·split
   ·split
    ·exact Fix.and (Fix.and (Fix.out _ _ _))
    ·exact Fix.no
   ·exact Fix.no
  ·split
   ·exact Fix.and (Fix.and (Fix.out _ _ _))
   ·exact Fix.no
  ·exact Fix.no
theorem zKr (x : AV) (i : Nat) : Fix (fun _ K => B2 x i K) := by
 unfold B2
 split
 ·exact Fix.and (Fix.out _ _ _)
 ·exact Fix.no
theorem zKj (P : Program) (t : TypeId) (ps : List (Nat × AV)) : Fix (fun _ K => buildA P t ps K) := by
 unfold buildA
 split
 ·refine Fix.and (Fix.and (Fix.and ?_))
  split
  ·exact Fix.out _ _ _
  ·exact Fix.no
 ·refine Fix.and (Fix.and ?_)
  split
  ·split
   ·exact Fix.out _ _ _
   ·exact Fix.no
  ·exact Fix.no
 ·exact Fix.no
theorem zCk {H H' : Nat → AObj} : ∀ (n : Nat) (x : AV), Pure (zUO H n x).1 → (∀ o, o ∈ (zUO H n x).2 → H' o = H o) → zUO H' n x = zUO H n x
 | 0, x, _, _ => rfl
 | n + 1, x, hp, hh => by
  have each : ∀ cs : List AV, (∀ c, c ∈ cs → Pure (zUO H n c).1) → (∀ c, c ∈ cs → ∀ o, o ∈ (zUO H n c).2 → H' o = H o) → ∀ c, c ∈ cs → zUO H' n c = zUO H n c := fun cs h1 h2 c hc => zCk n c (h1 c hc) (h2 c hc)
  unfold zUO at hp hh ⊢
  cases x with
  | own o sz off len =>
   simp only at hp hh ⊢
   cases hA : H o with
   | row sz' xs =>
    simp only [hA] at hp hh
    by_cases hc : sz' = sz ∧ off + len ≤ xs.length
    ·rw [if_pos hc] at hp hh
     rw [hh o (by simp), hA]
    ·rw [if_neg hc] at hp; cases hp
   | box cs =>
    simp only [hA] at hp hh
    by_cases hc : sz = 1 ∧ off = 0 ∧ len = cs.length ∧ cs.all (fun c => R7 (zUO H n c).1) = true
    ·rw [if_pos hc] at hp hh
     rw [hh o (by simp), hA]
     simp only
     have hall := hc.2.2.2
     rw [List.all_eq_true] at hall
     have heq := each cs (fun c hm => (zAg (hall c hm)).1) (fun c hm q hq => hh q (by simp; exact .inr ⟨_, ⟨c, hm, rfl⟩, hq⟩))
     have e1 : cs.map (fun c => (zUO H' n c).1) = cs.map (fun c => (zUO H n c).1) := List.map_congr_left (fun c hm => by rw [heq c hm])
     have e2 : cs.map (fun c => (zUO H' n c).2) = cs.map (fun c => (zUO H n c).2) := List.map_congr_left (fun c hm => by rw [heq c hm])
     have e3 : cs.all (fun c => R7 (zUO H' n c).1) = cs.all (fun c => R7 (zUO H n c).1) := by
      rw [Bool.eq_iff_iff, List.all_eq_true, List.all_eq_true]
      exact ⟨fun g c hm => by rw [← heq c hm]; exact g c hm, fun g c hm => by rw [heq c hm]; exact g c hm⟩
     rw [e1, e2, e3]
    ·rw [if_neg hc] at hp; cases hp
   | _ => simp only [hA] at hp; cases hp
  | mp o =>
   simp only at hp hh ⊢
   cases hA : H o with
   | mapo ks xs => simp only [hA] at hh; rw [hh o (by simp), hA]
   | _ => simp only [hA] at hp; cases hp
  | agg cs =>
   simp only at hp hh ⊢
   have hps : ∀ c, c ∈ cs → Pure (zUO H n c).1 := fun c hm => by
    cases hp with
    | agg _ hp => exact hp _ (List.mem_map.2 ⟨c, hm, rfl⟩)
   have heq := each cs hps (fun c hm q hq => hh q (by simp; exact ⟨_, ⟨c, hm, rfl⟩, hq⟩))
   have e1 : cs.map (fun c => (zUO H' n c).1) = cs.map (fun c => (zUO H n c).1) := List.map_congr_left (fun c hm => by rw [heq c hm])
   have e2 : cs.map (fun c => (zUO H' n c).2) = cs.map (fun c => (zUO H n c).2) := List.map_congr_left (fun c hm => by rw [heq c hm])
   rw [e1, e2]
  | raw v =>
   clear hp hh
   cases v with
   | slice a m c => cases a <;> cases m <;> cases c <;> rfl
   | _ => rfl
  | _ => rfl
theorem zKk (P : Program) (t : TypeId) (n : Nat) (ps : List (Nat × AV)) (nx : Nat) : Fix (fun H K => buildSliceA P t n ps H nx K) := by
 intro H K h
 unfold buildSliceA at h ⊢
 cases ht : sliceT P t with
 | none => simp only [ht] at h
 | some e =>
  simp only [ht] at h ⊢
  cases hs : sizeT P e with
  | none => simp only [hs] at h
  | some sz =>
   cases hz : zeroT P e with
   | none => simp only [hs, hz] at h
   | some z =>
    simp only [hs, hz] at h ⊢
    obtain ⟨h1, h2, h3, h4, h6, h⟩ := h
    by_cases hr : zU8 z = true
    ·rw [if_pos hr] at h
     obtain ⟨g1, g2, h⟩ := h
     exact ⟨_, _, _, h, fun H' hh K' hk => ⟨h1, h2, h3, h4, by rw [hh nx (by simp)]; exact h6, by rw [if_pos hr]; exact ⟨g1, g2, hk⟩⟩⟩
    ·rw [if_neg hr] at h
     obtain ⟨g, h⟩ := h
     refine ⟨_, _, _, h, fun H' hh K' hk => ⟨h1, h2, h3, h4, by rw [hh nx (by simp)]; exact h6, ?_⟩⟩
     rw [if_neg hr]
     have heq : ∀ p, p ∈ ps → zUO H' 3 p.2 = zUO H 3 p.2 := fun p hm => zCk 3 p.2 (g p hm).1 (fun o ho => hh o (by
      rw [List.mem_append]
      exact .inl (List.mem_flatten.2 ⟨_, List.mem_map.2 ⟨p, hm, rfl⟩, ho⟩)))
     have e1 : ps.map (fun p => (zUO H' 3 p.2).2) = ps.map (fun p => (zUO H 3 p.2).2) := List.map_congr_left (fun p hm => by rw [heq p hm])
     have e2 : ps.map (fun p => (zUO H' 3 p.2).1) = ps.map (fun p => (zUO H 3 p.2).1) := List.map_congr_left (fun p hm => by rw [heq p hm])
     rw [e1, e2]
     exact ⟨fun p hm => by rw [heq p hm]; exact g p hm, hk⟩
theorem zK1 (P : Program) (t : TypeId) (l c : AV) (nx : Nat) : Fix (fun H K => A8 P t l c H nx K) := by
 intro H K h
 unfold A8 at h ⊢
 split at h
 ·rename_i e k n k' m ht
  cases hs : sizeT P e with
  | none => simp only [hs] at h
  | some sz =>
   cases hb : bytesT P e with
   | none => simp only [hs, hb] at h
   | some b =>
    cases hz : zeroT P e with
    | none => simp only [hs, hb, hz] at h
    | some z =>
     simp only [hs, hb, hz] at h
     obtain ⟨h1, h2, h3, h4, h5, h6, h7, h⟩ := h
     by_cases hr : zU8 z = true
     ·rw [if_pos hr] at h
      exact ⟨_, _, _, h.2, fun H' hh K' hk => by simp only [ht, hs, hb, hz]; exact ⟨h1, h2, h3, h4, h5, h6, by rw [hh nx (by simp)]; exact h7, by rw [if_pos hr]; exact ⟨h.1, hk⟩⟩⟩
     ·rw [if_neg hr] at h
      exact ⟨_, _, _, h, fun H' hh K' hk => by simp only [ht, hs, hb, hz]; exact ⟨h1, h2, h3, h4, h5, h6, by rw [hh nx (by simp)]; exact h7, by rw [if_neg hr]; exact hk⟩⟩
 ·exact h.elim
theorem D4 {H H' : Nat → AObj} {sz : Nat} {x : AV} {ys : List AV} {rd : List Nat} (h : l6 H sz x = some (ys, rd)) (hh : ∀ o, o ∈ rd → H' o = H o) : l6 H' sz x = some (ys, rd) := by
 unfold l6 at h ⊢
 split at h
 ·exact h
 ·rename_i o sz' off len
  cases hA : H o with
  | row s xs =>
   simp only [hA] at h
   split at h
   ·rename_i hc
    simp at h
    rw [hh o (by rw [← h.2]; simp), hA]
    simp only
    rw [if_pos hc, h.1, h.2]
   ·cases h
  | box cs =>
   simp only [hA] at h
   split at h
   ·rename_i hc
    simp only [Option.some.injEq, Prod.mk.injEq] at h
    rw [hh o (by rw [← h.2]; simp), hA]
    simp only
    rw [if_pos hc, h.1, h.2]
   ·cases h
  | _ => simp [hA] at h
 ·exact h
 ·cases h
theorem zKe (P : Program) (t : TypeId) (s x : AV) (nx : Nat) : Fix (fun H K => appendA P t s x H nx K) := by
 intro H K h
 unfold appendA at h ⊢
 cases ht : sliceT P t with
 | none => simp only [ht] at h
 | some e =>
  simp only [ht] at h ⊢
  cases hs : sizeT P e with
  | none => simp only [hs] at h
  | some sz =>
   cases hb : bytesT P e with
   | none => simp only [hs, hb] at h
   | some b =>
    cases hz : zeroT P e with
    | none => simp only [hs, hb, hz] at h
    | some z =>
     cases hr : l6 H ((some sz).getD 0) x with
     | none => simp only [hs, hb, hz, hr] at h
     | some yr =>
      obtain ⟨ys, rd⟩ := yr
      simp only [hs, hb, hz, hr] at h
      obtain ⟨h1, h2, h3, h⟩ := h
      by_cases hz' : zU8 z = true
      ·rw [if_pos hz'] at h
       split at h
       ·rename_i o sz' len
        generalize hA : H o = A at h
        cases A with
        | box cs =>
         obtain ⟨g1, g2, g3, g4, g5, g6, g7, g⟩ := h
         refine ⟨_, _, _, g, fun H' hh K' hk => ?_⟩
         have hr' := D4 (H' := H') hr (fun o ho => hh o (by simp [ho]))
         simp only [hs, hb, hz, hr', if_pos hz', hh o (by simp), hA]
         exact ⟨h1, h2, h3, g1, g2, g3, g4, by rw [hh nx (by simp)]; exact g5, g6, g7, hk⟩
        | _ => exact h.elim
       ·obtain ⟨g1, g2, g3, g4, g5, g⟩ := h
        refine ⟨_, _, _, g, fun H' hh K' hk => ?_⟩
        have hr' := D4 (H' := H') hr (fun o ho => hh o (by simp [ho]))
        simp only [hs, hb, hz, hr', if_pos hz']
        exact ⟨h1, h2, h3, g1, g2, by rw [hh nx (by simp)]; exact g3, g4, g5, hk⟩
       ·exact h.elim
      ·rw [if_neg hz'] at h
       obtain ⟨hpu, h⟩ := h
       split at h
       ·rename_i o sz' len
        generalize hA : H o = A at h
        cases A with
        | row sz'' xs =>
         obtain ⟨g1, g2, g3, g4, g5, g6, g⟩ := h
         refine ⟨_, _, _, g, fun H' hh K' hk => ?_⟩
         have hr' := D4 (H' := H') hr (fun o ho => hh o (by simp [ho]))
         simp only [hs, hb, hz, hr', if_neg hz', hh o (by simp), hA]
         exact ⟨h1, h2, h3, hpu, g1, g2, g3, by rw [hh nx (by simp)]; exact g4, g5, g6, hk⟩
        | _ => exact h.elim
       ·obtain ⟨g1, g2, g3, g⟩ := h
        refine ⟨_, _, _, g, fun H' hh K' hk => ?_⟩
        have hr' := D4 (H' := H') hr (fun o ho => hh o (by simp [ho]))
        simp only [hs, hb, hz, hr', if_neg hz']
        exact ⟨h1, h2, h3, hpu, by rw [hh nx (by simp)]; exact g1, g2, g3, hk⟩
       ·obtain ⟨g0, g00, g1, g2, g3, g⟩ := h
        refine ⟨_, _, _, g, fun H' hh K' hk => ?_⟩
        have hr' := D4 (H' := H') hr (fun o ho => hh o (by simp [ho]))
        simp only [hs, hb, hz, hr', if_neg hz']
        exact ⟨h1, h2, h3, hpu, g0, g00, by rw [hh nx (by simp)]; exact g1, g2, g3, hk⟩
       ·exact h.elim
theorem zFI {e : TypeId} {s : AV} {l2 : List UInt8} {rd : List Nat} {H : Nat → AObj} {nx : Nat} {K : Cont} (h : zVE e s l2 rd H nx K) : ∃ v rd' wr, K v rd' wr ∧ (∀ o, o ∈ rd → o ∈ rd') ∧ (nx ∈ rd') ∧ ∀ H' : Nat → AObj, (∀ o, o ∈ rd' → H' o = H o) → ∀ K' : Cont, K' v rd' wr → zVE e s l2 rd H' nx K' := by
 unfold zVE at h
 split at h
 ·rename_i o sz' len
  generalize hA : H o = A at h
  cases A with
  | brow e' l =>
   obtain ⟨g1, g2, g3, g4, g⟩ := h
   refine ⟨_, _, _, g, fun q hq => by simp [hq], by simp, fun H' hh K' hk => ?_⟩
   unfold zVE
   simp only [hh o (by simp), hA]
   exact ⟨g1, g2, g3, g4, hk⟩
  | _ => exact h.elim
 ·obtain ⟨g1, g⟩ := h
  refine ⟨_, _, _, g, fun q hq => by simp [hq], by simp, fun H' hh K' hk => ?_⟩
  unfold zVE
  exact ⟨g1, hk⟩
 ·exact h.elim
theorem zKf (P : Program) (t u : TypeId) (s x : AV) (nx : Nat) : Fix (fun H K => K7 P t u s x H nx K) := by
 intro H K h
 unfold K7 at h ⊢
 cases hts : sliceT P t with
 | none => simp only [hts] at h
 | some e =>
  simp only [hts] at h ⊢
  obtain ⟨h1, h2, h⟩ := h
  unfold zVi at h ⊢
  split at h
  ·obtain ⟨h3, h4, h5⟩ := h
   obtain ⟨v, rd', wr, g1, g2, g3, g4⟩ := zFI h5
   exact ⟨v, rd', wr, g1, fun H' hh K' hk => ⟨h1, by rw [hh nx g3]; exact h2, h3, h4, g4 H' hh K' hk⟩⟩
  ·rename_i o z off len
   obtain ⟨h3, h⟩ := h
   cases hr : l6 H 1 (.own o z off len) with
   | none => simp only [hr] at h
   | some p =>
    obtain ⟨ys, rd⟩ := p
    simp only [hr] at h
    obtain ⟨h4, h⟩ := h
    obtain ⟨l, hl, hne, h5⟩ := zAY _ _ h
    obtain ⟨v, rd', wr, g1, g2, g3, g4⟩ := zFI h5
    refine ⟨v, rd', wr, g1, fun H' hh K' hk => ⟨h1, by rw [hh nx g3]; exact h2, h3, ?_⟩⟩
    rw [D4 hr (fun q hq => hh q (g2 q hq))]
    refine ⟨h4, zCL ys h (fun l' hl' hk2 => ?_)⟩
    have : l' = l := by
     have h3 : l'.map (fun b : UInt8 => AV.raw (.int .u8 (b.toNat : Int))) = l.map (fun b : UInt8 => AV.raw (.int .u8 (b.toNat : Int))) := by rw [← hl', ← hl]
     exact (List.map_inj_right (fun x y hxy => by
      injection hxy with hxy
      injection hxy with _ hxy
      exact UInt8.toNat_inj.1 (by omega))).1 h3
    rw [this]; exact ⟨hne, g4 H' hh K' hk⟩
  ·exact h.elim
theorem zKl (P : Program) (b : Builtin) (ts : Array TypeId) (xs : List AV) (nx : Nat) : Fix (fun H K => C8 P b ts xs H nx K) := by
 unfold C8
 split
 ·refine Fix.and ?_
  split
  ·exact Fix.out _ _ _
  ·exact Fix.no
 ·exact Fix.ite (Fix.and (zKf _ _ _ _ _ _)) (Fix.and (zKe _ _ _ _ _))
 ·exact Fix.and (Fix.out _ _ _)
 ·intro H K h
  rename_i o sz k n
  generalize hA : H o = A at h
  cases A with
  | brow e l => exact ⟨_, _, _, h.2.2.2.2.2.2.2, fun H' hh K' hk => by simp only [hh o (by simp), hA]; exact ⟨h.1, h.2.1, h.2.2.1, h.2.2.2.1, h.2.2.2.2.1, h.2.2.2.2.2.1, h.2.2.2.2.2.2.1, hk⟩⟩
  | _ => exact h.elim
 ·exact Fix.and (Fix.and (Fix.out _ _ _))
 ·exact Fix.out _ _ _
 ·exact Fix.out _ _ _
 ·exact Fix.no
theorem Xp.congr {H H' : Nat → AObj} {ρ : Nat → Option (Option Nat)} {F : Nat → Prop} (hh : ∀ o, F o → H' o = H o) {x y : AV} (h : Xp H ρ F x y) : Xp H' ρ F x y := by
 induction h with
 | any x => exact .any x
 | same x h => exact .same x h
 | ptr k o off h => exact .ptr k o off h
 | eptr k o sz i off h => exact .eptr k o sz i off h
 | own k o sz off len h => exact .own k o sz off len h
 | mp k o h => exact .mp k o h
 | yld k o h => exact .yld k o h
 | ifp t k o off h => exact .ifp t k o off h
 | nil k sz h => exact .nil k sz h
 | nill => exact .nill
 | clpl xs => exact .clpl xs
 | nmapl => exact .nmapl
 | froz o sz off len xs h1 h2 h3 => exact .froz o sz off len xs ((hh o h2).trans h1) h2 h3
 | frozm o ks ks' xs xs' h1 h2 h3 => exact .frozm o ks ks' xs xs' ((hh o h2).trans h1) h2 h3
 | frozb o off len cs xs h1 h2 h3 h4 h5 h6 _ ih => exact .frozb o off len cs xs ((hh o h2).trans h1) h2 h3 h4 h5 h6 ih
 | agg cs ds hl _ ih => exact .agg cs ds hl ih
 | tup cs ds hl _ ih => exact .tup cs ds hl ih
 | fn f cs ds hl _ ih => exact .fn f cs ds hl ih
theorem All2.imp {R S : AV → AV → Prop} (h : ∀ x y, R x y → S x y) {xs ys : List AV} (ha : All2 R xs ys) : All2 S xs ys := by
 induction ha with
 | nil => exact .nil
 | cons h1 _ ih => exact .cons (h _ _ h1) ih
theorem OXp.congr {H H' : Nat → AObj} {ρ : Nat → Option (Option Nat)} {F : Nat → Prop} (hh : ∀ o, F o → H' o = H o) {A B : AObj} (h : OXp H ρ F A B) : OXp H' ρ F A B := by
 cases A <;> cases B <;> first | exact h | exact h.elim | exact ⟨h.1, fun i h1 h2 => (h.2 i h1 h2).congr hh⟩ | exact ⟨h.1, h.2.1, fun i h1 h2 => Xp.congr hh (h.2.2 i h1 h2)⟩ | exact ⟨h.1, h.2.1, fun t => Xp.congr hh (h.2.2 t)⟩
theorem zKm (P : Program) (f : FuncId) (avs : List AV) (nx : Nat) : Fix (fun H K => zBJ P f avs H nx K) := by
 intro H K h
 obtain ⟨ids, ex, args, fp, r, out, hm, hK⟩ := h
 refine ⟨_, _, _, hK, fun H' hh K' hk => ⟨ids, ex, args, fp, r, out, ?_, hk⟩⟩
 have hex : ∀ o, o ∈ ex → H' o = H o := fun o ho => hh o (by simp [ho])
 refine ⟨hm.spec, hm.nodup, hm.apart, hm.args.imp (fun _ _ h => h.congr hex), hm.fpl, fun k hk' => ?_, hm.scal, fun j hj => ?_, hm.unb⟩
 ·obtain ⟨h1, h2⟩ := hm.fps k hk'
  have hid : ids.getD k 0 ∈ ids := by
   have : k < ids.length := by rw [← hm.fpl]; exact hk'
   rw [w4 this]; exact List.getElem_mem this
  rw [hh _ (by simp only [List.mem_append]; exact .inl (.inl hid))]
  exact ⟨h1, h2.congr hex⟩
 ·rw [hh _ (by simp only [List.mem_append, W9, List.mem_map, List.mem_range]; exact .inr ⟨j, hj, rfl⟩)]
  exact hm.fresh j hj
theorem zCi (P : Program) (f : FuncId) (avs : List AV) (nx : Nat) : Fix (fun H K => y2 P f avs H nx K) := by
 intro H K h
 obtain ⟨gone, as', hx, h⟩ := h
 obtain ⟨v, rd, wr, hK, hfix⟩ := zKm P f as' nx _ _ h
 refine ⟨_, _, _, hK, fun H' hh K' hk => ⟨gone, as', hx.imp (fun _ _ h => h.congr (fun o ho => hh o (by simp [ho]))), hfix _ (fun o ho => ?_) _ hk⟩⟩
 by_cases hg : o ∈ gone
 ·simp only [hg, if_true]
 ·simp only [hg, if_false]; exact hh o (by simp [ho])
theorem zK0 (P : Program) (t : TypeId) (r : Option AV) (nx : Nat) : Fix (fun H K => A7 P t r H nx K) := by
 intro H K h
 unfold A7 at h ⊢
 split at h
 ·exact ⟨_, _, _, h.2, fun H' hh K' hk => ⟨by rw [hh nx (by simp)]; exact h.1, hk⟩⟩
 ·exact ⟨_, _, _, h.2.2, fun H' hh K' hk => ⟨h.1, by rw [hh nx (by simp)]; exact h.2.1, hk⟩⟩
 ·exact h.elim
theorem zFG (P : Program) (t : TypeId) (m k x : AV) : Fix (fun H K => N1 P t m k x H K) := by
 intro H K h
 unfold N1 at h ⊢
 split at h
 ·rename_i kt et o kv hmt hkv
  generalize hA : H o = A at h
  cases A with
  | mapo ks xs =>
   obtain ⟨h1, h2, h3, h4, h5, h⟩ := h
   refine ⟨_, _, _, h, fun H' hh K' hk => ?_⟩
   have he := zCk 3 x h4 (fun q hq => hh q (by simp [hq]))
   simp only [hmt, hkv, hh o (by simp), hA, he]
   exact ⟨h1, h2, h3, h4, h5, hk⟩
  | _ => exact h.elim
 ·exact h.elim
theorem zKz (P : Program) (t : TypeId) (m k : AV) (ok : Bool) : Fix (fun H K => I8 P t m k ok H K) := by
 intro H K h
 unfold I8 at h ⊢
 split at h
 ·rename_i kt et kv hmt hkv
  cases hz : zeroT P et with
  | none => simp only [hz] at h
  | some z =>
   simp only [hz] at h
   obtain ⟨h1, h2, h3, h⟩ := h
   split at h
   ·exact ⟨_, _, _, h.2, fun H' hh K' hk => by simp only [hmt, hkv, hz]; exact ⟨h1, h2, h3, h.1, hk⟩⟩
   ·rename_i o
    generalize hA : H o = A at h
    cases A with
    | mapo ks xs => exact ⟨_, _, _, h.2, fun H' hh K' hk => by simp only [hmt, hkv, hz, hh o (by simp), hA]; exact ⟨h1, h2, h3, h.1, hk⟩⟩
    | _ => exact h.elim
   ·exact h.elim
 ·exact h.elim
theorem zK6 (P : Program) (t : TypeId) (x : AV) (nx : Nat) : Fix (fun H K => D1 P t x H nx K) := by
 intro H K h
 unfold D1 at h ⊢
 split at h
 ·exact ⟨_, _, _, h.2.2, fun H' hh K' hk => ⟨h.1, by rw [hh nx (by simp)]; exact h.2.1, hk⟩⟩
 ·exact ⟨_, _, _, h.2.2, fun H' hh K' hk => ⟨h.1, by rw [hh nx (by simp)]; exact h.2.1, hk⟩⟩
 ·exact h.elim
theorem zKo (P : Program) (s d : TypeId) (x : AV) : Fix (fun H K => F7 P s d x H K) := by
 unfold F7
 split
 ·exact Fix.out _ _ _
 ·exact Fix.and (Fix.out _ _ _)
 ·exact Fix.and (Fix.out _ _ _)
 ·refine Fix.and ?_
  intro H K h
  cases hsl : sliceT P s with
  | none => simp only [hsl] at h
  | some e =>
   rename_i o z off len _
   cases hr : l6 H 1 (.own o z off len) with
   | none => simp only [hsl, hr] at h
   | some p =>
    obtain ⟨ys, rd⟩ := p
    simp only [hsl, hr] at h ⊢
    obtain ⟨he, hne, h⟩ := h
    obtain ⟨l, hl, hK⟩ := zAY _ _ h
    refine ⟨_, rd, [], hK, fun H' hh K' hk => ?_⟩
    rw [D4 hr hh]
    refine ⟨he, hne, zCL ys h (fun l' hl' _ => ?_)⟩
    have : l' = l := by
     have h3 : l'.map (fun b : UInt8 => AV.raw (.int .u8 (b.toNat : Int))) = l.map (fun b : UInt8 => AV.raw (.int .u8 (b.toNat : Int))) := by rw [← hl', ← hl]
     exact (List.map_inj_right (fun x y hxy => by
      injection hxy with hxy
      injection hxy with _ hxy
      exact UInt8.toNat_inj.1 (by omega))).1 h3
    rw [this]; exact hk
 ·exact Fix.no
theorem zKp (P : Program) (s d : TypeId) (x : AV) : Fix (fun H K => K9 P s d x H K) := by
 unfold K9
 split
 ·exact Fix.and (Fix.and (Fix.out _ _ _))
 ·exact zKo _ _ _ _
theorem zKu (P : Program) (t : TypeId) (x : AV) : Fix (fun _ K => zAk P t x K) := by
 unfold zAk
 refine Fix.and ?_
 split
 ·exact Fix.out _ _ _
 ·exact Fix.out _ _ _
 ·split
  ·exact Fix.out _ _ _
  ·exact Fix.and (Fix.out _ _ _)
 ·exact Fix.no
theorem zKg (P : Program) (t : TypeId) (ok : Bool) (x : AV) : Fix (fun _ K => zAW P t ok x K) := by
 unfold zAW
 refine Fix.and ?_
 split
 ·refine Fix.ite (Fix.out _ _ _) (Fix.and ?_)
  split
  ·exact Fix.out _ _ _
  ·exact Fix.no
 ·refine Fix.and (Fix.and ?_)
  split
  ·exact Fix.out _ _ _
  ·exact Fix.no
theorem zK3 (x : AV) : Fix (fun H K => E9 x H K) := by
 intro H K h
 unfold E9 at h ⊢
 split at h
 ·rename_i o
  generalize hA : H o = A at h
  cases A with
  | siter s pos =>
   obtain ⟨k1, k2⟩ := h
   by_cases hp : pos < s.size
   ·exact ⟨_, _, _, k1 hp, fun H' hh K' hk => by simp only [hh o (by simp), hA]; exact ⟨fun _ => hk, fun hn => absurd hp hn⟩⟩
   ·exact ⟨_, _, _, k2 hp, fun H' hh K' hk => by simp only [hh o (by simp), hA]; exact ⟨fun hn => absurd hn hp, fun _ => hk⟩⟩
  | _ => exact h.elim
 ·exact h.elim
theorem zKq (x : AV) : Fix (fun H K => E3 x H K) := by
 intro H K h
 unfold E3 at h ⊢
 split at h
 ·rename_i o
  generalize hA : H o = A at h
  cases A with
  | iter cur ks xs =>
   cases cur with
   | none => exact h.elim
   | some p => exact ⟨_, _, _, h, fun H' hh K' hk => by simp only [hh o (by simp), hA]; exact hk⟩
  | _ => exact h.elim
 ·exact h.elim
theorem zK2 (P : Program) (avs : List AV) (nx : Nat) : Fix (fun H K => zVX P avs H nx K) := by
 intro H K h
 unfold zVX at h ⊢
 split at h
 ·exact ⟨_, _, _, h.2.2.2.2, fun H' hh K' hk => ⟨h.1, h.2.1, h.2.2.1, by rw [hh nx (by simp)]; exact h.2.2.2.1, hk⟩⟩
 ·exact h.elim
theorem zKn (P : Program) (x : AV) (avs : List AV) (nx : Nat) : Fix (fun H K => C9 P x avs H nx K) := by
 unfold C9
 split
 ·split
  ·exact Fix.and (Fix.and (zCi _ _ _ _))
  ·exact Fix.and (Fix.and (Fix.and (zK2 _ _ _)))
 ·exact Fix.and (zCi _ _ _ _)
 ·exact Fix.no
theorem zFF (P : Program) (o : Oper) (ev : Operand → AV) (nx : Nat) : Fix (fun H K => zUV P o ev H nx K) := by
 unfold zUV
 split
 ·exact Fix.out _ _ _
 ·exact Fix.out _ _ _
 ·exact zK5 _ _ _
 ·exact zKd _ _ _
 ·exact zKi _ _
 ·exact zKj _ _ _
 ·exact zKk _ _ _ _ _
 ·exact zKy _ _ _
 ·exact zK8 _ _ _ _
 ·exact zK4 _ _
 ·exact zKh _ _ _ _ _
 ·exact zLA _ _
 ·exact Fix.and (zKp _ _ _ _)
 ·unfold zBf
  split
  ·exact Fix.and (Fix.out _ _ _)
  ·split
   ·exact Fix.out _ _ _
   ·exact Fix.no
  ·exact Fix.no
 ·exact zK1 _ _ _ _ _
 ·exact zK7 _ _ _ _ _ _
 ·exact zKt _ _ _ _
 ·exact zKs _ _ _ _
 ·exact zKw _ _ _ _
 ·exact zKv _ _ _ _
 ·exact zKr _ _
 ·exact zK0 _ _ _ _
 ·exact zFG _ _ _ _ _
 ·exact zFG _ _ _ _ _
 ·exact zKz _ _ _ _ _
 ·exact zK6 _ _ _ _
 ·exact Fix.and (zK3 _)
 ·exact zKq _
 ·exact zKu _ _ _
 ·exact zKg _ _ _ _
 ·unfold R3
  split
  ·exact zKl _ _ _ _ _
  ·exact zKn _ _ _ _
  ·split
   ·split
    ·exact Fix.and (zCi _ _ _ _)
    ·exact Fix.no
   ·exact Fix.no
 ·exact Fix.no
theorem zEx {P : Program} {o : Oper} {ev ev' : Operand → AV} {H : Nat → AObj} {nx : Nat} {K : Cont} (h : ∀ x, x ∈ o.op.operands → ev' x = ev x) (he : zUV P o ev H nx K) : zUV P o ev' H nx K := by
 unfold zUV at he ⊢
 cases hop : o.op <;> rw [hop] at he h <;> simp only at he ⊢ <;> try (first | exact he.elim | skip)
 case build t ps =>
  have e : (ps.toList.map fun p => (p.1, ev' p.2)) = ps.toList.map fun p => (p.1, ev p.2) := List.map_congr_left (fun p hp => by rw [h p.2 (by simp [Op.operands]; exact ⟨p.1, by simpa using hp⟩)])
  rw [e]; exact he
 case buildSlice t n ps =>
  have e : (ps.toList.map fun p => (p.1, ev' p.2)) = ps.toList.map fun p => (p.1, ev p.2) := List.map_congr_left (fun p hp => by rw [h p.2 (by simp [Op.operands]; exact ⟨p.1, by simpa using hp⟩)])
  rw [e]; exact he
 case makeFunc fn first cs =>
  have e : cs.toList.map ev' = cs.toList.map ev := List.map_congr_left (fun p hp => h p (by simp [Op.operands]; exact .inr (by simpa using hp)))
  have e1 : first.toList.map ev' = first.toList.map ev := List.map_congr_left (fun p hp => h p (by simp [Op.operands]; exact .inl (by simpa using hp)))
  rw [e, e1]; exact he
 case slice t x lo hi mx =>
  have e0 := h x (by simp [Op.operands])
  have e1 : lo.map ev' = lo.map ev := by cases lo with
   | none => rfl
   | some y => simp only [Option.map_some]; rw [h y (by simp [Op.operands])]
  have e2 : hi.map ev' = hi.map ev := by cases hi with
   | none => rfl
   | some y => simp only [Option.map_some]; rw [h y (by simp [Op.operands])]
  have e3 : mx.map ev' = mx.map ev := by cases mx with
   | none => rfl
   | some y => simp only [Option.map_some]; rw [h y (by simp [Op.operands])]
  rw [e0, e1, e2, e3]; exact he
 case makeMap t r =>
  have e1 : r.map ev' = r.map ev := by cases r with
   | none => rfl
   | some y => simp only [Option.map_some]; rw [h y (by simp [Op.operands])]
  rw [e1]; exact he
 case mapUpdate t m k x =>
  rw [h m (by simp [Op.operands]), h k (by simp [Op.operands]), h x (by simp [Op.operands])]; exact he
 case insert t m k x =>
  rw [h m (by simp [Op.operands]), h k (by simp [Op.operands]), h x (by simp [Op.operands])]; exact he
 case lookup t m k ok =>
  rw [h m (by simp [Op.operands]), h k (by simp [Op.operands])]; exact he
 case call c =>
  have e : c.args.toList.map ev' = c.args.toList.map ev := List.map_congr_left (fun p hp => h p (by simp [Op.operands, Go.Call.operands]; exact .inr (by simpa using hp)))
  rw [e]
  obtain ⟨callee, args, ts⟩ := c
  cases callee with
  | value f =>
   have e2 := h f (by simp [Op.operands, Go.Call.operands])
   simp only [R3] at he ⊢
   rw [e2]; exact he
  | invoke r m =>
   have e2 := h r (by simp [Op.operands, Go.Call.operands])
   simp only [R3] at he ⊢
   rw [e2]; exact he
  | _ => exact he
 all_goals
  first
  | (rw [h _ (by simp [Op.operands])]; exact he)
  | (rw [h _ (by simp [Op.operands]), h _ (by simp [Op.operands])]; exact he)
  | (rw [h _ (by simp [Op.operands]), h _ (by simp [Op.operands]), h _ (by simp [Op.operands])]; exact he)
  | exact he
  | (simp only [h _ (by simp [Op.operands])]; exact he)
end Go.Abs

namespace Go.Abs
open Go
section
variable {P : Program} {M : Way P} {Q : w6} {a : Act} {w : World} {γ : Gh}
theorem Guar.alloc {o : Obj} (h : γ.Wf w) : Guar γ ⟨fun b => γ.O b ∨ b = w.heap.size, γ.F, γ.tok⟩ w (w.alloc o) #[] := by
 refine ⟨⟨?_, ?_⟩, rfl, rfl, rfl, by simp, fun b hb _ => ?_, fun b hb => hb.imp id (fun e => Nat.le_of_eq e.symm), fun b hb => .inl hb, rfl, .nil⟩
 ·rintro b ((hb | rfl) | hb)
  ·have := h.lt b (.inl hb); simp; omega
  ·simp
  ·have := h.lt b (.inr hb); simp; omega
 ·rintro b (hb | rfl) hf
  ·exact h.apart b hb hf
  ·have := h.lt _ (.inr hf); omega
 ·show (w.heap.push o)[b]? = _
  rw [Array.getElem?_push_lt hb]; simp [hb]
def zNW (M : Way P) (l : Nat) (a : Act) (Q : w6) : zUd := fun e w γ => match e with
 | .returned _ => ∃ r, w.heap[l]? = some (.loop r) ∧ r.state ≠ LoopState.busy ∧ γ.O l ∧ (match r.pending with
  | none => Bx (Q .normal a · γ) γ (w.putObj l (.loop { r with state := .exhausted }))
  | some c => Code.wpM M none c Q a (w.putObj l (.loop { r with state := .exhausted })) γ)
 | .panicked ch => Q (.panic ch) a w γ
 | .outgrown => False
def L4 (w : World) (fn : FuncId) (a : Act) (ps : Array Tmp) (assign body : Code) : World := (w.alloc (.deferred (some []))).alloc (.loop { state := .ready, pending := none, fn, tmps := a.tmps, params := ps, assign, body, defers := w.heap.size })
def H3 (w : World) (a : Act) : Act := { a with defers := { target := .collected w.heap.size, args := #[] } :: a.defers }
def zBl (w : World) (vs : Array Value) : Array Value := #[.func (.yield (w.heap.size + 1)) #[] #[]] ++ vs
theorem zLS {main : Bool} {b : Frame} {k : List Item} {cs : List Frame} (hb : b.roundOf = none) {g : Operand} {ps : Array Tmp} {assign body : Code} {f : FuncId} {vs : Array Value} (hg : a.eval g = .func (.func f) #[] vs) (hc : ∀ args w, (callFunc f args).run P w = .ok (.enter f args) w ∧ (callFunc f args).events P w #[] = #[]) :
  stepG P main (GR b a (.code (.rangeFunc g ps assign body) :: k) cs) w = .go (Conc.G (Frame.enter P f (zBl w vs) .normal) (b.atR (H3 w a) (.inRangeFunc (w.heap.size + 1) :: k) :: cs)) (L4 w b.fn a ps assign body) #[] := by
 have henter := run_enterLoop_outer (P := P) (w := w) b.fn a.tmps ps assign body
 have hev : (Instr.enterLoop b.fn a.tmps ps assign body none).events P w #[] = #[] := by
  simp [Instr.enterLoop, newObj, bind, Sem.bind, pure, Sem.runT, Sem.events, -Sem.runT_eq]
 obtain ⟨q1, q2⟩ := hc (zBl w vs) (L4 w b.fn a ps assign body)
 have e1 : (w.alloc (.deferred (some []))).alloc (.loop { state := .ready, pending := none, fn := b.fn, tmps := a.tmps, params := ps, assign, body, defers := w.heap.size }) = L4 w b.fn a ps assign body := rfl
 rw [e1] at henter
 generalize L4 w b.fn a ps assign body = W at *
 simp only [Conc.G, stepG, stepG.exec, Frame.atR, hb, Sem.runT_eq, henter, hev]
 have he : ∀ fr : Frame, fr.tmps = a.tmps → resolve fr.eval { callee := .value g, args := #[.const (.func (.yield (w.heap.size + 1)) #[] #[])], argTypes := #[] } 0 = pure { target := .fn (.func f) vs, args := #[.func (.yield (w.heap.size + 1)) #[] #[]] } := fun fr e => by
  rw [zBQ fr a e]
  simp only [resolve, hg, Deferred.ofValue]
  simp [Act.eval]
 have hs : ∀ fr : Frame, fr.tmps = a.tmps → (do let d ← resolve fr.eval { callee := .value g, args := #[.const (.func (.yield (w.heap.size + 1)) #[] #[])], argTypes := #[] } 0; invoke d.target d.args : Sem Next) = callFunc f (zBl w vs) := fun fr e => by
  rw [he fr e]; rfl
 rw [hs _ rfl]
 simp only [stepG.apply, Sem.runT_eq, q1, q2, if_true, GStep.after, H3]
 simp [seen]
theorem zLK {main : Bool} {b : Frame} {k : List Item} {cs : List Frame} {l : Nat} {r : Loop} (h1 : w.heap[l]? = some (.loop r)) (h2 : r.state ≠ LoopState.busy) :
  stepG P main (GR b a (.endRangeFunc l :: k) cs) w = .go (GR b a ((r.pending.map Item.code).toList ++ k) cs) (w.putObj l (.loop { r with state := .exhausted })) (seen P b.fn #[⟨.obj l, false, false⟩, ⟨.obj l, true, false⟩]) := by
 have hrun : (Instr.endLoop l).run P w = .ok r.pending (w.putObj l (.loop { r with state := .exhausted })) := run_endLoop h1 h2
 have hevs : (Instr.endLoop l).events P w #[] = #[⟨.obj l, false, false⟩, ⟨.obj l, true, false⟩] := by
  simp [Instr.endLoop, Instr.getLoop, getObj, setObj, bind, Sem.bind, pure, h1, h2, Sem.runT, Sem.events, Obj.isChan, -Sem.runT_eq]
 simp [Conc.G, stepG, stepG.exec, Frame.atR, hrun, hevs, GStep.after]
theorem zRb {g : Operand} {ps : Array Tmp} {assign body : Code} {f : FuncId} {vs : Array Value} (hg : a.eval g = .func (.func f) #[] vs) (hc : ∀ args w, (callFunc f args).run P w = .ok (.enter f args) w ∧ (callFunc f args).events P w #[] = #[])
  (h : ∀ fn, Bx (fun w₁ => ∃ γ', Guar γ γ' w₁ (L4 w₁ fn a ps assign body) #[] ∧ U6 M .normal f (zBl w₁ vs) (zNW M (w₁.heap.size + 1) (H3 w₁ a) Q) (L4 w₁ fn a ps assign body) γ') γ w) :
  Code.wpM M none (.rangeFunc g ps assign body) Q a w γ := fun b k cs hb => by
 refine .step ⟨rfl, fun w₁ hr => ?_⟩
 obtain ⟨γ', hG, hcl⟩ := h b.fn w₁ hr
 refine ⟨_, _, #[], γ', zLS hb hg hc, hG, (hcl _).bind ?_⟩
 generalize H3 w₁ a = a'
 generalize w₁.heap.size + 1 = l
 rintro g' w' γ1 ⟨fr, fn, rfl, rfl, k2, k3, k4, ⟨k5, k6⟩ | ⟨ch, k5, k6⟩⟩
 ·refine .step ⟨rfl, fun w₂ hr2 => ?_⟩
  obtain ⟨v, q1, q2, q3⟩ := k6 w₂ hr2
  obtain ⟨es, he, hes⟩ := zFS (main := M.main) (c := b.atR a' (.inRangeFunc l :: k)) (cs := cs) k2 k3 k5 k4 q1 q2
  have hg0 := Guar.refl hr2.wf'
  refine ⟨_, _, es, γ1, he, ⟨hg0.wf, hg0.tape, hg0.os, hg0.output, hg0.size, hg0.block, hg0.own, hg0.fro, hg0.tok, hes⟩, ?_⟩
  have hfin : (b.atR a' (.inRangeFunc l :: k)).finish v = b.atR a' (.endRangeFunc l :: k) := rfl
  rw [hfin]
  refine .step ⟨rfl, fun w₃ hr3 => ?_⟩
  obtain ⟨r, p1, p2, p3, p4⟩ := q3 w₃ hr3
  refine ⟨_, _, _, γ1, zLK p1 p2, .put hr3.wf' p3 (EvsOK.seen (zCd p3)), ?_⟩
  cases hp : r.pending with
  | none => rw [hp] at p4; exact .stop ⟨.normal, a', p4, by simp [Dest]⟩
  | some c => rw [hp] at p4; exact p4 b k cs hb
 ·exact .quiet rfl (fun w => zFR k3 k5 k4) fun w₂ hr2 => .stop ⟨.panic ch, a', k6.rely hr2, _, rfl⟩
end
end Go.Abs

namespace Go.Abs
open Go
def L2 : Obj → Bool
 | .view _ _ | .chan _ _ _ _ _ _ | .pending _ _ | .number _ _ => false
 | _ => true
structure Keep (γ : Gh) (n : Nat) (w : World) : Prop where
 lt : ∀ b, γ.O b ∨ γ.F b → b < n
 size : n ≤ w.heap.size
 kind : ∀ b o, γ.O b ∨ γ.F b → w.heap[b]? = some o → L2 o = true
def TameV (P : Program) (γ : Gh) (n : Nat) {α : Type} (s : Sem α) (p : α → Prop) : Prop :=
 ∀ w, Keep γ n w → (∀ es, EvsOK γ n es → EvsOK γ n (s.events P w es)) ∧ ∀ v w', s.run P w = .ok v w' → Keep γ n w' ∧ p v
abbrev zUM (P : Program) (γ : Gh) (n : Nat) {α : Type} (s : Sem α) : Prop := TameV P γ n s fun _ => True
section
variable {P : Program} {γ : Gh} {n : Nat} {α β : Type}
theorem TameV.bind {s : Sem α} {f : α → Sem β} {p : α → Prop} {q : β → Prop} (h : TameV P γ n s p) (hf : ∀ v, p v → TameV P γ n (f v) q) : TameV P γ n (s >>= f) q := fun w hw => by
 obtain ⟨h1, h2⟩ := h w hw
 refine ⟨fun es he => ?_, fun v w' hr => ?_⟩
 ·rw [Sem.events_bind]
  cases hr : s.run P w with
  | ok v w' =>
   obtain ⟨h3, h4⟩ := h2 v w' hr
   exact (hf v h4 w' h3).1 _ (h1 es he)
  | halt x w' => exact h1 es he
 ·rw [Sem.run_bind] at hr
  cases hs : s.run P w with
  | ok u w1 =>
   rw [hs] at hr
   obtain ⟨h3, h4⟩ := h2 u w1 hs
   exact (hf u h4 w1 h3).2 v w' hr
  | halt x w1 => rw [hs] at hr; cases hr
theorem TameV.mono {s : Sem α} {p q : α → Prop} (h : TameV P γ n s p) (hq : ∀ v, p v → q v) : TameV P γ n s q := fun w hw => ⟨(h w hw).1, fun v w' hr => ⟨((h w hw).2 v w' hr).1, hq v ((h w hw).2 v w' hr).2⟩⟩
theorem TameV.pure {v : α} {p : α → Prop} (h : p v) : TameV P γ n (Pure.pure v : Sem α) p := fun w hw => ⟨fun es he => he, fun v' w' hr => by cases hr; exact ⟨hw, h⟩⟩
theorem TameV.halt {x : Halt} {p : α → Prop} : TameV P γ n (.halt x : Sem α) p := fun w hw => ⟨fun es he => he, fun v' w' hr => by cases hr⟩
theorem q8 {v : α} : zUM P γ n (Pure.pure v : Sem α) := .pure trivial
theorem q7 {s : Sem α} {f : α → Sem β} (h : zUM P γ n s) (hf : ∀ v, zUM P γ n (f v)) : zUM P γ n (s >>= f) := TameV.bind h fun v _ => hf v
theorem b9 {s : Sem α} {f : α → β} (h : zUM P γ n s) : zUM P γ n (f <$> s) := by
 have : f <$> s = s >>= fun v => Pure.pure (f v) := rfl
 rw [this]; exact q7 h fun v => q8
theorem Keep.push {w : World} {o : Obj} (h : Keep γ n w) : Keep γ n { w with heap := w.heap.push o } :=
 ⟨h.lt, by simp; have := h.size; omega, fun b o' hb hw => h.kind b o' hb (by
  have hlt := h.lt b hb
  have := h.size
  simpa [Array.getElem?_push, show b ≠ w.heap.size by omega] using hw)⟩
theorem a5 {o : Obj} : zUM P γ n (newObj o) := fun w hw => ⟨fun es he => he, fun v w' hr => by cases hr; exact ⟨hw.push, trivial⟩⟩
theorem a6 {r : Nat} : zUM P γ n (shape r) := fun w hw => ⟨fun es he => he, fun v w' hr => by cases hr; exact ⟨hw, trivial⟩⟩
theorem Z3 {a : Addr} : zUM P γ n (frozen a) := fun w hw => ⟨fun es he => he, fun v w' hr => by cases hr; exact ⟨hw, trivial⟩⟩
theorem tame_program : TameV P γ n program (· = P) := fun w hw => ⟨fun es he => he, fun v w' hr => by cases hr; exact ⟨hw, rfl⟩⟩
theorem Keep.modify {w : World} {b : Nat} {f : Obj → Obj} (h : Keep γ n w) (hf : ∀ o, L2 o = true → L2 (f o) = true) : Keep γ n { w with heap := w.heap.modify b f } :=
 ⟨h.lt, by simpa using h.size, fun k o hk hw => by
  simp only [Array.getElem?_modify] at hw
  split at hw
  ·cases hq : w.heap[k]? with
   | none => rw [hq] at hw; cases hw
   | some o' => rw [hq] at hw; cases hw; exact hf _ (h.kind k o' hk hq)
  ·exact h.kind k o hk hw⟩
theorem b8 {a : Addr} {k : Nat} : zUM P γ n (freeze a k) := fun w hw => ⟨fun es he => he, fun v w' hr => by
 cases hr
 refine ⟨?_, trivial⟩
 unfold World.freeze
 split
 ·exact hw
 ·exact hw.modify fun o ho => by cases o <;> first | exact ho | rfl⟩
theorem p9 {q : Question} : zUM P γ n (choose q) := fun w hw => by
 have h0 : ∀ d, Keep γ n { w with drawn := d } := fun d => ⟨hw.lt, hw.size, hw.kind⟩
 by_cases hq : q.forced = true
 ·exact ⟨fun es he => by simp only [choose, Sem.events, Sem.runT, hq, if_true]; exact he, fun v w' hr => by simp only [choose, Sem.run, hq, if_true] at hr; cases hr; exact ⟨hw, trivial⟩⟩
 ·exact ⟨fun es he => by simp only [choose, Sem.events, Sem.runT, hq, if_false, Bool.false_eq_true]; exact he, fun v w' hr => by simp only [choose, Sem.run, hq, if_false, Bool.false_eq_true] at hr; cases hr; exact ⟨h0 _, trivial⟩⟩
theorem y5 {why : String} : zUM P γ n (stuck why : Sem α) := .halt
theorem v8 {u : Unsupported} : zUM P γ n (unsupported u : Sem α) := .halt
theorem l8 {v : Value} : zUM P γ n (goPanic v : Sem α) := .halt
theorem i8 {k : Nat} : zUM P γ n (askRoom k) := by
 unfold askRoom
 split
 ·refine fun w hw => ⟨fun es he e hm => ?_, fun v w' hr => by cases hr; exact ⟨hw, trivial⟩⟩
  have hm : e ∈ es.push ⟨.mark .noRoom, false, true⟩ := hm
  rcases Array.mem_push.1 hm with h | rfl
  ·exact he e h
  ·exact trivial
 ·exact q8
theorem j8 {a : Addr} (ha : γ.O a.block ∨ γ.F a.block) : zUM P γ n (load a .plain) := fun w hw => by
 have hev : ∀ es, EvsOK γ n es → EvsOK γ n (es.push ⟨.cell a, false, false⟩) := fun es he e hm => by
  rcases Array.mem_push.1 hm with h | rfl
  ·exact he e h
  ·exact ⟨rfl, ha.elim (fun h => .inl h) (fun h => .inr ⟨rfl, h⟩)⟩
 have hfar : ∀ p, w.cell? a = none → ∃ h, w.farLoad p a false = .error h := fun p hc => by
  unfold World.farLoad
  split
  ·rename_i at_ u hv
   have := hw.kind a.block _ ha hv; cases this
  ·exact ⟨_, rfl⟩
 cases hc : w.cell? a with
 | some v =>
  refine ⟨fun es he => ?_, fun v' w' hr => ?_⟩
  ·simp only [load, Sem.events, Sem.runT, hc]; exact hev es he
  ·simp only [load, Sem.run, hc] at hr; cases hr; exact ⟨hw, trivial⟩
 | none =>
  obtain ⟨h, hf⟩ := hfar P hc
  have hm : ((Mode.plain == Mode.atomic) = false) := rfl
  refine ⟨fun es he => ?_, fun v' w' hr => ?_⟩
  ·simp only [load, Sem.events, Sem.runT, hc, hm, hf]; exact he
  ·simp only [load, Sem.run, hc, hm, hf] at hr; cases hr
theorem zQ5 {a : Addr} {v : Value} (ha : γ.O a.block) : zUM P γ n (store a v .plain) := fun w hw => by
 by_cases h1 : v.oneCell' = true
 ·have hrun := run_store P w a v .plain h1
  have hevs := fun es => events_store P w es a v .plain h1
  unfold stored at hrun
  have hm : ((Mode.plain == Mode.atomic) = false) := rfl
  cases hc : w.cell? a with
  | some u =>
   rw [hc] at hrun
   simp only [hc] at hevs
   by_cases hf : w.frozen? a = true
   ·simp only [hf, if_true] at hrun hevs
    exact ⟨fun es he => by rw [hevs]; exact he, fun v' w' hr => by rw [hrun] at hr; cases hr⟩
   ·simp only [hf, Bool.false_eq_true, if_false] at hrun hevs
    refine ⟨fun es he => ?_, fun v' w' hr => ?_⟩
    ·rw [hevs]
     intro e hm2
     rcases Array.mem_push.1 hm2 with h | rfl
     ·exact he e h
     ·exact ⟨rfl, .inl ha⟩
    ·rw [hrun] at hr; cases hr
     exact ⟨hw.modify fun o ho => by cases o <;> first | exact ho | rfl, trivial⟩
  | none =>
   rw [hc] at hrun
   simp only [hc] at hevs
   have hfar : ∃ h, w.farStore P a v false = .error h := by
    unfold World.farStore
    split
    ·rename_i at_ u hv
     have := hw.kind a.block _ (.inl ha) hv; cases this
    ·exact ⟨_, rfl⟩
   obtain ⟨h, hf⟩ := hfar
   simp only [hm, hf] at hrun hevs
   exact ⟨fun es he => by rw [hevs]; exact he, fun v' w' hr => by rw [hrun] at hr; cases hr⟩
 ·cases v <;> first | (exfalso; exact h1 rfl) | exact ⟨fun es he => he, fun v' w' hr => by cases hr⟩
theorem zA8 {r : Nat} (hr : γ.O r ∨ γ.F r) : zUM P γ n (getObj r) := fun w hw => by
 refine ⟨fun es he => ?_, fun v w' h => ?_⟩
 ·simp only [getObj, Sem.events, Sem.runT]
  cases hq : w.heap[r]? with
  | none => exact he
  | some o =>
   have hk := hw.kind r o hr hq
   have hc : o.isChan = false := by cases o <;> first | rfl | cases hk
   cases o <;> first | exact he | (intro e hm; simp only [hc] at hm; rcases Array.mem_push.1 hm with h | rfl; exact he e h; exact ⟨rfl, hr.elim (fun h => .inl h) (fun h => .inr ⟨rfl, h⟩)⟩)
 ·simp only [getObj, Sem.run] at h
  cases hq : w.heap[r]? with
  | none => rw [hq] at h; cases h
  | some o => rw [hq] at h; cases o <;> (simp at h) <;> (obtain ⟨_, rfl⟩ := h; exact ⟨hw, trivial⟩)
theorem zD0 {r : Nat} {o : Obj} (hr : γ.O r) (ho : L2 o = true) : zUM P γ n (setObj r o) := fun w hw => by
  have hc : o.isChan = false := by cases o <;> first | rfl | cases ho
  refine ⟨fun es he => ?_, fun v w' h => ?_⟩
  · simp only [setObj, Sem.events, Sem.runT]
    cases hq : w.heap[r]? with
    | none => exact he
    | some o' => cases o' <;> first | exact he | (intro e hm; simp only [hc] at hm; rcases Array.mem_push.1 hm with h | rfl; exact he e h; exact ⟨rfl, .inl hr⟩)
  · have hk : Keep γ n { w with heap := w.heap.setIfInBounds r o } := ⟨hw.lt, by simpa using hw.size, fun k o' hk hq => by
      simp only [Array.getElem?_setIfInBounds] at hq
      split at hq
      · split at hq
        · cases hq; exact ho
        · cases hq
      · exact hw.kind k o' hk hq⟩
    simp only [setObj, Sem.run] at h
    cases hq : w.heap[r]? with
    | none => rw [hq] at h; cases h
    | some o' => rw [hq] at h; cases o' <;> (simp at h) <;> (subst h; exact ⟨hk, trivial⟩)
end
end Go.Abs

namespace Go.Abs
open Go
section
variable {P : Program} {γ : Gh} {n : Nat} {α β : Type}
theorem o3 {t : TypeId} : zUM P γ n (typeInfo t) := by
 unfold typeInfo
 refine q7 (tame_program.mono fun _ _ => trivial) fun _ => ?_
 split
 ·exact q8
 ·exact y5
theorem w9 {t : TypeId} : zUM P γ n (underlying t) := by
 unfold underlying
 refine q7 (tame_program.mono fun _ _ => trivial) fun _ => ?_
 split
 ·exact q8
 ·exact y5
theorem t7 {t : TypeId} : zUM P γ n (sizeOf t) := by
 unfold sizeOf
 exact q7 o3 fun _ => q8
theorem j7 {t : TypeId} : zUM P γ n (isAgg t) := by
 unfold isAgg
 refine q7 w9 fun _ => ?_
 split <;> exact q8
theorem j3 {t : TypeId} : zUM P γ n (zeroValue t) := by
 unfold zeroValue
 refine q7 o3 fun _ => ?_
 split
 ·exact q8
 ·exact v8
theorem j6 {t : TypeId} : zUM P γ n (elemOf t) := by
 unfold elemOf
 refine q7 w9 fun _ => ?_
 split
 ·exact q8
 ·exact y5
theorem i7 {v : Value} : zUM P γ n (asIntOf v) := by
 unfold asIntOf
 split
 ·exact q8
 ·exact v8
 ·exact y5
theorem i6 {v : Value} : zUM P γ n (asInt v) := by
 unfold asInt
 exact q7 i7 fun _ => q8
theorem e9 {v : Value} : zUM P γ n (asBool v) := by
 unfold asBool
 split
 ·exact q8
 ·exact y5
theorem Z1 {v : Value} : zUM P γ n (asAgg v) := by
 unfold asAgg
 split
 ·exact q8
 ·exact y5
theorem l9 {t : TypeId} {cs : Array Value} : zUM P γ n (newRow t cs) := by
 unfold newRow
 exact q7 a5 fun _ => q8
theorem j0 {t : TypeId} {v : Value} : zUM P γ n (newVar t v) := by
 unfold newVar
 exact l9
theorem t8 {e : RuntimeError} : zUM P γ n (runtimePanic e : Sem α) := by
 unfold runtimePanic
 refine q7 (tame_program.mono fun _ _ => trivial) fun _ => ?_
 cases e <;> first
  | exact l8
  | exact q7 (q7 j6 fun _ => j0) fun _ => l8
  | exact q7 j6 fun _ => q7 j0 fun _ => l8
theorem b7 {k : IntKind} {x y : Int} {c : BoundsCode} : zUM P γ n (boundsPanic k x y c : Sem α) := by
 unfold boundsPanic
 (repeat' (first | exact tame_program.mono (fun _ _ => trivial) | with_reducible exact q8 | with_reducible exact y5 | with_reducible exact v8 | with_reducible exact l8 | with_reducible exact a5 | with_reducible exact p9 | with_reducible exact a6 | with_reducible exact b8 | with_reducible exact Z3 | with_reducible exact o3 | with_reducible exact w9 | with_reducible exact t7 | with_reducible exact j7 | with_reducible exact j3 | with_reducible exact i7 | with_reducible exact i6 | with_reducible exact e9 | with_reducible exact Z1 | with_reducible exact l9 | with_reducible exact j0 | with_reducible exact j6 | with_reducible exact i8 | with_reducible exact t8 | with_reducible exact b7 | with_reducible exact j8 ‹_› | with_reducible exact i9 ‹_› | with_reducible exact j1 ‹_› _ _ | refine q7 ?_ fun _ => ?_ | refine b9 ?_ | split | dsimp only | exact q8))
theorem Q3 {v : Value} : zUM P γ n (asAddr v) := by
 unfold asAddr
 split
 ·exact q8
 ·exact t8
 ·exact y5
theorem j9 {t : TypeId} {cs : Array Value} {off : Nat} : zUM P γ n (part t cs off) := by
 unfold part
 refine q7 j7 fun _ => ?_
 split
 ·exact q7 t7 fun _ => q8
 ·split
  ·exact q8
  ·exact y5
theorem Q4 {v : Value} {y : Nat} {c : BoundsCode} : zUM P γ n (Instr.sliceBound v y c) := by
 unfold Instr.sliceBound
 refine q7 i7 fun x => ?_
 obtain ⟨k, i⟩ := x
 simp only
 split
 ·exact q8
 ·exact b7
theorem Z4 {b : Bool} {len cap : Nat} {lo hi mx : Option Value} : zUM P γ n (Instr.sliceBounds b len cap lo hi mx) := by
 unfold Instr.sliceBounds
 (repeat' (first | exact tame_program.mono (fun _ _ => trivial) | with_reducible exact q8 | with_reducible exact y5 | with_reducible exact v8 | with_reducible exact l8 | with_reducible exact a5 | with_reducible exact p9 | with_reducible exact a6 | with_reducible exact b8 | with_reducible exact Z3 | with_reducible exact o3 | with_reducible exact w9 | with_reducible exact t7 | with_reducible exact j7 | with_reducible exact j3 | with_reducible exact i7 | with_reducible exact i6 | with_reducible exact e9 | with_reducible exact Z1 | with_reducible exact j9 | with_reducible exact l9 | with_reducible exact j0 | with_reducible exact j6 | with_reducible exact i8 | with_reducible exact t8 | with_reducible exact b7 | with_reducible exact Q3 | with_reducible exact Q4 | with_reducible exact Z4 | with_reducible exact j8 ‹_› | with_reducible exact i9 ‹_› | with_reducible exact j1 ‹_› _ _ | refine q7 ?_ fun _ => ?_ | refine b9 ?_ | split | dsimp only | exact q8))
theorem zBI (a : Addr) (i : Nat) : (a.add i).block = a.block := by
 unfold Addr.add
 try (split <;> rfl)
theorem zHv {a : Addr} (ha : γ.O a.block ∨ γ.F a.block) : ∀ (k i : Nat) (acc : Array Value), zUM P γ n (loadCellsFrom a i k acc)
 | 0, _, _ => q8
 | k + 1, i, acc => q7 (j8 (a := a.add i) (by rw [zBI]; exact ha)) fun v => zHv ha k (i + 1) (acc.push v)
theorem i9 {a : Addr} (ha : γ.O a.block ∨ γ.F a.block) {k : Nat} : zUM P γ n (loadCells a k) := zHv ha k 0 #[]
theorem j1 {a : Addr} (ha : γ.O a.block) : ∀ (vs : List Value) (i : Nat), zUM P γ n (storeCells a vs i)
 | [], _ => q8
 | v :: vs, i => q7 (zQ5 (a := a.add i) (by rw [zBI]; exact ha)) fun _ => j1 ha vs (i + 1)
theorem zDy {t : TypeId} {a : Addr} (ha : γ.O a.block ∨ γ.F a.block) : zUM P γ n (loadVar t a) := by
 unfold loadVar
 refine q7 j7 fun _ => ?_
 split
 ·exact q7 t7 fun _ => q7 (i9 ha) fun _ => q8
 ·exact j8 ha
theorem zHy {t : TypeId} {a : Addr} {v : Value} (ha : γ.O a.block) : zUM P γ n (storeVar t a v) := by
 unfold storeVar
 refine q7 t7 fun _ => ?_
 split
 ·exact q7 y5 fun _ => j1 ha _ _
 ·exact j1 ha _ _
theorem zDw {ι σ : Type} {f : ι → σ → Sem (ForInStep σ)} : ∀ (l : List ι) (s : σ), (∀ x, x ∈ l → ∀ s, zUM P γ n (f x s)) → zUM P γ n (forIn l s f)
 | [], s, _ => by simp only [List.forIn_nil]; exact q8
 | x :: l, s, h => by
  simp only [List.forIn_cons]
  refine q7 (h x (by simp) s) fun r => ?_
  cases r with
  | done s => exact q8
  | yield s => exact zDw l s fun y hy => h y (by simp [hy])
theorem zHw {ι κ : Type} {f : ι → Sem κ} : ∀ (l : List ι), (∀ x, zUM P γ n (f x)) → zUM P γ n (l.mapM f)
 | [], _ => by simp only [List.mapM_nil]; exact q8
 | x :: l, h => by
  simp only [List.mapM_cons]
  exact q7 (h x) fun _ => q7 (zHw l h) fun _ => q8
theorem zQw {ι κ : Type} {f : ι → Sem κ} (l : Array ι) (h : ∀ x, zUM P γ n (f x)) : zUM P γ n (l.mapM f) := by
 rw [← Array.toArray_toList (xs := l), List.mapM_toArray]
 exact b9 (zHw _ h)
theorem zQV {t : TypeId} {v : Value} : zUM P γ n (Instr.alloc t true v) := by
 unfold Instr.alloc
 exact q7 j3 fun _ => q7 j0 fun _ => q8
theorem zQZ {t : TypeId} {v : Value} : zUM P γ n (Instr.box t v) := by
 unfold Instr.box
 exact q7 j0 fun _ => q8
theorem zQa {t : TypeId} {ps : Array (Nat × Value)} : zUM P γ n (Instr.build t ps) := by
 unfold Instr.build
 refine q7 j3 fun _ => q7 w9 fun d => ?_
 split
 ·refine q7 (zQw _ fun _ => q7 t7 fun _ => q8) fun _ => ?_
  split
  ·exact q8
  ·exact y5
 ·refine q7 t7 fun _ => ?_
  split
  ·exact q8
  ·exact y5
 ·exact y5
theorem zQb {t : TypeId} {k : Nat} {ps : Array (Nat × Value)} : zUM P γ n (Instr.buildSlice t k ps) := by
 unfold Instr.buildSlice
 (repeat' (first | exact tame_program.mono (fun _ _ => trivial) | with_reducible exact q8 | with_reducible exact y5 | with_reducible exact v8 | with_reducible exact l8 | with_reducible exact a5 | with_reducible exact p9 | with_reducible exact a6 | with_reducible exact b8 | with_reducible exact Z3 | with_reducible exact o3 | with_reducible exact w9 | with_reducible exact t7 | with_reducible exact j7 | with_reducible exact j3 | with_reducible exact i7 | with_reducible exact i6 | with_reducible exact e9 | with_reducible exact Z1 | with_reducible exact j9 | with_reducible exact l9 | with_reducible exact j0 | with_reducible exact j6 | with_reducible exact i8 | with_reducible exact t8 | with_reducible exact b7 | with_reducible exact Q3 | with_reducible exact Q4 | with_reducible exact Z4 | with_reducible exact j8 ‹_› | with_reducible exact i9 ‹_› | with_reducible exact j1 ‹_› _ _ | refine q7 ?_ fun _ => ?_ | refine b9 ?_ | split | dsimp only | exact q8))
theorem zQv {t : TypeId} {l c : Value} : zUM P γ n (Instr.makeSlice t l c) := by
 unfold Instr.makeSlice
 (repeat' (first | exact tame_program.mono (fun _ _ => trivial) | with_reducible exact q8 | with_reducible exact y5 | with_reducible exact v8 | with_reducible exact l8 | with_reducible exact a5 | with_reducible exact p9 | with_reducible exact a6 | with_reducible exact b8 | with_reducible exact Z3 | with_reducible exact o3 | with_reducible exact w9 | with_reducible exact t7 | with_reducible exact j7 | with_reducible exact j3 | with_reducible exact i7 | with_reducible exact i6 | with_reducible exact e9 | with_reducible exact Z1 | with_reducible exact j9 | with_reducible exact l9 | with_reducible exact j0 | with_reducible exact j6 | with_reducible exact i8 | with_reducible exact t8 | with_reducible exact b7 | with_reducible exact Q3 | with_reducible exact Q4 | with_reducible exact Z4 | with_reducible exact j8 ‹_› | with_reducible exact i9 ‹_› | with_reducible exact j1 ‹_› _ _ | refine q7 ?_ fun _ => ?_ | refine b9 ?_ | split | dsimp only | exact q8))
theorem zQt {t : TypeId} {r : Option Value} : zUM P γ n (Instr.makeMap t r) := by
 unfold Instr.makeMap
 (repeat' (first | exact tame_program.mono (fun _ _ => trivial) | with_reducible exact q8 | with_reducible exact y5 | with_reducible exact v8 | with_reducible exact l8 | with_reducible exact a5 | with_reducible exact p9 | with_reducible exact a6 | with_reducible exact b8 | with_reducible exact Z3 | with_reducible exact o3 | with_reducible exact w9 | with_reducible exact t7 | with_reducible exact j7 | with_reducible exact j3 | with_reducible exact i7 | with_reducible exact i6 | with_reducible exact e9 | with_reducible exact Z1 | with_reducible exact j9 | with_reducible exact l9 | with_reducible exact j0 | with_reducible exact j6 | with_reducible exact i8 | with_reducible exact t8 | with_reducible exact b7 | with_reducible exact Q3 | with_reducible exact Q4 | with_reducible exact Z4 | with_reducible exact j8 ‹_› | with_reducible exact i9 ‹_› | with_reducible exact j1 ‹_› _ _ | refine q7 ?_ fun _ => ?_ | refine b9 ?_ | split | dsimp only | exact q8))
theorem Y9 {v : Value} : zUM P γ n (Instr.sureAddr v) := by
 unfold Instr.sureAddr
 split
 ·exact q8
 ·exact y5
theorem zQl {t : TypeId} {v : Value} {k : Nat} : zUM P γ n (Instr.field t v k) := by
 unfold Instr.field
 (repeat' (first | exact tame_program.mono (fun _ _ => trivial) | with_reducible exact q8 | with_reducible exact y5 | with_reducible exact v8 | with_reducible exact l8 | with_reducible exact a5 | with_reducible exact p9 | with_reducible exact a6 | with_reducible exact b8 | with_reducible exact Z3 | with_reducible exact o3 | with_reducible exact w9 | with_reducible exact t7 | with_reducible exact j7 | with_reducible exact j3 | with_reducible exact i7 | with_reducible exact i6 | with_reducible exact e9 | with_reducible exact Z1 | with_reducible exact j9 | with_reducible exact l9 | with_reducible exact j0 | with_reducible exact j6 | with_reducible exact i8 | with_reducible exact t8 | with_reducible exact b7 | with_reducible exact Q3 | with_reducible exact Q4 | with_reducible exact Z4 | with_reducible exact Y9 | with_reducible exact j8 ‹_› | with_reducible exact i9 ‹_› | with_reducible exact j1 ‹_› _ _ | refine q7 ?_ fun _ => ?_ | refine b9 ?_ | split | dsimp only | exact q8))
theorem zQn {t : TypeId} {v i : Value} : zUM P γ n (Instr.index t v i) := by
 unfold Instr.index
 (repeat' (first | exact tame_program.mono (fun _ _ => trivial) | with_reducible exact q8 | with_reducible exact y5 | with_reducible exact v8 | with_reducible exact l8 | with_reducible exact a5 | with_reducible exact p9 | with_reducible exact a6 | with_reducible exact b8 | with_reducible exact Z3 | with_reducible exact o3 | with_reducible exact w9 | with_reducible exact t7 | with_reducible exact j7 | with_reducible exact j3 | with_reducible exact i7 | with_reducible exact i6 | with_reducible exact e9 | with_reducible exact Z1 | with_reducible exact j9 | with_reducible exact l9 | with_reducible exact j0 | with_reducible exact j6 | with_reducible exact i8 | with_reducible exact t8 | with_reducible exact b7 | with_reducible exact Q3 | with_reducible exact Q4 | with_reducible exact Z4 | with_reducible exact Y9 | with_reducible exact j8 ‹_› | with_reducible exact i9 ‹_› | with_reducible exact j1 ‹_› _ _ | refine q7 ?_ fun _ => ?_ | refine b9 ?_ | split | dsimp only | exact q8))
theorem zQ2 {t : TypeId} {v : Value} {lo hi mx : Option Value} : zUM P γ n (Instr.slice t v lo hi mx) := by
 unfold Instr.slice
 (repeat' (first | exact tame_program.mono (fun _ _ => trivial) | with_reducible exact q8 | with_reducible exact y5 | with_reducible exact v8 | with_reducible exact l8 | with_reducible exact a5 | with_reducible exact p9 | with_reducible exact a6 | with_reducible exact b8 | with_reducible exact Z3 | with_reducible exact o3 | with_reducible exact w9 | with_reducible exact t7 | with_reducible exact j7 | with_reducible exact j3 | with_reducible exact i7 | with_reducible exact i6 | with_reducible exact e9 | with_reducible exact Z1 | with_reducible exact j9 | with_reducible exact l9 | with_reducible exact j0 | with_reducible exact j6 | with_reducible exact i8 | with_reducible exact t8 | with_reducible exact b7 | with_reducible exact Q3 | with_reducible exact Q4 | with_reducible exact Z4 | with_reducible exact Y9 | with_reducible exact j8 ‹_› | with_reducible exact i9 ‹_› | with_reducible exact j1 ‹_› _ _ | refine q7 ?_ fun _ => ?_ | refine b9 ?_ | split | dsimp only | exact q8))
theorem zQ3 {t : TypeId} {v : Value} {lo hi mx : Option Value} : zUM P γ n (Instr.sliceAt t v lo hi mx) := by
 unfold Instr.sliceAt
 refine q7 w9 fun _ => ?_
 split
 ·exact q7 Y9 fun _ => q7 Z4 fun _ => q7 t7 fun _ => q8
 ·exact zQ2
theorem zQo {t : TypeId} {v i : Value} : zUM P γ n (Instr.indexAt t v i) := by
 unfold Instr.indexAt
 (repeat' (first | exact tame_program.mono (fun _ _ => trivial) | with_reducible exact q8 | with_reducible exact y5 | with_reducible exact v8 | with_reducible exact l8 | with_reducible exact a5 | with_reducible exact p9 | with_reducible exact a6 | with_reducible exact b8 | with_reducible exact Z3 | with_reducible exact o3 | with_reducible exact w9 | with_reducible exact t7 | with_reducible exact j7 | with_reducible exact j3 | with_reducible exact i7 | with_reducible exact i6 | with_reducible exact e9 | with_reducible exact Z1 | with_reducible exact j9 | with_reducible exact l9 | with_reducible exact j0 | with_reducible exact j6 | with_reducible exact i8 | with_reducible exact t8 | with_reducible exact b7 | with_reducible exact Q3 | with_reducible exact Q4 | with_reducible exact Z4 | with_reducible exact Y9 | with_reducible exact j8 ‹_› | with_reducible exact i9 ‹_› | with_reducible exact j1 ‹_› _ _ | refine q7 ?_ fun _ => ?_ | refine b9 ?_ | split | dsimp only | exact q8))
theorem zQk {v : Value} {k : Nat} : zUM P γ n (Instr.extract v k) := by
 unfold Instr.extract
 split
 ·split
  ·exact q8
  ·exact y5
 ·exact y5
theorem zQs {t : TypeId} {v : Value} : zUM P γ n (Instr.makeInterface t v) := by
 unfold Instr.makeInterface
 (repeat' (first | exact tame_program.mono (fun _ _ => trivial) | with_reducible exact q8 | with_reducible exact y5 | with_reducible exact v8 | with_reducible exact l8 | with_reducible exact a5 | with_reducible exact p9 | with_reducible exact a6 | with_reducible exact b8 | with_reducible exact Z3 | with_reducible exact o3 | with_reducible exact w9 | with_reducible exact t7 | with_reducible exact j7 | with_reducible exact j3 | with_reducible exact i7 | with_reducible exact i6 | with_reducible exact e9 | with_reducible exact Z1 | with_reducible exact j9 | with_reducible exact l9 | with_reducible exact j0 | with_reducible exact j6 | with_reducible exact i8 | with_reducible exact t8 | with_reducible exact b7 | with_reducible exact Q3 | with_reducible exact Q4 | with_reducible exact Z4 | with_reducible exact Y9 | with_reducible exact j8 ‹_› | with_reducible exact i9 ‹_› | with_reducible exact j1 ‹_› _ _ | refine q7 ?_ fun _ => ?_ | refine b9 ?_ | split | dsimp only | exact q8))
theorem zQ1 {t : TypeId} {v : Value} (h : ∀ m, v = .map (some m) → γ.O m ∨ γ.F m) : zUM P γ n (Instr.range t v) := by
 unfold Instr.range
 have hg : ∀ m, v = .map (some m) → zUM P γ n (getObj m) := fun m e => zA8 (h m e)
 refine q7 w9 fun _ => ?_
 dsimp only
 split
 ·(repeat' (first | exact tame_program.mono (fun _ _ => trivial) | with_reducible exact q8 | with_reducible exact y5 | with_reducible exact v8 | with_reducible exact l8 | with_reducible exact a5 | with_reducible exact p9 | with_reducible exact a6 | with_reducible exact b8 | with_reducible exact Z3 | with_reducible exact o3 | with_reducible exact w9 | with_reducible exact t7 | with_reducible exact j7 | with_reducible exact j3 | with_reducible exact i7 | with_reducible exact i6 | with_reducible exact e9 | with_reducible exact Z1 | with_reducible exact j9 | with_reducible exact l9 | with_reducible exact j0 | with_reducible exact j6 | with_reducible exact i8 | with_reducible exact t8 | with_reducible exact b7 | with_reducible exact Q3 | with_reducible exact Q4 | with_reducible exact Z4 | with_reducible exact Y9 | with_reducible exact j8 ‹_› | with_reducible exact i9 ‹_› | with_reducible exact j1 ‹_› _ _ | refine q7 ?_ fun _ => ?_ | refine b9 ?_ | split | dsimp only | exact q8))
 ·(repeat' (first | exact tame_program.mono (fun _ _ => trivial) | with_reducible exact q8 | with_reducible exact y5 | with_reducible exact v8 | with_reducible exact l8 | with_reducible exact a5 | with_reducible exact p9 | with_reducible exact a6 | with_reducible exact b8 | with_reducible exact Z3 | with_reducible exact o3 | with_reducible exact w9 | with_reducible exact t7 | with_reducible exact j7 | with_reducible exact j3 | with_reducible exact i7 | with_reducible exact i6 | with_reducible exact e9 | with_reducible exact Z1 | with_reducible exact j9 | with_reducible exact l9 | with_reducible exact j0 | with_reducible exact j6 | with_reducible exact i8 | with_reducible exact t8 | with_reducible exact b7 | with_reducible exact Q3 | with_reducible exact Q4 | with_reducible exact Z4 | with_reducible exact Y9 | with_reducible exact j8 ‹_› | with_reducible exact i9 ‹_› | with_reducible exact j1 ‹_› _ _ | refine q7 ?_ fun _ => ?_ | refine b9 ?_ | split | dsimp only | exact q8))
 ·refine q7 (hg _ rfl) fun _ => ?_
  (repeat' (first | exact tame_program.mono (fun _ _ => trivial) | with_reducible exact q8 | with_reducible exact y5 | with_reducible exact v8 | with_reducible exact l8 | with_reducible exact a5 | with_reducible exact p9 | with_reducible exact a6 | with_reducible exact b8 | with_reducible exact Z3 | with_reducible exact o3 | with_reducible exact w9 | with_reducible exact t7 | with_reducible exact j7 | with_reducible exact j3 | with_reducible exact i7 | with_reducible exact i6 | with_reducible exact e9 | with_reducible exact Z1 | with_reducible exact j9 | with_reducible exact l9 | with_reducible exact j0 | with_reducible exact j6 | with_reducible exact i8 | with_reducible exact t8 | with_reducible exact b7 | with_reducible exact Q3 | with_reducible exact Q4 | with_reducible exact Z4 | with_reducible exact Y9 | with_reducible exact j8 ‹_› | with_reducible exact i9 ‹_› | with_reducible exact j1 ‹_› _ _ | refine q7 ?_ fun _ => ?_ | refine b9 ?_ | split | dsimp only | exact q8))
 ·(repeat' (first | exact tame_program.mono (fun _ _ => trivial) | with_reducible exact q8 | with_reducible exact y5 | with_reducible exact v8 | with_reducible exact l8 | with_reducible exact a5 | with_reducible exact p9 | with_reducible exact a6 | with_reducible exact b8 | with_reducible exact Z3 | with_reducible exact o3 | with_reducible exact w9 | with_reducible exact t7 | with_reducible exact j7 | with_reducible exact j3 | with_reducible exact i7 | with_reducible exact i6 | with_reducible exact e9 | with_reducible exact Z1 | with_reducible exact j9 | with_reducible exact l9 | with_reducible exact j0 | with_reducible exact j6 | with_reducible exact i8 | with_reducible exact t8 | with_reducible exact b7 | with_reducible exact Q3 | with_reducible exact Q4 | with_reducible exact Z4 | with_reducible exact Y9 | with_reducible exact j8 ‹_› | with_reducible exact i9 ‹_› | with_reducible exact j1 ‹_› _ _ | refine q7 ?_ fun _ => ?_ | refine b9 ?_ | split | dsimp only | exact q8))
end
end Go.Abs

namespace Go.Abs
open Go
def S5 (g : Goroutine) (w : World) : Machine := { world := w, gs := #[g], rest := { timers := #[], alone := none, slice := none } }
def zBe (P : Program) : Way P := ⟨true, fun K g w γ => γ.Wf w → ∃ g' w' γ', Steps P (S5 g w) (S5 g' w') ∧ K g' w' γ' ∧ γ'.Wf w' ∧ w'.tape = w.tape ∧ w'.os = w.os ∧ w'.output = w.output,
 fun hm _ _ _ h hw => let ⟨g', w', γ', h1, h2, h3⟩ := h hw; ⟨g', w', γ', h1, hm _ _ _ h2, h3⟩⟩
theorem zMt {P : Program} {g : Goroutine} {w : World} (hg : g.status = .running) : move P (S5 g w) = .goroutine (S5 g w) 0 := by
 simp [move, ask, askOn, S5, runnable_eq, due, ahead, Goroutine.canRun, List.range_succ, choose, pure, Sem.run, Question.forced, hg]
theorem zQP {P : Program} {g g' : Goroutine} {w w' : World} {es : Array Event} (hg : g.status = .running) (h : stepG P true g w = .go g' w' es) : step P (S5 g w) = .next (S5 g' w') := by
 rw [step, stepT, zMt hg]
 simp [runT, S5, Array.swapAt!, h]
theorem Run.lone {P : Program} {S : Sts} {g : Goroutine} {w : World} {γ : Gh} (h : Run (zBe P) S g w γ) (hw : γ.Wf w) : ∃ g' w' γ', Steps P (S5 g w) (S5 g' w') ∧ S g' w' γ' ∧ γ'.Wf w' ∧ w'.tape = w.tape ∧ w'.os = w.os ∧ w'.output = w.output := by
 refine h (fun g w γ => γ.Wf w → ∃ g' w' γ', Steps P (S5 g w) (S5 g' w') ∧ S g' w' γ' ∧ γ'.Wf w' ∧ w'.tape = w.tape ∧ w'.os = w.os ∧ w'.output = w.output) (fun g w γ h hw => ⟨g, w, γ, .refl _ _, h, hw, rfl, rfl, rfl⟩) (fun g w γ ⟨hr, h⟩ hw => ?_) (fun g w γ h hw => ?_) (fun g w γ γ' hf h hw => ?_) hw
 ·obtain ⟨g1, w1, es, γ1, e, hg, hx⟩ := h w (.refl hw)
  obtain ⟨g', w', γ', q1, q2, q3, q4, q5, q6⟩ := hx hg.wf
  exact ⟨g', w', γ', .head (zQP hr e) q1, q2, q3, q4.trans hg.tape, q5.trans hg.os, q6.trans hg.output⟩
 ·obtain ⟨g1, w1, γ1, q0, hx, q1, q2, q3, q4⟩ := h w (.refl hw) hw
  obtain ⟨g', w', γ', p1, p2, p3, p4, p5, p6⟩ := hx q1
  exact ⟨g', w', γ', q0.trans p1, p2, p3, p4.trans q2, p5.trans q3, p6.trans q4⟩
 ·exact h (hf.rely (.refl hw)).wf
theorem zJa {P : Program} {f : FuncId} {args : Array Value} {R : zUd} {w : World} {γ : Gh} (h : U6 (zBe P) .normal f args R w γ) (hw : γ.Wf w) :
  Calls P f args w fun e w' => ∃ γ', R e w' γ' ∧ γ'.Wf w' ∧ w'.tape = w.tape ∧ w'.os = w.os ∧ w'.output = w.output := fun cs => by
 obtain ⟨g', w', γ', h1, ⟨fr, fn, rfl, h3, h4, h5, h6, h7⟩, h8, h9⟩ := (h cs).lone hw
 rcases h7 with ⟨q1, q2⟩ | ⟨ch, q1, q2⟩
 ·obtain ⟨v, r1, r2, r3⟩ := q2 w' (.refl h8)
  exact ⟨.returned v, w', fr, ⟨γ', r3 w' (.refl h8), h8, h9⟩, h1, h3, q1, h5, h4, fn, by rw [h3]; exact h6, r1⟩
 ·exact ⟨.panicked ch, w', fr, ⟨γ', q2 w' (.refl h8), h8, h9⟩, h1, h3, q1, h5, fn, by rw [h3]; exact h6⟩
end Go.Abs

namespace Go.Abs
open Go
def zED (cs : Array Value) : Prop := ∀ (i : Nat) (c : Value), cs[i]? = some c → J8 c = true
inductive FlatV : Value → Prop
 | int (k : IntKind) (a : Int) : FlatV (.int k a)
 | bool (b : Bool) : FlatV (.bool b)
 | str (s : ByteArray) : FlatV (.string s)
 | agg (cs : Array Value) : zED cs → FlatV (.agg cs)
theorem FlatV.of {v : Value} (h : J8 v = true) : FlatV v := by
 cases v <;> first | exact .int _ _ | exact .bool _ | exact .str _ | cases h
section
variable {P : Program} {γ : Gh} {n : Nat} {α β : Type}
theorem H9 {t : TypeId} {cs : Array Value} {off : Nat} (h : zED cs) : TameV P γ n (part t cs off) FlatV := by
 unfold part
 refine TameV.bind j7 fun _ _ => ?_
 split
 ·refine TameV.bind t7 fun k _ => TameV.pure (.agg _ fun i c hc => ?_)
  rw [Array.getElem?_extract] at hc
  split at hc
  ·exact h _ c hc
  ·cases hc
 ·split
  ·rename_i v hv
   exact TameV.pure (.of (h _ v hv))
  ·exact TameV.halt
theorem zA7 {ι σ : Type} {f : ι → σ → Sem (ForInStep σ)} (l : Array ι) (s : σ) (h : ∀ x s, zUM P γ n (f x s)) : zUM P γ n (forIn l s f) := by
 rw [← Array.forIn_toList]
 exact zDw _ _ fun x _ s => h x s
theorem zDx {σ : Type} {f : Nat → σ → Sem (ForInStep σ)} (r : Std.Legacy.Range) (s : σ) (h : ∀ x s, zUM P γ n (f x s)) : zUM P γ n (forIn r s f) := by
 rw [Std.Legacy.Range.forIn_eq_forIn_range']
 exact zDw _ _ fun x _ s => h x s
theorem zB1 : ∀ (d : Nat) (t : TypeId) (x y : Value), FlatV x → FlatV y → zUM P γ n (Op.equalIn d t x y)
 | 0, _, _, _, _, _ => v8
 | d + 1, t, x, y, hx, hy => by
  unfold Op.equalIn
  refine q7 w9 fun u => ?_
  cases hx <;> cases hy <;> cases u <;> simp only [] <;> try (first | exact q8 | exact y5)
  ·split
   ·exact q8
   ·exact y5
  ·rename_i cs hc cs' hc' len elem
   refine q7 t7 fun k => q7 (zDx _ _ fun i _ => ?_) fun r => ?_
   ·refine TameV.bind (H9 hc) fun v hv => TameV.bind (H9 hc') fun v' hv' => q7 (zB1 d elem v v' hv hv') fun b => ?_
    split <;> exact q8
   ·split <;> exact q8
  ·rename_i cs hc cs' hc' fields
   refine q7 (tame_program.mono fun _ _ => trivial) fun p => ?_
   split
   ·refine q7 v8 fun _ => q7 (zA7 _ _ fun f _ => ?_) fun r => ?_
    ·split
     ·refine TameV.bind (H9 hc) fun v hv => TameV.bind (H9 hc') fun v' hv' => q7 (zB1 d f.type v v' hv hv') fun b => ?_
      split <;> exact q8
     ·exact q8
    ·split <;> exact q8
   ·refine q7 (zA7 _ _ fun f _ => ?_) fun r => ?_
    ·split
     ·refine TameV.bind (H9 hc) fun v hv => TameV.bind (H9 hc') fun v' hv' => q7 (zB1 d f.type v v' hv hv') fun b => ?_
      split <;> exact q8
     ·exact q8
    ·split <;> exact q8
theorem zDv {t : TypeId} {x y : Value} (hx : FlatV x) (hy : FlatV y) : zUM P γ n (Op.equal t x y) := zB1 _ _ _ _ hx hy
theorem zDu : ∀ (d : Nat) (t : TypeId) (x y : Value), zUM P γ n (Op.eqGuardIn d t x y)
 | 0, _, _, _ => v8
 | d + 1, t, x, y => by
  unfold Op.eqGuardIn
  refine q7 w9 fun u => ?_
  split
  ·exact q8
  ·refine q7 (zA7 _ _ fun f _ => ?_) fun r => ?_
   ·split
    ·refine q7 j9 fun v => q7 j9 fun v' => q7 (zDu d _ v v') fun b => ?_
     split <;> exact q8
    ·exact q8
   ·dsimp only; split <;> exact q8
  ·refine q7 t7 fun k => q7 (zDx _ _ fun i _ => ?_) fun r => ?_
   ·refine q7 j9 fun v => q7 j9 fun v' => q7 (zDu d _ v v') fun b => ?_
    split <;> exact q8
   ·dsimp only; split <;> exact q8
  ·exact q8
theorem zQi {op : BinOp} {t : TypeId} {x y : Operand} {a b : Value} : zUM P γ n (eqGuard op t x y a b) := by
 unfold eqGuard
 have h : zUM P γ n (Op.eqGuardIn Op.maxDepth t a b) := zDu _ _ _ _
 repeat' (first | exact h | exact tame_program.mono (fun _ _ => trivial) | exact q8 | exact v8 | refine q7 ?_ fun _ => ?_ | split | dsimp only)
theorem zQX {op : BinOp} {t : TypeId} {k k' : IntKind} {a b : Int} : zUM P γ n (binOp op t (.int k a) (.int k' b)) := by
 cases op <;> simp only [binOp, Op.shift, Op.intArith, Op.intDiv, Op.intBits, Op.intCmp] <;> (repeat' (first | exact q8 | exact y5 | exact t8 | split))
theorem zQY {op : BinOp} {t : TypeId} {a b : ByteArray} : zUM P γ n (binOp op t (.string a) (.string b)) := by
 cases op <;> simp only [binOp, Op.stringOp] <;> (repeat' (first | exact q8 | exact y5 | exact v8 | exact t8 | split | dsimp only))
theorem zA6 {op : BinOp} {t : TypeId} {x y : Value} (he : zUM P γ n (Op.equal t x y)) (ho : op = .eql ∨ op = .neq) (hx : ∀ k a, x ≠ .int k a) (hx2 : ∀ s, x ≠ .string s) (hx3 : ∀ k a, x ≠ .float k a) (hx4 : ∀ k a b, x ≠ .complex k a b) : zUM P γ n (binOp op t x y) := by
 have h1 : zUM P γ n (do pure (.bool (← Op.equal t x y)) : Sem Value) := q7 he fun _ => q8
 have h2 : zUM P γ n (do pure (.bool (!(← Op.equal t x y))) : Sem Value) := q7 he fun _ => q8
 rcases ho with rfl | rfl <;> unfold binOp <;> split <;> first | exact h1 | exact h2 | exact (hx _ _ rfl).elim | exact (hx2 _ rfl).elim | exact (hx3 _ _ rfl).elim | exact (hx4 _ _ _ rfl).elim | simp_all
theorem zB0 : ∀ (em : Bool) (d : Nat) (t : TypeId) (v : Value), FlatV v → zUM P γ n (Instr.checkKey em d t v)
 | _, 0, _, _, _ => v8
 | em, d + 1, t, v, hv => by
  unfold Instr.checkKey
  refine q7 w9 fun u => ?_
  cases hv with
  | agg cs hc =>
   cases u <;> simp only [] <;> (try first | exact q8 | exact y5)
   ·refine q7 (zDx _ _ fun i _ => ?_) fun _ => q8
    refine q7 t7 fun _ => TameV.bind (H9 hc) fun v hv => q7 (zB0 em d _ v hv) fun _ => q8
   ·refine q7 (zA7 _ _ fun f _ => ?_) fun _ => q8
    split
    ·exact TameV.bind (H9 hc) fun v hv => q7 (zB0 em d _ v hv) fun _ => q8
    ·exact q8
  | _ => cases u <;> first | exact q8 | exact y5
theorem zHq {t : TypeId} {k : Value} (hk : FlatV k) : ∀ (es : List MapEntry) (i : Nat), (∀ e, e ∈ es → FlatV e.key) → zUM P γ n (Instr.findAsking t k es i)
 | [], _, _ => q8
 | e :: es, i, h => by
  unfold Instr.findAsking
  refine q7 (zDv hk (h e (by simp))) fun b => ?_
  split
  ·exact q8
  ·exact zHq hk es (i + 1) fun x hx => h x (by simp [hx])
theorem zHr {t : TypeId} {k : Value} (hk : FlatV k) {es : List MapEntry} (h : ∀ e, e ∈ es → FlatV e.key) : zUM P γ n (Instr.findKey t k es) := by
 unfold Instr.findKey
 refine q7 w9 fun u => ?_
 split
 ·exact q8
 ·exact zHq hk es 0 h
end
end Go.Abs

namespace Go.Abs
open Go
section
variable {P : Program} {M : Way P} {R : zUd} {a : Act} {w : World} {γ : Gh} {kd : CallKind} {f f0 : FuncId}
def zAc (M : Way P) (f : FuncId) (args : Array Value) (mode : FrameMode) (R : FrameMode → World → Gh → Prop) (w : World) (γ : Gh) : Prop :=
 ∀ (fr : Frame) (cs : List Frame), fr.mode = mode → Run M (fun g w γ => ∃ mode', Bx (R mode' · γ) γ w ∧ g = Conc.G { fr with mode := mode' } cs) (Conc.G (Frame.enter P f args .deferred) (fr :: cs)) w γ
theorem zEk {args : Array Value} {mode : FrameMode} {R R' : FrameMode → World → Gh → Prop} (h : zAc M f args mode R w γ) (hm : ∀ m w γ, R m w γ → R' m w γ) : zAc M f args mode R' w γ := fun fr cs hf =>
 (h fr cs hf).mono fun _ _ _ ⟨m, h1, h2⟩ => ⟨m, fun w₁ hr => hm _ _ _ (h1 w₁ hr), h2⟩
theorem zHh {fr : Frame} {cs : List Frame} {main : Bool} (h : fr.mode ≠ .run) : stepG P main (Conc.G fr cs) w = unwind P main fr cs none w := by
 simp only [Conc.G, stepG]
theorem zRI {mode : FrameMode} {d : Deferred} {ds : List Deferred} (hm : mode ≠ .run) (hd : a.defers = d :: ds) (hc : ∀ r, d.target ≠ .collected r) (hn : d.target ≠ .nil)
    (h : Bx (fun w₁ => ∃ f vs, (invoke d.target d.args).run P w₁ = .ok (.enter f vs) w₁ ∧ EvsOK γ w₁.heap.size ((invoke d.target d.args).events P w₁ #[]) ∧ zAc M f vs mode (fun mode' w γ => zUh M kd f0 R mode' { a with defers := ds } w γ) w₁ γ) γ w) : zUh M kd f0 R mode a w γ := fun cs todo =>
  .step ⟨rfl, fun w₁ hr => by
    obtain ⟨f, vs, h1, h2, h3⟩ := h w₁ hr
    have hg0 := Guar.refl hr.wf'
    have hmatch : ∀ mode : FrameMode, ((d.target matches .nil) && (mode matches .panicking _)) = false := fun mode => by
      cases ht : d.target <;> first | rfl | exact (hn ht).elim
    have hu : stepG P M.main (Conc.G { fn := f0, tmps := a.tmps, todo, defers := a.defers, mode, kind := kd } cs) w₁ =
        callDeferred P { fn := f0, tmps := a.tmps, todo, defers := ds, mode, kind := kd } cs none d w₁ := by
      rw [zHh hm]
      unfold unwind
      simp only [hd]
      split
      · rename_i heq
        simp only [List.cons.injEq] at heq
        obtain ⟨h4, _⟩ := heq
        rw [h4] at hc
        exact (hc _ rfl).elim
      · rename_i heq
        simp only [List.cons.injEq] at heq
        obtain ⟨rfl, rfl⟩ := heq
        rfl
      · rename_i heq; cases heq
    refine ⟨Conc.G (Frame.enter P f vs .deferred) ({ fn := f0, tmps := a.tmps, todo, defers := ds, mode, kind := kd } :: cs), w₁, seen P f0 ((invoke d.target d.args).events P w₁ #[]), γ, ?_, ⟨hg0.wf, hg0.tape, hg0.os, hg0.output, hg0.size, hg0.block, hg0.own, hg0.fro, hg0.tok, h2.seen⟩, (h3 _ cs rfl).bind ?_⟩
    · rw [hu]
      unfold callDeferred
      refine (if_neg (fun e => Bool.noConfusion ((hmatch mode).symm.trans e))).trans ?_
      simp [h1, GStep.after, Conc.G]
    · rintro g w γ ⟨mode', q1, rfl⟩
      exact .of_wf fun hw => q1 w (.refl hw) cs todo⟩
abbrev zBF := Exit → Act → FrameMode → World → Gh → Prop
def Code.wpD (M : Way P) (c : Code) (Q : zBF) (mode : FrameMode) (a : Act) (w : World) (γ : Gh) : Prop :=
 ∀ (b : Frame) (k : List Item) (fr : Frame) (cs : List Frame), b.roundOf = none → b.kind = .deferred → fr.mode = mode →
  Run M (fun g w γ => ∃ e a mode', Bx (Q e a mode' · γ) γ w ∧ Dest b k ({ fr with mode := mode' } :: cs) e a g) (GR b a (.code c :: k) (fr :: cs)) w γ
theorem zLD {fr : Frame} {mode : FrameMode} (h : fr.mode = mode) : { fr with mode := mode } = fr := by subst h; rfl
theorem zRS {c : Code} {Q : zBF} {mode : FrameMode} (h : Code.wpM M none c (fun e a w γ => Q e a mode w γ) a w γ) : Code.wpD M c Q mode a w γ := fun b k fr cs hb _ hm =>
 (h b k (fr :: cs) hb).mono fun g w γ ⟨e, a, h1, h2⟩ => ⟨e, a, mode, h1, by rw [zLD hm]; exact h2⟩
theorem zRU {x y : Code} {Q : zBF} {mode : FrameMode} (h : Code.wpD M x (fun e a mode w γ => match e with | .normal => Code.wpD M y Q mode a w γ | e => Q e a mode w γ) mode a w γ) : Code.wpD M (.seq x y) Q mode a w γ := fun b k fr cs hb hk hm =>
 .step ⟨rfl, fun w₁ hr => ⟨_, w₁, #[], γ, zFV, .refl hr.wf', ((h b (.code y :: k) fr cs hb hk hm).rely (fun _ _ _ _ ⟨e, a, m, h1, h2⟩ hr => ⟨e, a, m, h1.rely hr, h2⟩) hr).bind fun g w γ ⟨e, a, m, h1, h2⟩ => by
  cases e with
  | normal =>
   simp only [Dest] at h2
   subst h2
   exact .of_wf fun hw => h1 w (.refl hw) b k { fr with mode := m } cs hb hk rfl
  | _ => exact .stop ⟨_, a, m, h1, h2.pass rfl (by simp)⟩⟩⟩
def Y1 : FrameMode → Value × FrameMode
 | .panicking ({ v, recovered := false, goexit := false } :: older) => (v, .panicking ({ v, recovered := true } :: older))
 | m => (.nilIface, m)
theorem zRE {b fr : Frame} {cs : List Frame} (hk : b.kind = .deferred) : (match tryRecover b (fr :: cs) with | some (v, cs') => (v, cs') | none => (Value.nilIface, fr :: cs)) = ((Y1 fr.mode).1, { fr with mode := (Y1 fr.mode).2 } :: cs) := by
 unfold tryRecover
 rw [hk]
 obtain ⟨fn, tmps, todo, defers, mode, kind, ro⟩ := fr
 cases mode with
 | run => rfl
 | returning => rfl
 | panicking ch =>
  cases ch with
  | nil => rfl
  | cons e older =>
   obtain ⟨v, r, g⟩ := e
   cases r <;> cases g <;> rfl
theorem zLT {b fr : Frame} {k : List Item} {cs : List Frame} {ops : Array Oper} {i : Nat} {rest : List Nat} {o : Oper} {args : Array Operand} {ts : Array TypeId} {main : Bool} (hb : b.roundOf = none) (hk : b.kind = .deferred) (ho : ops[i]? = some o) (hw : Region.wanted o (yielded ops a.tmps) = true)
  (hop : o.op = .call ⟨.builtin .recover, args, ts⟩) : stepG P main (GR b a (.inRegion ops (i :: rest) :: k) (fr :: cs)) w = .go (GR b (a.put o.dst (Y1 fr.mode).1) (.inRegion ops rest :: k) ({ fr with mode := (Y1 fr.mode).2 } :: cs)) w #[] := by
 rw [zCq (.inl hb) ho hw]
 have hrun : (execOp a.eval o).run P w = .ok .recover w := by simp only [execOp, hop, resolve, Sem.run_bind, Sem.run_pure, Result.andThen_ok, invoke, builtin]
 have hev : (execOp a.eval o).events P w #[] = #[] := by simp only [execOp, hop, resolve, Sem.events_bind, Sem.run_pure, Result.evThen_ok, Sem.events_pure, invoke, builtin]
 have hfin : ∀ (v : Value), (b.atR a (.inRegion ops (i :: rest) :: k)).finish v = b.atR (a.put o.dst v) (.inRegion ops rest :: k) := fun v => by rw [zE6, ho]; rfl
 obtain ⟨es, h1, _, _, _, _, _, h2⟩ := zEO (P := P) (fr := b.atR a (.inRegion ops (i :: rest) :: k)) (cs := fr :: cs) (by simp [Frame.atR]) hrun
 have hes : es = #[] := Array.eq_empty_iff_forall_not_mem.2 fun e he => by have := h1 e he; rw [hev] at this; simp at this
 subst hes
 have hro : (b.atR a (.inRegion ops (i :: rest) :: k)).roundOf = none := hb
 rw [h2 rfl, hro]
 have ht := zRE (b := b.atR a (.inRegion ops (i :: rest) :: k)) (fr := fr) (cs := cs) hk
 simp only
 cases hq : tryRecover (b.atR a (.inRegion ops (i :: rest) :: k)) (fr :: cs) with
 | none =>
  rw [hq] at ht
  simp only [Prod.mk.injEq] at ht
  simp only [hfin]
  rw [← ht.1, ← ht.2]
 | some q =>
  obtain ⟨v, cs'⟩ := q
  rw [hq] at ht
  simp only [Prod.mk.injEq] at ht
  simp only [hfin]
  rw [← ht.1, ← ht.2]
theorem zRT {id : Nat} {ops : Array Oper} {o : Oper} {args : Array Operand} {ts : Array TypeId} {Q : zBF} {mode : FrameMode} {n : Nat} (hn : ops.size = n + 1) (ho : ops[0]? = some o) (hg : o.guard = none) (hop : o.op = .call ⟨.builtin .recover, args, ts⟩)
  (h : Bx (fun w₁ => zUZ M none ops (fun e a w γ => Q e a (Y1 mode).2 w γ) (List.range' 1 n) (a.put o.dst (Y1 mode).1) w₁ γ) γ w) : Code.wpD M (.region id ops false) Q mode a w γ := fun b k fr cs hb hk hm =>
 .quiet rfl (fun _ => zFT) fun w₁ hr => by
  have e : List.range ops.size = 0 :: List.range' 1 n := by rw [hn, List.range_eq_range', List.range'_succ]
  rw [e]
  refine .step ⟨rfl, fun w₂ hr2 => ⟨_, w₂, #[], γ, zLT hb hk ho (by simp [Region.wanted, hg]) hop, .refl hr2.wf', ?_⟩⟩
  rw [hm]
  refine (h w₂ (hr.trans hr2) b k _ hb).mono fun g w γ ⟨e, a, h1, h2⟩ => ⟨e, a, _, h1, ?_⟩
  exact h2
def I6 : FrameMode → FrameMode
 | .panicking ({ recovered := true, .. } :: older) => (match older.dropWhile (!·.goexit) with
  | [] => .returning
  | rest => .panicking rest)
 | m => m
theorem zJ5 {fn : Func} {c : Code} {args : Array Value} {mode : FrameMode} {R : FrameMode → World → Gh → Prop} (hf : P.funcs[f]? = some fn) (hb : fn.body = some c)
    (h : Code.wpD M c (fun e a m w γ => (e = .normal ∨ e = .ret) ∧ zUh M .deferred f (fun e w γ => ∃ v, e = .returned v ∧ R (I6 m) w γ) .returning a w γ) mode { tmps := args ++ Array.replicate (fn.ntmps - args.size) undef, defers := [] } w γ) : zAc M f args mode R w γ := fun fr cs hm => by
  have henter : Frame.enter P f args .deferred = Frame.atR { (default : Frame) with fn := f, kind := .deferred } { tmps := args ++ Array.replicate (fn.ntmps - args.size) undef, defers := [] } [.code c] := by
    simp [Frame.enter, Frame.atR, hf, hb]; rfl
  rw [henter]
  refine (h { (default : Frame) with fn := f, kind := .deferred } [] fr cs rfl rfl hm).bind fun g w γ ⟨e, a, m, h1, h2⟩ => ?_
  have fin : ∀ todo : List Item, Run M (fun g w γ => ∃ mode', Bx (R mode' · γ) γ w ∧ g = Conc.G { fr with mode := mode' } cs) (Conc.G { ({ (default : Frame) with fn := f, kind := .deferred } : Frame).atR a todo with mode := .returning } ({ fr with mode := m } :: cs)) w γ := fun todo =>
    .of_wf fun hw => ((h1 w (.refl hw)).2 _ todo).bind fun g w γ ⟨fr', fn', e1, e2, e3, e4, e5, e6⟩ => by
      subst e1
      rcases e6 with ⟨e7, e8⟩ | ⟨ch, e7, e8⟩
      · refine .step ⟨rfl, fun w₁ hr => ?_⟩
        obtain ⟨v, q1, q2, q3⟩ := e8 w₁ hr
        have hg0 := Guar.refl hr.wf'
        refine ⟨Conc.G { fr with mode := I6 m } cs, w₁, seen P f ((results fn' fr'.tmps).events P w₁ #[]), γ, ?_, ⟨hg0.wf, hg0.tape, hg0.os, hg0.output, hg0.size, hg0.block, hg0.own, hg0.fro, hg0.tok, q2.seen⟩, .stop ⟨I6 m, fun w₂ hr2 => ?_, rfl⟩⟩
        · rw [zHh (by rw [e7]; simp)]
          have hdr : ∀ main, doReturn P main fr' ({ fr with mode := m } :: cs) none v w₁ = .go (Conc.G { fr with mode := I6 m } cs) w₁ #[] := fun main => by
            unfold doReturn
            simp only [e3]
            cases m with
            | run => rfl
            | returning => rfl
            | panicking ch =>
              cases ch with
              | nil => rfl
              | cons e older =>
                obtain ⟨v, r, g⟩ := e
                cases r with
                | false => rfl
                | true =>
                  unfold I6
                  simp only
                  cases hdw : older.dropWhile (!·.goexit) <;> rfl
          subst e2
          simp [unwind, e4, e7, e5, q1, hdr, GStep.after, Conc.G]
        · obtain ⟨_, _, h⟩ := q3 w₂ hr2; exact h
      · exact .of_wf fun hw => by
          obtain ⟨v, h, _⟩ := e8 w (.refl hw)
          cases h
  cases e with
  | normal => simp only [Dest] at h2; subst h2; exact .quiet rfl (fun _ => zFQ rfl) fun w₁ hr => (fin []).rely (fun _ _ _ _ ⟨m, h1, h2⟩ hr => ⟨m, h1.rely hr, h2⟩) hr
  | ret => obtain ⟨k₁, rfl⟩ := h2; exact .quiet rfl (fun _ => zFU rfl) fun w₁ hr => (fin _).rely (fun _ _ _ _ ⟨m, h1, h2⟩ hr => ⟨m, h1.rely hr, h2⟩) hr
  | outgrown => exact h2.elim
  | _ => exact .of_wf fun hw => by rcases (h1 w (.refl hw)).1 with h | h <;> cases h
end
end Go.Abs

namespace Go.Abs
open Go
section
variable {P : Program} {γ : Gh} {n : Nat} {α β : Type}
def zB7 (w : World) (r : Nat) : Prop := ∀ es clock, w.heap[r]? = some (.map es clock) → ∀ e, e ∈ es.toList → FlatV e.key
theorem zQ4 {a b : Value} : zUM P γ n (Instr.keyThatStays a b) := by
 unfold Instr.keyThatStays
 (repeat' (first | exact tame_program.mono (fun _ _ => trivial) | with_reducible exact q8 | with_reducible exact y5 | with_reducible exact v8 | with_reducible exact l8 | with_reducible exact a5 | with_reducible exact p9 | with_reducible exact a6 | with_reducible exact b8 | with_reducible exact Z3 | with_reducible exact o3 | with_reducible exact w9 | with_reducible exact t7 | with_reducible exact j7 | with_reducible exact j3 | with_reducible exact i7 | with_reducible exact i6 | with_reducible exact e9 | with_reducible exact Z1 | with_reducible exact j9 | with_reducible exact l9 | with_reducible exact j0 | with_reducible exact j6 | with_reducible exact i8 | with_reducible exact t8 | with_reducible exact b7 | with_reducible exact Q3 | with_reducible exact Q4 | with_reducible exact Z4 | with_reducible exact Y9 | with_reducible exact j8 ‹_› | with_reducible exact i9 ‹_› | with_reducible exact j1 ‹_› _ _ | refine q7 ?_ fun _ => ?_ | refine b9 ?_ | split | dsimp only | exact q8))
theorem zBP {r : Nat} {f : Obj → Sem α} {w : World} (hw : Keep γ n w) (hr : γ.O r ∨ γ.F r) (h : ∀ o, w.heap[r]? = some o → zUM P γ n (f o)) : ∀ es, EvsOK γ n es → EvsOK γ n ((getObj r >>= f).events P w es) := fun es he => by
 rw [Sem.events_bind]
 have hg := zA8 (P := P) (n := n) hr w hw
 cases hq : (getObj r).run P w with
 | halt x w' => exact hg.1 es he
 | ok o w' =>
  have ho : w.heap[r]? = some o ∧ w' = w := by
   simp only [getObj, Sem.run] at hq
   cases hh : w.heap[r]? with
   | none => rw [hh] at hq; cases hq
   | some o' => rw [hh] at hq; cases o' <;> (simp at hq) <;> (obtain ⟨h1, h2⟩ := hq; subst h1; exact ⟨rfl, h2.symm⟩)
  rw [ho.2]
  exact (h o ho.1 w hw).1 _ (hg.1 es he)
theorem zE1 {s : Sem α} {f : α → Sem β} {w : World} (hw : Keep γ n w) (hs : zUM P γ n s) (hq : ∀ v w', s.run P w = .ok v w' → w' = w) (h : ∀ v es, EvsOK γ n es → EvsOK γ n ((f v).events P w es)) : ∀ es, EvsOK γ n es → EvsOK γ n ((s >>= f).events P w es) := fun es he => by
 rw [Sem.events_bind]
 cases hr : s.run P w with
 | halt x w' => exact (hs w hw).1 es he
 | ok v w' =>
  have := hq v w' hr
  subst this
  exact h v _ ((hs _ hw).1 es he)
theorem zGx {t : TypeId} {w : World} : ∀ v w', (underlying t).run P w = .ok v w' → w' = w := fun v w' h => by
 simp only [underlying, Sem.run_bind, run_program, Result.andThen_ok] at h
 split at h <;> simp [stuck, Sem.run] at h
 exact h.2.symm
theorem E4 {s : Sem α} {w : World} (hw : Keep γ n w) (h : zUM P γ n s) : ∀ es, EvsOK γ n es → EvsOK γ n (s.events P w es) := (h w hw).1
theorem zKN {t : TypeId} {x k : Value} {ok : Bool} {w : World} (hw : Keep γ n w) (hx : ∀ r, x = .map (some r) → (γ.O r ∨ γ.F r) ∧ zB7 w r) (hk : FlatV k) : ∀ es, EvsOK γ n es → EvsOK γ n ((Instr.lookup t x k ok).events P w es) := by
  unfold Instr.lookup
  refine zE1 hw w9 zGx fun u es he => ?_
  cases u <;> try exact E4 hw y5 es he
  rename_i kt et
  dsimp only
  have rest : ∀ es : Array MapEntry, (∀ e, e ∈ es.toList → FlatV e.key) → zUM P γ n (do
      Instr.checkKey es.isEmpty 10000 kt k
      let (v, ok') ← match ← Instr.findKey kt k es.toList with
        | some (_, v) => pure (v, true)
        | none => pure (← zeroValue et, false)
      pure (if ok then .tuple #[v, .bool ok'] else v) : Sem Value) := fun es hes => by
    refine q7 (zB0 _ _ _ _ hk) fun _ => q7 (zHr hk hes) fun r => ?_
    dsimp only
    split <;> (repeat' (first | exact tame_program.mono (fun _ _ => trivial) | with_reducible exact q8 | with_reducible exact y5 | with_reducible exact v8 | with_reducible exact l8 | with_reducible exact a5 | with_reducible exact p9 | with_reducible exact a6 | with_reducible exact b8 | with_reducible exact Z3 | with_reducible exact o3 | with_reducible exact w9 | with_reducible exact t7 | with_reducible exact j7 | with_reducible exact j3 | with_reducible exact i7 | with_reducible exact i6 | with_reducible exact e9 | with_reducible exact Z1 | with_reducible exact j9 | with_reducible exact l9 | with_reducible exact j0 | with_reducible exact j6 | with_reducible exact i8 | with_reducible exact t8 | with_reducible exact b7 | with_reducible exact Q3 | with_reducible exact Q4 | with_reducible exact Z4 | with_reducible exact Y9 | with_reducible exact j8 ‹_› | with_reducible exact i9 ‹_› | with_reducible exact j1 ‹_› _ _ | refine q7 ?_ fun _ => ?_ | refine b9 ?_ | split | dsimp only | exact q8))
  cases x with
  | map m =>
    cases m with
    | none => exact E4 hw (TameV.bind (TameV.pure (p := fun es => es = #[]) rfl) fun es he => by subst he; exact rest #[] (by simp)) es he
    | some r =>
      obtain ⟨h1, h2⟩ := hx r rfl
      refine zBP hw h1 (fun o ho => ?_) es he
      cases o <;> try exact y5
      rename_i es' clock
      exact TameV.bind (TameV.pure (p := fun es => es = es') rfl) fun es he => by subst he; exact rest es (h2 es clock ho)
  | _ => exact E4 hw y5 es he
theorem zKO {t : TypeId} {x k v : Value} {w : World} (hw : Keep γ n w) (hx : ∀ r, x = .map (some r) → γ.O r ∧ zB7 w r) (hk : FlatV k) : ∀ es, EvsOK γ n es → EvsOK γ n ((Instr.mapUpdate t x k v).events P w es) := by
 unfold Instr.mapUpdate
 refine zE1 hw w9 zGx fun u es he => ?_
 cases u <;> try exact E4 hw y5 es he
 rename_i kt et
 dsimp only
 cases x with
 | map m =>
  cases m with
  | none => exact E4 hw t8 es he
  | some r =>
   obtain ⟨h1, h2⟩ := hx r rfl
   refine zBP hw (.inl h1) (fun o ho => ?_) es he
   cases o <;> try exact y5
   rename_i es' clock
   refine q7 (zB0 _ _ _ _ hk) fun _ => q7 (zHr hk (h2 es' clock ho)) fun r => ?_
   split
   ·exact q7 zQ4 fun _ => zD0 h1 rfl
   ·exact zD0 h1 rfl
 | _ => exact E4 hw y5 es he
theorem zKM {r : Nat} {w : World} (hw : Keep γ n w) (hr : γ.O r ∨ γ.F r) (hm : ∀ m a b c, w.heap[r]? = some (.mapIter (some m) a b c) → γ.O m ∨ γ.F m) : ∀ es, EvsOK γ n es → EvsOK γ n ((Instr.entry (.pointer (some ⟨r, 0, none⟩))).events P w es) := by
 unfold Instr.entry
 dsimp only
 refine zBP hw hr fun o ho => ?_
 cases o with
 | mapIter m a b c =>
  cases m with
  | none => exact y5
  | some m =>
   have hg := zA8 (P := P) (n := n) (hm m a b c ho)
   dsimp only
   repeat' (first | exact hg | exact y5 | exact v8 | exact q8 | refine q7 ?_ fun _ => ?_ | split | dsimp only)
 | _ => exact y5
theorem zE2 {r : Nat} {b : Bool} {t : TypeId} {w : World} (hw : Keep γ n w) (hr : γ.O r) (hm : ∀ m a b c, w.heap[r]? = some (.mapIter (some m) a b c) → γ.O m ∨ γ.F m) : ∀ es, EvsOK γ n es → EvsOK γ n ((Instr.next (.pointer (some ⟨r, 0, none⟩)) b t).events P w es) := by
  unfold Instr.next
  dsimp only
  have hs : ∀ o, L2 o = true → zUM P γ n (setObj r o) := fun o ho => zD0 hr ho
  refine zBP hw (.inl hr) fun o ho => ?_
  cases o with
  | mapIter m a c d =>
    cases b with
    | true => cases m <;> exact y5
    | false =>
      cases m with
      | none => exact q8
      | some m =>
        refine q7 (zA8 (hm m a c d ho)) fun o2 => ?_
        cases o2 <;> try exact y5
        rename_i es clock
        have tail : ∀ k : Nat, ∀ cand : Array (Option MapEntry), zUM P γ n (match cand[k]? with
            | some (some e) => do
              setObj r (.mapIter (some m) a (c.push e.born) clock)
              pure (.tuple #[.bool true, e.key, e.val])
            | some none => pure (.tuple #[.bool false])
            | none => stuck "Next: no such candidate" : Sem Value) := fun k cand => by
          split
          · exact q7 (hs _ rfl) fun _ => q8
          · exact q8
          · exact y5
        dsimp only
        split
        · exact q7 v8 fun _ => q7 p9 fun k => tail k _
        · exact q7 p9 fun k => tail k _
  | stringIter s p =>
    cases b with
    | false => exact y5
    | true =>
      dsimp only
      split
      · exact q7 (hs _ rfl) fun _ => q8
      · exact q8
  | _ => cases b <;> exact y5
theorem V6 {t : TypeId} : TameV P γ n (underlying t) (fun u => P.underlying t = some u) := by
 unfold underlying
 refine TameV.bind tame_program fun p hp => ?_
 subst hp
 split
 ·rename_i d hd; exact TameV.pure hd
 ·exact TameV.halt
theorem zHo {t : TypeId} : TameV P γ n (sizeOf t) (fun k => sizeT P t = some k) := by
 unfold sizeOf typeInfo
 refine TameV.bind (p := fun i => P.info? t = some i) (TameV.bind tame_program fun p hp => ?_) fun i hi => TameV.pure ?_
 ·subst hp
  split
  ·rename_i d hd; exact TameV.pure hd
  ·exact TameV.halt
 ·unfold sizeT; rw [hi]; rfl
theorem zQm {s : TypeId} {v : Value} {f u off m : Nat} (hf : w8 P s f = some (u, off)) (hs : sizeT P u = some m) (hm : m ≠ 0) : zUM P γ n (Instr.fieldAt s v f) := by
 unfold Instr.fieldAt
 refine TameV.bind V6 fun d hd => ?_
 cases d <;> try exact y5
 rename_i fields
 dsimp only
 split
 ·rename_i fd hfd
  refine q7 Y9 fun a => q7 ?_ fun _ => q8
  unfold fieldPlace
  refine TameV.bind zHo fun k hk => ?_
  split
  ·rename_i h0
   exfalso
   obtain ⟨fs, x, h1, h2, h3, h4⟩ := zBS hf
   rw [hd] at h1
   cases h1
   rw [hfd] at h2
   cases h2
   rw [h3, hs] at hk
   cases hk
   exact hm h0
  ·exact q8
 ·exact y5
theorem zQf {s d : TypeId} {k k' : IntKind} {a : Int} (h : zVK P d = some k') : zUM P γ n (convert s d (.int k a)) := by
 unfold convert
 refine q7 w9 fun u => TameV.bind V6 fun u' hu' => ?_
 rw [A3 h] at hu'
 cases hu'
 cases u <;> exact q8
theorem zQh {s d : TypeId} {k : IntKind} {a : Int} (h : U0 P d = true) : zUM P γ n (convert s d (.int k a)) := by
 unfold convert
 refine q7 w9 fun u => TameV.bind V6 fun u' hu' => ?_
 rw [P7 h] at hu'
 cases hu'
 cases u <;> exact q8
theorem zQg {s d : TypeId} {b : ByteArray} (h : U0 P d = true) : zUM P γ n (convert s d (.string b)) := by
 unfold convert
 refine q7 w9 fun u => TameV.bind V6 fun u' hu' => ?_
 rw [P7 h] at hu'
 cases hu'
 cases u <;> exact q8
theorem zQx {a : Addr} : zUM P γ n (markStringish a) := by
 unfold markStringish
 (repeat' (first | exact tame_program.mono (fun _ _ => trivial) | with_reducible exact q8 | with_reducible exact y5 | with_reducible exact v8 | with_reducible exact l8 | with_reducible exact a5 | with_reducible exact p9 | with_reducible exact a6 | with_reducible exact b8 | with_reducible exact Z3 | with_reducible exact o3 | with_reducible exact w9 | with_reducible exact t7 | with_reducible exact j7 | with_reducible exact j3 | with_reducible exact i7 | with_reducible exact i6 | with_reducible exact e9 | with_reducible exact Z1 | with_reducible exact j9 | with_reducible exact l9 | with_reducible exact j0 | with_reducible exact j6 | with_reducible exact i8 | with_reducible exact t8 | with_reducible exact b7 | with_reducible exact Q3 | with_reducible exact Q4 | with_reducible exact Z4 | with_reducible exact Y9 | with_reducible exact j8 ‹_› | with_reducible exact i9 ‹_› | with_reducible exact j1 ‹_› _ _ | refine q7 ?_ fun _ => ?_ | refine b9 ?_ | split | dsimp only | exact q8))
theorem zQ6 {e : TypeId} {b : ByteArray} : zUM P γ n (Conv.stringToBytes e b) := by
 unfold Conv.stringToBytes
 have := @zQx P γ n
 repeat' (first | exact this | exact q8 | exact p9 | exact l9 | refine q7 ?_ fun _ => ?_ | dsimp only)
theorem zHu {a : Addr} {k : Nat} (ha : k ≠ 0 → γ.O a.block ∨ γ.F a.block) : TameV P γ n (loadCells a k) (fun new => k = 0 → new = #[]) := by
 by_cases h : k = 0
 ·subst h; exact TameV.pure fun _ => rfl
 ·exact (i9 (ha h)).mono fun _ _ e => (h e).elim
theorem zQc {v : Value} (hv : ∀ a l c, v = .slice (some a) l c → l ≠ 0 → γ.O a.block ∨ γ.F a.block) : zUM P γ n (Conv.bytesToString v) := by
 unfold Conv.bytesToString
 split
 ·exact q8
 ·refine q7 ((zHu (hv _ _ _ rfl)).mono fun _ _ => trivial) fun cs => q7 (zA7 _ _ fun c s => ?_) fun _ => q8
  (repeat' (first | exact tame_program.mono (fun _ _ => trivial) | with_reducible exact q8 | with_reducible exact y5 | with_reducible exact v8 | with_reducible exact l8 | with_reducible exact a5 | with_reducible exact p9 | with_reducible exact a6 | with_reducible exact b8 | with_reducible exact Z3 | with_reducible exact o3 | with_reducible exact w9 | with_reducible exact t7 | with_reducible exact j7 | with_reducible exact j3 | with_reducible exact i7 | with_reducible exact i6 | with_reducible exact e9 | with_reducible exact Z1 | with_reducible exact j9 | with_reducible exact l9 | with_reducible exact j0 | with_reducible exact j6 | with_reducible exact i8 | with_reducible exact t8 | with_reducible exact b7 | with_reducible exact Q3 | with_reducible exact Q4 | with_reducible exact Z4 | with_reducible exact Y9 | with_reducible exact j8 ‹_› | with_reducible exact i9 ‹_› | with_reducible exact j1 ‹_› _ _ | refine q7 ?_ fun _ => ?_ | refine b9 ?_ | split | dsimp only | exact q8))
 ·exact y5
theorem zHs {a b : Nat} {v : Value} (hv : ∀ a l c, v = .slice (some a) l c → b ≠ 0 → γ.O a.block ∨ γ.F a.block) : TameV P γ n (Builtin.firstCells a b v) (fun new => b = 0 → new = #[]) := by
 unfold Builtin.firstCells
 split
 ·refine (zHu fun h => hv _ _ _ rfl fun e => h (by simp [e])).mono fun _ h e => h (by simp [e])
 ·exact TameV.pure fun _ => rfl
 ·refine TameV.pure fun e => ?_
  subst e
  apply Array.eq_empty_of_size_eq_zero
  simp [ByteArray.extract, ByteArray.copySlice]
 ·exact TameV.halt
theorem zQq {v : Value} : TameV P γ n (Builtin.lenOf v) (fun k => ∀ a l c, v = .slice a l c → k = l) := by
 unfold Builtin.lenOf
 split
 ·exact TameV.pure fun a l c e => by cases e; rfl
 ·exact TameV.pure fun a l c e => by cases e
 ·exact TameV.halt
theorem zQy {a b c : Nat} {d : Option Addr} {v : Value} : zUM P γ n (Builtin.mayShare a b c d v) := by
 unfold Builtin.mayShare Builtin.holdsCells
 (repeat' (first | exact tame_program.mono (fun _ _ => trivial) | with_reducible exact q8 | with_reducible exact y5 | with_reducible exact v8 | with_reducible exact l8 | with_reducible exact a5 | with_reducible exact p9 | with_reducible exact a6 | with_reducible exact b8 | with_reducible exact Z3 | with_reducible exact o3 | with_reducible exact w9 | with_reducible exact t7 | with_reducible exact j7 | with_reducible exact j3 | with_reducible exact i7 | with_reducible exact i6 | with_reducible exact e9 | with_reducible exact Z1 | with_reducible exact j9 | with_reducible exact l9 | with_reducible exact j0 | with_reducible exact j6 | with_reducible exact i8 | with_reducible exact t8 | with_reducible exact b7 | with_reducible exact Q3 | with_reducible exact Q4 | with_reducible exact Z4 | with_reducible exact Y9 | with_reducible exact j8 ‹_› | with_reducible exact i9 ‹_› | with_reducible exact j1 ‹_› _ _ | refine q7 ?_ fun _ => ?_ | refine b9 ?_ | split | dsimp only | exact q8))
theorem zQ0 : zUM P γ n (mark .noRoom) := fun w hw => ⟨fun es he e hm => by
 have hm : e ∈ es.push ⟨.mark .noRoom, false, true⟩ := hm
 rcases Array.mem_push.1 hm with h | rfl
 ·exact he e h
 ·exact trivial, fun v w' hr => by cases hr; exact ⟨hw, trivial⟩⟩
theorem zQW {ts : Array TypeId} {t : TypeId} {s x : Value} (hs : ∀ a l c, s = .slice (some a) l c → (l ≠ 0 → γ.O a.block ∨ γ.F a.block) ∧ (c ≠ l → γ.O a.block)) (hx : ∀ a l c, x = .slice (some a) l c → l ≠ 0 → γ.O a.block ∨ γ.F a.block) : zUM P γ n (Builtin.append_ ts t #[s, x]) := by
  unfold Builtin.append_
  have h4 : ∀ a b c d, zUM P γ n (Builtin.mayShare a b c d x) := fun a b c d => zQy
  split
  · rename_i sT s' x' e1
    have e2 : s = s' := by simp at e1; exact e1.2.1
    have e3 : x = x' := by simp at e1; exact e1.2.2
    subst e2; subst e3
    clear e1
    refine q7 w9 fun u => ?_
    cases u <;> try exact y5
    cases s <;> try exact y5
    rename_i elem base sLen sCap
    have h1 : ∀ a, zUM P γ n (Builtin.firstCells a sLen (.slice base sLen sCap)) := fun a => (zHs fun a l c e h => by cases e; exact (hs _ _ _ rfl).1 h).mono fun _ _ => trivial
    refine q7 t7 fun size => ?_
    have core : ∀ (zeros : Bool) (k : Nat) (A : Sem (Array Value)), TameV P γ n A (fun new => k = 0 → new = #[]) → zUM P γ n (
        if sLen + k ≤ sCap then do
          let new ← A
          if let some a := base then storeCells (a.add (sLen * size)) new.toList
          pure (.slice base (sLen + k) sCap)
        else do
          if ((sLen + k : Nat) : Int) > IntKind.i64.max ∧ (zeros ∨ (← typeInfo elem).bytes = 0) then runtimePanic (.error "growslice: len out of range")
          if Builtin.nextslicecap (sLen + k) sCap * (← typeInfo elem).bytes > 2 ^ 48 then (if zeros then runtimePanic (.error "growslice: len out of range") else do
            if !(← Builtin.mayShare size sLen k base x) then mark .noRoom
            unsupported (.resourceLimit "append: a slice or a string whose bytes no memory bears"))
          let newCap ← choose (.appendCap (sLen + k) sCap elem)
          askRoom (newCap * (← typeInfo elem).bytes)
          let old ← Builtin.firstCells size sLen (.slice base sLen sCap)
          let new ← A
          let rest := Builtin.zeroCells (← zeroValue elem).cells (newCap - (sLen + k))
          pure (.slice (some (← newRow elem (old ++ new ++ rest))) (sLen + k) newCap) : Sem Value) := fun zeros k A hA' => by
      have hA : zUM P γ n A := hA'.mono fun _ _ => trivial
      split
      · rename_i hk
        refine TameV.bind hA' fun new hnew => ?_
        cases base with
        | none => exact q8
        | some a =>
          refine q7 ?_ fun _ => q8
          by_cases hc : sCap = sLen
          · rw [hnew (by omega)]
            exact q8
          · exact j1 (by rw [zBI]; exact (hs _ _ _ rfl).2 hc) _ 0
      · have last : zUM P γ n (do
            let newCap ← choose (.appendCap (sLen + k) sCap elem)
            askRoom (newCap * (← typeInfo elem).bytes)
            let old ← Builtin.firstCells size sLen (.slice base sLen sCap)
            let new ← A
            let rest := Builtin.zeroCells (← zeroValue elem).cells (newCap - (sLen + k))
            pure (.slice (some (← newRow elem (old ++ new ++ rest))) (sLen + k) newCap) : Sem Value) :=
          q7 p9 fun _ => q7 o3 fun _ => q7 i8 fun _ => q7 (h1 _) fun _ => q7 hA fun _ => q7 j3 fun _ => q7 l9 fun _ => q8
        have mid : zUM P γ n (do
            if Builtin.nextslicecap (sLen + k) sCap * (← typeInfo elem).bytes > 2 ^ 48 then (if zeros then runtimePanic (.error "growslice: len out of range") else do
              if !(← Builtin.mayShare size sLen k base x) then mark .noRoom
              unsupported (.resourceLimit "append: a slice or a string whose bytes no memory bears"))
            let newCap ← choose (.appendCap (sLen + k) sCap elem)
            askRoom (newCap * (← typeInfo elem).bytes)
            let old ← Builtin.firstCells size sLen (.slice base sLen sCap)
            let new ← A
            let rest := Builtin.zeroCells (← zeroValue elem).cells (newCap - (sLen + k))
            pure (.slice (some (← newRow elem (old ++ new ++ rest))) (sLen + k) newCap) : Sem Value) := by
          refine q7 o3 fun _ => ?_
          dsimp only
          split
          · refine q7 ?_ fun _ => last
            split
            · exact t8
            · refine q7 (h4 _ _ _ _) fun _ => ?_
              split
              · exact q7 zQ0 fun _ => v8
              · exact v8
          · exact last
        refine q7 o3 fun _ => ?_
        dsimp only
        split
        · exact q7 t8 fun _ => mid
        · exact mid
    have hA : ∀ (zeros : Bool) (k : Nat), (zeros = false → ∀ a l c, x = .slice a l c → k = l) → TameV P γ n (if !zeros then Builtin.firstCells size k x else if k * size = 0 then pure #[] else do pure (Builtin.zeroCells (← zeroValue elem).cells k) : Sem (Array Value)) (fun new => k = 0 → new = #[]) := fun zeros k hz => by
      split
      · rename_i h
        have hz := hz (by simpa using h)
        exact zHs fun a l c e hk => hx a l c e (by rw [← hz _ _ _ e]; exact hk)
      · split
        · exact TameV.pure fun _ => rfl
        · rename_i h
          exact TameV.bind j3 fun _ _ => TameV.pure fun e => (h (by simp [e])).elim
    have jp : ∀ (zeros : Bool) (F : Nat → Sem Value), (∀ k, (zeros = false → ∀ a l c, x = .slice a l c → k = l) → zUM P γ n (F k)) → zUM P γ n (if zeros then do
          let l := IntKind.i64.wrap (← asInt x)
          if l < 0 then runtimePanic (.error "makeslice: len out of range")
          if l * (← typeInfo elem).bytes > 2 ^ 48 then
            let made ← choose (.extern "append.ofMake.carriedOut" 2)
            runtimePanic (.error (if made == 1 then "makeslice: len out of range" else "growslice: len out of range"))
          let k ← pure l.toNat
          F k
        else do
          let k ← Builtin.lenOf x
          F k : Sem Value) := fun zeros F hF => by
      split
      · rename_i hz
        have hF : ∀ k, zUM P γ n (F k) := fun k => hF k fun e => by rw [hz] at e; cases e
        refine q7 i6 fun a => ?_
        have hl : zUM P γ n (do
            if IntKind.i64.wrap a * (← typeInfo elem).bytes > 2 ^ 48 then
              let made ← choose (.extern "append.ofMake.carriedOut" 2)
              runtimePanic (.error (if made == 1 then "makeslice: len out of range" else "growslice: len out of range"))
            let k ← pure (IntKind.i64.wrap a).toNat
            F k : Sem Value) := by
          refine q7 o3 fun _ => ?_
          dsimp only
          split
          · exact q7 p9 fun _ => q7 t8 fun _ => q7 q8 fun k => hF k
          · exact q7 q8 fun k => hF k
        dsimp only
        split
        · exact q7 t8 fun _ => hl
        · exact hl
      · exact TameV.bind zQq fun k hk => hF k fun _ => hk
    dsimp only
    split
    · refine q7 w9 fun u => q7 q8 fun zeros => ?_
      exact jp zeros _ fun k hk => core zeros k _ (hA zeros k hk)
    · refine q7 q8 fun zeros => ?_
      exact jp zeros _ fun k hk => core zeros k _ (hA zeros k hk)
  · exact y5
end
end Go.Abs

