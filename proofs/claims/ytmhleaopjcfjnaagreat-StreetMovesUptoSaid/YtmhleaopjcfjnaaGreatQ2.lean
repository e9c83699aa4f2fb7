/-
  WHAT THE PROOF STANDS ON, PART 2: contracts of the program's functions and the logic that they are proved in. No condition.
-/
import Derived.Orders
import Derived.RangeFuncLeaves
import Derived.RangeFuncRecord
import Derived.RangeFuncCalls
import Derived.Test.YtmhleaopjcfjnaaGreatProg
import Derived.KernelRfl
import Derived.Test.YtmhleaopjcfjnaaGreatQ1
set_option linter.unusedVariables false
set_option linter.unusedSimpArgs false
set_option linter.unusedSectionVars false
namespace Go.Abs
open Go
def Fix (F : (Nat → AObj) → Cont → Prop) : Prop := ∀ H K, F H K → ∃ v rd wr, K v rd wr ∧ ∀ H', (∀ o, o ∈ rd → H' o = H o) → ∀ K' : Cont, K' v rd wr → F H' K'
theorem Fix.out (v : AV) (rd : List Nat) (wr : List (Nat × AObj)) : Fix (fun _ K => K v rd wr) := fun _ _ h => ⟨v, rd, wr, h, fun _ _ _ h' => h'⟩
theorem Fix.no : Fix (fun _ _ => False) := fun _ _ h => h.elim
theorem Fix.and {A : Prop} {F : (Nat → AObj) → Cont → Prop} (h : Fix F) : Fix (fun H K => A ∧ F H K) := fun H K ⟨ha, hf⟩ =>
 let ⟨v, rd, wr, h1, h2⟩ := h H K hf
 ⟨v, rd, wr, h1, fun H' hh K' hk => ⟨ha, h2 H' hh K' hk⟩⟩
theorem Fix.ite {c : Prop} [Decidable c] {F G : (Nat → AObj) → Cont → Prop} (hf : Fix F) (hg : Fix G) : Fix (fun H K => if c then F H K else G H K) := fun H K h => by
 by_cases hc : c
 ·simp only [hc, if_true] at h ⊢; exact hf H K h
 ·simp only [hc, if_false] at h ⊢; exact hg H K h
theorem fix_pick (c a b : AV) : Fix (fun _ K => pickA c a b K) := by
 unfold pickA
 split
 ·exact Fix.out _ _ _
 ·exact Fix.no
theorem fix_alloc (P : Program) (t : TypeId) (nx : Nat) : Fix (fun H K => allocA P t H nx K) := by
 intro H K h
 unfold allocA at h ⊢
 cases hz : zeroT P t with
 | none => simp only [hz] at h
 | some z =>
  simp only [hz] at h ⊢
  exact ⟨_, _, _, h.2.2, fun H' hh K' hk => ⟨h.1, by rw [hh nx (by simp)]; exact h.2.1, hk⟩⟩
theorem fix_box (x : AV) (nx : Nat) : Fix (fun H K => boxA x H nx K) := fun H K h =>
 ⟨_, _, _, h.2.2, fun H' hh K' hk => ⟨h.1, by rw [hh nx (by simp)]; exact h.2.1, hk⟩⟩
theorem fix_load (P : Program) (t : TypeId) (x : AV) : Fix (fun H K => loadA P t x H K) := by
 intro H K h
 unfold loadA at h ⊢
 cases x with
 | ptr o off =>
  simp only at h ⊢
  cases hA : H o with
  | box cs =>
   simp only [hA] at h
   cases hg : isAggT P t with
   | none => simp only [hg] at h
   | some ag =>
    cases hs : sizeT P t with
    | none => cases ag <;> simp only [hg, hs] at h
    | some n =>
     cases ag <;> simp only [hg, hs] at h
     ·exact ⟨_, _, _, h.2, fun H' hh K' hk => by simp only [hh o (by simp), hA]; exact ⟨h.1, hk⟩⟩
     ·exact ⟨_, _, _, h.2, fun H' hh K' hk => by simp only [hh o (by simp), hA]; exact ⟨h.1, hk⟩⟩
  | _ => simp only [hA] at h
 | eptr o sz i off =>
  simp only at h ⊢
  cases hA : H o with
  | row sz' xs =>
   simp only [hA] at h
   obtain ⟨h1, h2, h⟩ := h
   cases hg : isAggT P t with
   | none => simp only [hg] at h
   | some ag =>
    cases hs : sizeT P t with
    | none => cases ag <;> simp only [hg, hs] at h
    | some n =>
     cases ag <;> simp only [hg, hs] at h
     ·exact ⟨_, _, _, h.2, fun H' hh K' hk => by simp only [hh o (by simp), hA]; exact ⟨h1, h2, h.1, hk⟩⟩
     ·exact ⟨_, _, _, h.2, fun H' hh K' hk => by simp only [hh o (by simp), hA]; exact ⟨h1, h2, h.1, hk⟩⟩
  | box cs =>
   simp only [hA] at h
   cases hg : isAggT P t with
   | none => simp only [hg] at h
   | some ag =>
    cases hs : sizeT P t with
    | none => cases ag <;> simp only [hg, hs] at h
    | some n =>
     cases ag <;> simp only [hg, hs] at h
     ·exact ⟨_, _, _, h.2, fun H' hh K' hk => by simp only [hh o (by simp), hA]; exact ⟨h.1, hk⟩⟩
     ·exact ⟨_, _, _, h.2, fun H' hh K' hk => by simp only [hh o (by simp), hA]; exact ⟨h.1, hk⟩⟩
  | _ => simp only [hA] at h
 | elt x =>
  simp only at h ⊢
  cases hg : isAggT P t with
  | none => simp only [hg] at h
  | some ag =>
   cases hs : sizeT P t with
   | none => cases ag <;> simp only [hg, hs] at h
   | some n =>
    cases ag <;> simp only [hg, hs] at h
    ·exact ⟨_, _, _, h.2, fun H' hh K' hk => ⟨h.1, hk⟩⟩
    ·exact ⟨_, _, _, h.2, fun H' hh K' hk => ⟨h.1, hk⟩⟩
 | _ => exact h.elim
theorem fix_store (P : Program) (t : TypeId) (a x : AV) : Fix (fun H K => storeA P t a x H K) := by
 intro H K h
 unfold storeA at h ⊢
 cases a with
 | ptr o off =>
  simp only at h ⊢
  cases hA : H o with
  | box cs =>
   simp only [hA] at h
   exact ⟨_, _, _, h.2.2.2, fun H' hh K' hk => by simp only [hh o (by simp), hA]; exact ⟨h.1, h.2.1, h.2.2.1, hk⟩⟩
  | _ => simp only [hA] at h
 | eptr o sz i off =>
  simp only at h ⊢
  cases hA : H o with
  | row sz' xs =>
   simp only [hA] at h
   obtain ⟨h1, h2, h3, h4, h5, h⟩ := h
   by_cases hc : off = 0 ∧ x.cells.length = sz
   ·rw [if_pos hc] at h
    exact ⟨_, _, _, h, fun H' hh K' hk => by simp only [hh o (by simp), hA]; exact ⟨h1, h2, h3, h4, h5, by rw [if_pos hc]; exact hk⟩⟩
   ·rw [if_neg hc] at h
    exact ⟨_, _, _, h.2, fun H' hh K' hk => by simp only [hh o (by simp), hA]; exact ⟨h1, h2, h3, h4, h5, by rw [if_neg hc]; exact ⟨h.1, hk⟩⟩⟩
  | box cs =>
   simp only [hA] at h
   exact ⟨_, _, _, h.2.2.2, fun H' hh K' hk => by simp only [hh o (by simp), hA]; exact ⟨h.1, h.2.1, h.2.2.1, hk⟩⟩
  | _ => simp only [hA] at h
 | _ => exact h.elim
theorem fix_nil (x : AV) : Fix (fun _ K => nilA x K) := by
 unfold nilA
 split <;> first | exact Fix.out _ _ _ | exact Fix.no
theorem fix_int (op : BinOp) (k : IntKind) (a b : Int) : Fix (fun _ K => intA op k a b K) := by
 unfold intA
 split
 case h_10 =>
  split <;> first | exact Fix.out _ _ _ | exact Fix.no
 all_goals first | exact Fix.out _ _ _ | exact Fix.and (Fix.out _ _ _)
theorem fix_str (op : BinOp) (a b : ByteArray) : Fix (fun _ K => strA op a b K) := by
 unfold strA
 split <;> first | exact Fix.out _ _ _ | exact Fix.and (Fix.out _ _ _) | exact Fix.no
theorem fix_bin (P : Program) (op : BinOp) (t : TypeId) (x y : AV) : Fix (fun _ K => binA P op t x y K) := by
 unfold binA
 split
 ·split
  ·exact Fix.and (Fix.out _ _ _)
  ·exact Fix.and (Fix.out _ _ _)
  ·exact Fix.and (fix_int _ _ _ _)
 ·exact fix_str _ _ _
 ·split
  ·split <;> first | exact Fix.out _ _ _ | exact Fix.no
  ·exact Fix.no
 ·unfold aggEqA
  split
  ·split
   ·split <;> first | exact Fix.out _ _ _ | exact Fix.no
   ·exact Fix.no
  ·exact Fix.no
 ·unfold nilCmp
  split
  ·split <;> first | exact Fix.out _ _ _ | exact Fix.no
  ·exact Fix.no
 ·exact Fix.no
theorem fix_un (op : UnOp) (x : AV) : Fix (fun _ K => unA op x K) := by
 unfold unA
 split <;> first | exact Fix.out _ _ _ | exact Fix.no
theorem fix_conv (P : Program) (d : TypeId) (x : AV) : Fix (fun _ K => convA P d x K) := by
 unfold convA
 split <;> first | exact Fix.out _ _ _ | exact Fix.no
theorem fix_fieldAddr (P : Program) (s : TypeId) (x : AV) (f : Nat) : Fix (fun _ K => fieldAddrA P s x f K) := by
 unfold fieldAddrA
 split
 ·split
  ·refine Fix.and ?_
   split
   ·exact Fix.out _ _ _
   ·exact Fix.out _ _ _
   ·exact Fix.and (Fix.ite (Fix.out _ _ _) (Fix.and (Fix.and (Fix.and (Fix.out _ _ _)))))
   ·exact Fix.no
  ·exact Fix.no
 ·exact Fix.no
theorem fix_part (P : Program) (u : TypeId) (cs : List AV) (off : Nat) : Fix (fun _ K => partA P u cs off K) := by
 unfold partA
 split <;> first | exact Fix.out _ _ _ | exact Fix.and (Fix.out _ _ _) | exact Fix.no
theorem fix_field (P : Program) (s : TypeId) (x : AV) (f : Nat) : Fix (fun _ K => fieldA P s x f K) := by
 unfold fieldA
 split
 ·exact fix_part _ _ _ _
 ·exact Fix.no
theorem fix_indexAddr (P : Program) (t : TypeId) (x i : AV) : Fix (fun _ K => indexAddrA P t x i K) := by
 unfold indexAddrA
 split
 ·split
  ·exact Fix.and (Fix.and (Fix.out _ _ _))
  ·exact Fix.and (Fix.and (Fix.out _ _ _))
  ·split
   ·split
    ·exact Fix.and (Fix.out _ _ _)
    ·exact Fix.no
   ·exact Fix.no
  ·exact Fix.no
 ·exact Fix.no
theorem fix_index (P : Program) (t : TypeId) (x i : AV) : Fix (fun _ K => indexA P t x i K) := by
 unfold indexA
 split
 ·exact Fix.and (Fix.and (Fix.out _ _ _))
 ·split
  ·split
   ·exact Fix.and (fix_part _ _ _ _)
   ·exact Fix.no
  ·exact Fix.no
 ·exact Fix.no
theorem fix_slice (P : Program) (t : TypeId) (x : AV) (lo hi mx : Option AV) : Fix (fun _ K => sliceA P t x lo hi mx K) := by
 unfold sliceA
 split
 ·exact Fix.no
 ·split
  ·refine Fix.and ?_
   split
   ·exact Fix.and (Fix.out _ _ _)
   ·exact Fix.no
  ·split
   ·split
    ·exact Fix.and (Fix.and (Fix.out _ _ _))
    ·exact Fix.no
   ·exact Fix.no
  ·split
   ·exact Fix.and (Fix.and (Fix.out _ _ _))
   ·exact Fix.no
  ·exact Fix.no
theorem fix_extract (x : AV) (i : Nat) : Fix (fun _ K => extractA x i K) := by
 unfold extractA
 split
 ·exact Fix.and (Fix.out _ _ _)
 ·exact Fix.no
theorem fix_build (P : Program) (t : TypeId) (ps : List (Nat × AV)) : Fix (fun _ K => buildA P t ps K) := by
 unfold buildA
 split
 ·refine Fix.and (Fix.and (Fix.and ?_))
  split
  ·exact Fix.out _ _ _
  ·exact Fix.no
 ·refine Fix.and (Fix.and ?_)
  split
  ·split
   ·exact Fix.out _ _ _
   ·exact Fix.no
  ·exact Fix.no
 ·exact Fix.no
theorem frzV_congr {H H' : Nat → AObj} : ∀ (n : Nat) (x : AV), Pure (frzV H n x).1 → (∀ o, o ∈ (frzV H n x).2 → H' o = H o) → frzV H' n x = frzV H n x
 | 0, x, _, _ => rfl
 | n + 1, x, hp, hh => by
  have each : ∀ cs : List AV, (∀ c, c ∈ cs → Pure (frzV H n c).1) → (∀ c, c ∈ cs → ∀ o, o ∈ (frzV H n c).2 → H' o = H o) → ∀ c, c ∈ cs → frzV H' n c = frzV H n c := fun cs h1 h2 c hc => frzV_congr n c (h1 c hc) (h2 c hc)
  unfold frzV at hp hh ⊢
  cases x with
  | own o sz off len =>
   simp only at hp hh ⊢
   cases hA : H o with
   | row sz' xs =>
    simp only [hA] at hp hh
    by_cases hc : sz' = sz ∧ off + len ≤ xs.length
    ·rw [if_pos hc] at hp hh
     rw [hh o (by simp), hA]
    ·rw [if_neg hc] at hp; cases hp
   | box cs =>
    simp only [hA] at hp hh
    by_cases hc : sz = 1 ∧ off = 0 ∧ len = cs.length ∧ cs.all (fun c => flatB (frzV H n c).1) = true
    ·rw [if_pos hc] at hp hh
     rw [hh o (by simp), hA]
     simp only
     have hall := hc.2.2.2
     rw [List.all_eq_true] at hall
     have heq := each cs (fun c hm => (flatB_spec (hall c hm)).1) (fun c hm q hq => hh q (by simp; exact .inr ⟨_, ⟨c, hm, rfl⟩, hq⟩))
     have e1 : cs.map (fun c => (frzV H' n c).1) = cs.map (fun c => (frzV H n c).1) := List.map_congr_left (fun c hm => by rw [heq c hm])
     have e2 : cs.map (fun c => (frzV H' n c).2) = cs.map (fun c => (frzV H n c).2) := List.map_congr_left (fun c hm => by rw [heq c hm])
     have e3 : cs.all (fun c => flatB (frzV H' n c).1) = cs.all (fun c => flatB (frzV H n c).1) := by
      rw [Bool.eq_iff_iff, List.all_eq_true, List.all_eq_true]
      exact ⟨fun g c hm => by rw [← heq c hm]; exact g c hm, fun g c hm => by rw [heq c hm]; exact g c hm⟩
     rw [e1, e2, e3]
    ·rw [if_neg hc] at hp; cases hp
   | _ => simp only [hA] at hp; cases hp
  | mp o =>
   simp only at hp hh ⊢
   cases hA : H o with
   | mapo ks xs => simp only [hA] at hh; rw [hh o (by simp), hA]
   | _ => simp only [hA] at hp; cases hp
  | agg cs =>
   simp only at hp hh ⊢
   have hps : ∀ c, c ∈ cs → Pure (frzV H n c).1 := fun c hm => by
    cases hp with
    | agg _ hp => exact hp _ (List.mem_map.2 ⟨c, hm, rfl⟩)
   have heq := each cs hps (fun c hm q hq => hh q (by simp; exact ⟨_, ⟨c, hm, rfl⟩, hq⟩))
   have e1 : cs.map (fun c => (frzV H' n c).1) = cs.map (fun c => (frzV H n c).1) := List.map_congr_left (fun c hm => by rw [heq c hm])
   have e2 : cs.map (fun c => (frzV H' n c).2) = cs.map (fun c => (frzV H n c).2) := List.map_congr_left (fun c hm => by rw [heq c hm])
   rw [e1, e2]
  | raw v =>
   clear hp hh
   cases v with
   | slice a m c => cases a <;> cases m <;> cases c <;> rfl
   | _ => rfl
  | _ => rfl
theorem fix_buildSlice (P : Program) (t : TypeId) (n : Nat) (ps : List (Nat × AV)) (nx : Nat) : Fix (fun H K => buildSliceA P t n ps H nx K) := by
 intro H K h
 unfold buildSliceA at h ⊢
 cases ht : sliceT P t with
 | none => simp only [ht] at h
 | some e =>
  simp only [ht] at h ⊢
  cases hs : sizeT P e with
  | none => simp only [hs] at h
  | some sz =>
   cases hz : zeroT P e with
   | none => simp only [hs, hz] at h
   | some z =>
    simp only [hs, hz] at h ⊢
    obtain ⟨h1, h2, h3, h4, h6, h⟩ := h
    by_cases hr : refZ z = true
    ·rw [if_pos hr] at h
     obtain ⟨g1, g2, h⟩ := h
     exact ⟨_, _, _, h, fun H' hh K' hk => ⟨h1, h2, h3, h4, by rw [hh nx (by simp)]; exact h6, by rw [if_pos hr]; exact ⟨g1, g2, hk⟩⟩⟩
    ·rw [if_neg hr] at h
     obtain ⟨g, h⟩ := h
     refine ⟨_, _, _, h, fun H' hh K' hk => ⟨h1, h2, h3, h4, by rw [hh nx (by simp)]; exact h6, ?_⟩⟩
     rw [if_neg hr]
     have heq : ∀ p, p ∈ ps → frzV H' 3 p.2 = frzV H 3 p.2 := fun p hm => frzV_congr 3 p.2 (g p hm).1 (fun o ho => hh o (by
      rw [List.mem_append]
      exact .inl (List.mem_flatten.2 ⟨_, List.mem_map.2 ⟨p, hm, rfl⟩, ho⟩)))
     have e1 : ps.map (fun p => (frzV H' 3 p.2).2) = ps.map (fun p => (frzV H 3 p.2).2) := List.map_congr_left (fun p hm => by rw [heq p hm])
     have e2 : ps.map (fun p => (frzV H' 3 p.2).1) = ps.map (fun p => (frzV H 3 p.2).1) := List.map_congr_left (fun p hm => by rw [heq p hm])
     rw [e1, e2]
     exact ⟨fun p hm => by rw [heq p hm]; exact g p hm, hk⟩
theorem fix_makeSlice (P : Program) (t : TypeId) (l c : AV) (nx : Nat) : Fix (fun H K => makeSliceA P t l c H nx K) := by
 intro H K h
 unfold makeSliceA at h ⊢
 split at h
 ·rename_i e k n k' m ht
  cases hs : sizeT P e with
  | none => simp only [hs] at h
  | some sz =>
   cases hb : bytesT P e with
   | none => simp only [hs, hb] at h
   | some b =>
    cases hz : zeroT P e with
    | none => simp only [hs, hb, hz] at h
    | some z =>
     simp only [hs, hb, hz] at h
     obtain ⟨h1, h2, h3, h4, h5, h6, h7, h⟩ := h
     by_cases hr : refZ z = true
     ·rw [if_pos hr] at h
      exact ⟨_, _, _, h.2, fun H' hh K' hk => by simp only [ht, hs, hb, hz]; exact ⟨h1, h2, h3, h4, h5, h6, by rw [hh nx (by simp)]; exact h7, by rw [if_pos hr]; exact ⟨h.1, hk⟩⟩⟩
     ·rw [if_neg hr] at h
      exact ⟨_, _, _, h, fun H' hh K' hk => by simp only [ht, hs, hb, hz]; exact ⟨h1, h2, h3, h4, h5, h6, by rw [hh nx (by simp)]; exact h7, by rw [if_neg hr]; exact hk⟩⟩
 ·exact h.elim
theorem readA_congr {H H' : Nat → AObj} {sz : Nat} {x : AV} {ys : List AV} {rd : List Nat} (h : readA H sz x = some (ys, rd)) (hh : ∀ o, o ∈ rd → H' o = H o) : readA H' sz x = some (ys, rd) := by
 unfold readA at h ⊢
 split at h
 ·exact h
 ·rename_i o sz' off len
  cases hA : H o with
  | row s xs =>
   simp only [hA] at h
   split at h
   ·rename_i hc
    simp at h
    rw [hh o (by rw [← h.2]; simp), hA]
    simp only
    rw [if_pos hc, h.1, h.2]
   ·cases h
  | box cs =>
   simp only [hA] at h
   split at h
   ·rename_i hc
    simp only [Option.some.injEq, Prod.mk.injEq] at h
    rw [hh o (by rw [← h.2]; simp), hA]
    simp only
    rw [if_pos hc, h.1, h.2]
   ·cases h
  | _ => simp [hA] at h
 ·exact h
 ·cases h
theorem fix_append (P : Program) (t : TypeId) (s x : AV) (nx : Nat) : Fix (fun H K => appendA P t s x H nx K) := by
 intro H K h
 unfold appendA at h ⊢
 cases ht : sliceT P t with
 | none => simp only [ht] at h
 | some e =>
  simp only [ht] at h ⊢
  cases hs : sizeT P e with
  | none => simp only [hs] at h
  | some sz =>
   cases hb : bytesT P e with
   | none => simp only [hs, hb] at h
   | some b =>
    cases hz : zeroT P e with
    | none => simp only [hs, hb, hz] at h
    | some z =>
     cases hr : readA H ((some sz).getD 0) x with
     | none => simp only [hs, hb, hz, hr] at h
     | some yr =>
      obtain ⟨ys, rd⟩ := yr
      simp only [hs, hb, hz, hr] at h
      obtain ⟨h1, h2, h3, h⟩ := h
      by_cases hz' : refZ z = true
      ·rw [if_pos hz'] at h
       split at h
       ·rename_i o sz' len
        generalize hA : H o = A at h
        cases A with
        | box cs =>
         obtain ⟨g1, g2, g3, g4, g5, g6, g7, g⟩ := h
         refine ⟨_, _, _, g, fun H' hh K' hk => ?_⟩
         have hr' := readA_congr (H' := H') hr (fun o ho => hh o (by simp [ho]))
         simp only [hs, hb, hz, hr', if_pos hz', hh o (by simp), hA]
         exact ⟨h1, h2, h3, g1, g2, g3, g4, by rw [hh nx (by simp)]; exact g5, g6, g7, hk⟩
        | _ => exact h.elim
       ·obtain ⟨g1, g2, g3, g4, g5, g⟩ := h
        refine ⟨_, _, _, g, fun H' hh K' hk => ?_⟩
        have hr' := readA_congr (H' := H') hr (fun o ho => hh o (by simp [ho]))
        simp only [hs, hb, hz, hr', if_pos hz']
        exact ⟨h1, h2, h3, g1, g2, by rw [hh nx (by simp)]; exact g3, g4, g5, hk⟩
       ·exact h.elim
      ·rw [if_neg hz'] at h
       obtain ⟨hpu, h⟩ := h
       split at h
       ·rename_i o sz' len
        generalize hA : H o = A at h
        cases A with
        | row sz'' xs =>
         obtain ⟨g1, g2, g3, g4, g5, g6, g⟩ := h
         refine ⟨_, _, _, g, fun H' hh K' hk => ?_⟩
         have hr' := readA_congr (H' := H') hr (fun o ho => hh o (by simp [ho]))
         simp only [hs, hb, hz, hr', if_neg hz', hh o (by simp), hA]
         exact ⟨h1, h2, h3, hpu, g1, g2, g3, by rw [hh nx (by simp)]; exact g4, g5, g6, hk⟩
        | _ => exact h.elim
       ·obtain ⟨g1, g2, g3, g⟩ := h
        refine ⟨_, _, _, g, fun H' hh K' hk => ?_⟩
        have hr' := readA_congr (H' := H') hr (fun o ho => hh o (by simp [ho]))
        simp only [hs, hb, hz, hr', if_neg hz']
        exact ⟨h1, h2, h3, hpu, by rw [hh nx (by simp)]; exact g1, g2, g3, hk⟩
       ·exact h.elim
theorem fix_builtin (P : Program) (b : Builtin) (ts : Array TypeId) (xs : List AV) (nx : Nat) : Fix (fun H K => builtinA P b ts xs H nx K) := by
 unfold builtinA
 split
 ·refine Fix.and ?_
  split
  ·exact Fix.out _ _ _
  ·exact Fix.no
 ·exact Fix.and (fix_append _ _ _ _ _)
 ·exact Fix.out _ _ _
 ·exact Fix.out _ _ _
 ·exact Fix.no
theorem Xp.congr {H H' : Nat → AObj} {ρ : Nat → Option (Option Nat)} {F : Nat → Prop} (hh : ∀ o, F o → H' o = H o) {x y : AV} (h : Xp H ρ F x y) : Xp H' ρ F x y := by
 induction h with
 | any x => exact .any x
 | same x h => exact .same x h
 | ptr k o off h => exact .ptr k o off h
 | eptr k o sz i off h => exact .eptr k o sz i off h
 | own k o sz off len h => exact .own k o sz off len h
 | mp k o h => exact .mp k o h
 | yld k o h => exact .yld k o h
 | nil k sz h => exact .nil k sz h
 | nill => exact .nill
 | nmapl => exact .nmapl
 | froz o sz off len xs h1 h2 h3 => exact .froz o sz off len xs ((hh o h2).trans h1) h2 h3
 | frozm o ks ks' xs xs' h1 h2 h3 => exact .frozm o ks ks' xs xs' ((hh o h2).trans h1) h2 h3
 | frozb o off len cs xs h1 h2 h3 h4 h5 h6 _ ih => exact .frozb o off len cs xs ((hh o h2).trans h1) h2 h3 h4 h5 h6 ih
 | agg cs ds hl _ ih => exact .agg cs ds hl ih
 | tup cs ds hl _ ih => exact .tup cs ds hl ih
 | fn f cs ds hl _ ih => exact .fn f cs ds hl ih
theorem All2.imp {R S : AV → AV → Prop} (h : ∀ x y, R x y → S x y) {xs ys : List AV} (ha : All2 R xs ys) : All2 S xs ys := by
 induction ha with
 | nil => exact .nil
 | cons h1 _ ih => exact .cons (h _ _ h1) ih
theorem OXp.congr {H H' : Nat → AObj} {ρ : Nat → Option (Option Nat)} {F : Nat → Prop} (hh : ∀ o, F o → H' o = H o) {A B : AObj} (h : OXp H ρ F A B) : OXp H' ρ F A B := by
 cases A <;> cases B <;> first | exact h | exact h.elim | exact ⟨h.1, fun i h1 h2 => (h.2 i h1 h2).congr hh⟩ | exact ⟨h.1, h.2.1, fun t => (h.2.2 t).congr hh⟩
theorem fix_callB (P : Program) (f : FuncId) (avs : List AV) (nx : Nat) : Fix (fun H K => callB P f avs H nx K) := by
 intro H K h
 obtain ⟨ids, ex, args, fp, r, out, hm, hK⟩ := h
 refine ⟨_, _, _, hK, fun H' hh K' hk => ⟨ids, ex, args, fp, r, out, ?_, hk⟩⟩
 have hex : ∀ o, o ∈ ex → H' o = H o := fun o ho => hh o (by simp [ho])
 refine ⟨hm.spec, hm.nodup, hm.apart, hm.args.imp (fun _ _ h => h.congr hex), hm.fpl, fun k hk' => ?_, hm.scal, fun j hj => ?_, hm.unb⟩
 ·obtain ⟨h1, h2⟩ := hm.fps k hk'
  have hid : ids.getD k 0 ∈ ids := by
   have : k < ids.length := by rw [← hm.fpl]; exact hk'
   rw [getD_of_lt this]; exact List.getElem_mem this
  rw [hh _ (by simp only [List.mem_append]; exact .inl (.inl hid))]
  exact ⟨h1, h2.congr hex⟩
 ·rw [hh _ (by simp only [List.mem_append, newIds, List.mem_map, List.mem_range]; exact .inr ⟨j, hj, rfl⟩)]
  exact hm.fresh j hj
theorem fix_call (P : Program) (f : FuncId) (avs : List AV) (nx : Nat) : Fix (fun H K => callA P f avs H nx K) := by
 intro H K h
 obtain ⟨gone, as', hx, h⟩ := h
 obtain ⟨v, rd, wr, hK, hfix⟩ := fix_callB P f as' nx _ _ h
 refine ⟨_, _, _, hK, fun H' hh K' hk => ⟨gone, as', hx.imp (fun _ _ h => h.congr (fun o ho => hh o (by simp [ho]))), hfix _ (fun o ho => ?_) _ hk⟩⟩
 by_cases hg : o ∈ gone
 ·simp only [hg, if_true]
 ·simp only [hg, if_false]; exact hh o (by simp [ho])
theorem fix_makeMap (P : Program) (t : TypeId) (r : Option AV) (nx : Nat) : Fix (fun H K => makeMapA P t r H nx K) := by
 intro H K h
 unfold makeMapA at h ⊢
 split at h
 ·exact ⟨_, _, _, h.2, fun H' hh K' hk => ⟨by rw [hh nx (by simp)]; exact h.1, hk⟩⟩
 ·exact ⟨_, _, _, h.2.2, fun H' hh K' hk => ⟨h.1, by rw [hh nx (by simp)]; exact h.2.1, hk⟩⟩
 ·exact h.elim
theorem fix_mapUpdate (P : Program) (t : TypeId) (m k x : AV) : Fix (fun H K => mapUpdateA P t m k x H K) := by
 intro H K h
 unfold mapUpdateA at h ⊢
 split at h
 ·rename_i kt et o kv hmt hkv
  generalize hA : H o = A at h
  cases A with
  | mapo ks xs =>
   obtain ⟨h1, h2, h3, h4, h5, h⟩ := h
   refine ⟨_, _, _, h, fun H' hh K' hk => ?_⟩
   have he := frzV_congr 3 x h4 (fun q hq => hh q (by simp [hq]))
   simp only [hmt, hkv, hh o (by simp), hA, he]
   exact ⟨h1, h2, h3, h4, h5, hk⟩
  | _ => exact h.elim
 ·exact h.elim
theorem fix_lookup (P : Program) (t : TypeId) (m k : AV) (ok : Bool) : Fix (fun H K => lookupA P t m k ok H K) := by
 intro H K h
 unfold lookupA at h ⊢
 split at h
 ·rename_i kt et kv hmt hkv
  cases hz : zeroT P et with
  | none => simp only [hz] at h
  | some z =>
   simp only [hz] at h
   obtain ⟨h1, h2, h3, h⟩ := h
   split at h
   ·exact ⟨_, _, _, h.2, fun H' hh K' hk => by simp only [hmt, hkv, hz]; exact ⟨h1, h2, h3, h.1, hk⟩⟩
   ·rename_i o
    generalize hA : H o = A at h
    cases A with
    | mapo ks xs => exact ⟨_, _, _, h.2, fun H' hh K' hk => by simp only [hmt, hkv, hz, hh o (by simp), hA]; exact ⟨h1, h2, h3, h.1, hk⟩⟩
    | _ => exact h.elim
   ·exact h.elim
 ·exact h.elim
theorem fix_range (P : Program) (t : TypeId) (x : AV) (nx : Nat) : Fix (fun H K => rangeA P t x H nx K) := by
 intro H K h
 unfold rangeA at h ⊢
 split at h
 ·exact ⟨_, _, _, h.2.2, fun H' hh K' hk => ⟨h.1, by rw [hh nx (by simp)]; exact h.2.1, hk⟩⟩
 ·exact h.elim
theorem fix_entry (x : AV) : Fix (fun H K => entryA x H K) := by
 intro H K h
 unfold entryA at h ⊢
 split at h
 ·rename_i o
  generalize hA : H o = A at h
  cases A with
  | iter cur ks xs =>
   cases cur with
   | none => exact h.elim
   | some p => exact ⟨_, _, _, h, fun H' hh K' hk => by simp only [hh o (by simp), hA]; exact hk⟩
  | _ => exact h.elim
 ·exact h.elim
theorem fix_callee (P : Program) (x : AV) (avs : List AV) (nx : Nat) : Fix (fun H K => calleeA P x avs H nx K) := by
 unfold calleeA
 split
 ·exact Fix.and (Fix.and (Fix.and (fix_call _ _ _ _)))
 ·exact Fix.and (fix_call _ _ _ _)
 ·exact Fix.no
theorem fix_ev (P : Program) (o : Oper) (ev : Operand → AV) (nx : Nat) : Fix (fun H K => evOp P o ev H nx K) := by
 unfold evOp
 split
 ·exact Fix.out _ _ _
 ·exact Fix.out _ _ _
 ·exact fix_pick _ _ _
 ·exact fix_alloc _ _ _
 ·exact fix_box _ _
 ·exact fix_build _ _ _
 ·exact fix_buildSlice _ _ _ _ _
 ·exact fix_load _ _ _
 ·exact fix_store _ _ _ _
 ·exact fix_nil _
 ·exact fix_bin _ _ _ _ _
 ·exact fix_un _ _
 ·exact Fix.and (fix_conv _ _ _)
 ·unfold makeFuncA
  split
  ·exact Fix.and (Fix.out _ _ _)
  ·exact Fix.no
 ·exact fix_makeSlice _ _ _ _ _
 ·exact fix_slice _ _ _ _ _ _
 ·exact fix_fieldAddr _ _ _ _
 ·exact fix_field _ _ _ _
 ·exact fix_indexAddr _ _ _ _
 ·exact fix_index _ _ _ _
 ·exact fix_extract _ _
 ·exact fix_makeMap _ _ _ _
 ·exact fix_mapUpdate _ _ _ _ _
 ·exact fix_mapUpdate _ _ _ _ _
 ·exact fix_lookup _ _ _ _ _
 ·exact fix_range _ _ _ _
 ·exact fix_entry _
 ·unfold callOpA
  split
  ·exact fix_builtin _ _ _ _ _
  ·exact fix_callee _ _ _ _
  ·exact Fix.no
 ·exact Fix.no
theorem evOp_congr {P : Program} {o : Oper} {ev ev' : Operand → AV} {H : Nat → AObj} {nx : Nat} {K : Cont} (h : ∀ x, x ∈ o.op.operands → ev' x = ev x) (he : evOp P o ev H nx K) : evOp P o ev' H nx K := by
 unfold evOp at he ⊢
 cases hop : o.op <;> rw [hop] at he h <;> simp only at he ⊢ <;> try (first | exact he.elim | skip)
 case build t ps =>
  have e : (ps.toList.map fun p => (p.1, ev' p.2)) = ps.toList.map fun p => (p.1, ev p.2) := List.map_congr_left (fun p hp => by rw [h p.2 (by simp [Op.operands]; exact ⟨p.1, by simpa using hp⟩)])
  rw [e]; exact he
 case buildSlice t n ps =>
  have e : (ps.toList.map fun p => (p.1, ev' p.2)) = ps.toList.map fun p => (p.1, ev p.2) := List.map_congr_left (fun p hp => by rw [h p.2 (by simp [Op.operands]; exact ⟨p.1, by simpa using hp⟩)])
  rw [e]; exact he
 case makeFunc fn first cs =>
  have e : cs.toList.map ev' = cs.toList.map ev := List.map_congr_left (fun p hp => h p (by simp [Op.operands]; exact .inr (by simpa using hp)))
  rw [e]; exact he
 case slice t x lo hi mx =>
  have e0 := h x (by simp [Op.operands])
  have e1 : lo.map ev' = lo.map ev := by cases lo with
   | none => rfl
   | some y => simp only [Option.map_some]; rw [h y (by simp [Op.operands])]
  have e2 : hi.map ev' = hi.map ev := by cases hi with
   | none => rfl
   | some y => simp only [Option.map_some]; rw [h y (by simp [Op.operands])]
  have e3 : mx.map ev' = mx.map ev := by cases mx with
   | none => rfl
   | some y => simp only [Option.map_some]; rw [h y (by simp [Op.operands])]
  rw [e0, e1, e2, e3]; exact he
 case makeMap t r =>
  have e1 : r.map ev' = r.map ev := by cases r with
   | none => rfl
   | some y => simp only [Option.map_some]; rw [h y (by simp [Op.operands])]
  rw [e1]; exact he
 case mapUpdate t m k x =>
  rw [h m (by simp [Op.operands]), h k (by simp [Op.operands]), h x (by simp [Op.operands])]; exact he
 case insert t m k x =>
  rw [h m (by simp [Op.operands]), h k (by simp [Op.operands]), h x (by simp [Op.operands])]; exact he
 case lookup t m k ok =>
  rw [h m (by simp [Op.operands]), h k (by simp [Op.operands])]; exact he
 case call c =>
  have e : c.args.toList.map ev' = c.args.toList.map ev := List.map_congr_left (fun p hp => h p (by simp [Op.operands, Go.Call.operands]; exact .inr (by simpa using hp)))
  rw [e]
  obtain ⟨callee, args, ts⟩ := c
  cases callee with
  | value f =>
   have e2 := h f (by simp [Op.operands, Go.Call.operands])
   simp only [callOpA] at he ⊢
   rw [e2]; exact he
  | _ => exact he
 all_goals
  first
  | (rw [h _ (by simp [Op.operands])]; exact he)
  | (rw [h _ (by simp [Op.operands]), h _ (by simp [Op.operands])]; exact he)
  | (rw [h _ (by simp [Op.operands]), h _ (by simp [Op.operands]), h _ (by simp [Op.operands])]; exact he)
  | exact he
  | (simp only [h _ (by simp [Op.operands])]; exact he)
end Go.Abs

namespace Go.Abs
open Go
def nxF : Nat → List (Nat × AObj) → Nat
 | m, [] => m
 | m, (k, _) :: r => nxF (if k < m then m else k + 1) r
def AS.nx (σ : AS) : Nat := nxF 0 σ.objs
def gIf (b want : Bool) (Y N : Prop) : Prop := (b = want → Y) ∧ (b = !want → N)
def guardA (all : List Oper) (σ : AS) (o : Oper) (Y N : Prop) : Prop := match o.guard with
 | none => Y
 | some (j, want) => match (all[j]?).bind (·.dst) with
  | some d => (match σ.get d with
   | .raw (.bool b) => gIf b want Y N
   | .tup [] => N
   | _ => False)
  | none => False
structure Touch where
 rd : List Nat
 wr : List Nat
def ltN (a b : Nat) : Prop := a < b
def runOps (P : Program) (all : List Oper) (K : AS → List Touch → Prop) : List Oper → AS → List Touch → Prop
  | [], σ, ts => K σ ts
  | o :: rest, σ, ts => guardA all σ o
      ((match o.dst with | some d => ltN d σ.n | none => True) ∧
        evOp P o σ.ev σ.obj σ.nx (fun v rd wr => runOps P all K rest ((σ.writes wr).putD o.dst v) (ts ++ [⟨rd, wr.map (·.1)⟩])))
      ((match o.dst with | some d => ltN d σ.n | none => True) ∧ runOps P all K rest (σ.putD o.dst (.tup [])) (ts ++ [⟨[], []⟩]))
section
variable {P : Program} {E : Env}
theorem getD_bool {a : Act} {d : Nat} {b : Bool} (h : a.tmps.getD d undef = .bool b) : a.tmps[d]? = some (.bool b) := by
 by_cases hd : d < a.tmps.size
 ·simp [hd] at h ⊢; exact h
 ·simp [hd, undef] at h
theorem guard_sound {I : Nat → Prop} {loc : Nat → Loc} {σ : AS} {a : Act} {w : World} (hs : SR E I loc σ a w) {all : List Oper} {o : Oper} {Y N : Prop} (h : guardA all σ o Y N) :
    (Region.wanted o (yielded all.toArray a.tmps) = true ∧ Y) ∨ (Region.wanted o (yielded all.toArray a.tmps) = false ∧ N) := by
  unfold guardA at h
  unfold Region.wanted
  cases hg : o.guard with
  | none => rw [hg] at h; exact .inl ⟨rfl, h⟩
  | some jw =>
    obtain ⟨j, want⟩ := jw
    rw [hg] at h
    simp only at h ⊢
    cases hd : (all[j]?).bind (·.dst) with
    | none => simp only [hd] at h
    | some d =>
      simp only [hd] at h
      have hy : ∀ v, a.tmps.getD d undef = v → yielded all.toArray a.tmps j = (match a.tmps[d]? with | some (.bool b) => some b | _ => none) := fun v _ => by
        unfold yielded
        have : (all.toArray[j]?).bind (·.dst) = some d := by simpa using hd
        rw [this]; rfl
      have hv := hs.tmps d
      split at h
      · rename_i b hb
        rw [hb] at hv
        have e := hv.raw_eq
        rw [hy _ e, getD_bool e]
        cases b <;> cases want <;> simp_all [gIf]
      · rename_i hb
        rw [hb] at hv
        have e : a.tmps.getD d undef = undef := by
          generalize a.tmps.getD d undef = u at hv
          cases hv with
          | pure hv => cases hv
          | tup _ vs h1 _ => simp at h1; have : vs = #[] := Array.eq_empty_of_size_eq_zero h1.symm
                             rw [this]; rfl
        right
        refine ⟨?_, h⟩
        rw [hy _ e]
        have : ∀ b, a.tmps[d]? ≠ some (.bool b) := fun b hb' => by
          have : a.tmps.getD d undef = .bool b := by simp only [Array.getD_eq_getD_getElem?, hb', Option.getD_some]
          rw [e] at this; simp [undef] at this
        cases hq : a.tmps[d]? with
        | none => simp
        | some v => cases v <;> simp <;> exact absurd hq (this _)
      · exact h.elim
theorem runOps_sound {all : List Oper} {K : AS → List Touch → Prop} {Q : Exit → Act → World → Prop} (hK : ∀ σ ts a w, K σ ts → St E σ a w → Q .normal a w) :
  ∀ (l : List Oper) (σ : AS) (ts : List Touch) (a : Act) (w : World), runOps P all K l σ ts → St E σ a w → wpList P all.toArray Q l a w
 | [], σ, ts, a, w, h, hs => hK σ ts a w h hs
 | o :: rest, σ, ts, a, w, h, ⟨I, loc, hs⟩ => by
  unfold wpList
  rcases guard_sound hs h with ⟨hw, hd, he⟩ | ⟨hw, hd, hr⟩
  ·rw [if_pos hw]
   refine .inl (evOp_sound hs he (fun d e => by rw [e] at hd; exact hd) (fun v rd wr a' w' hk hst => runOps_sound hK rest _ _ a' w' hk hst))
  ·rw [hw, if_neg (by simp)]
   exact runOps_sound hK rest _ _ _ _ hr ⟨I, loc, hs.putD undef_VR (fun d e => by rw [e] at hd; exact hd)⟩
structure Evt where
 want : Bool
 v : AV
 rd : List Nat
 wr : List (Nat × AObj)
 nx : Nat
def Evt.touch (e : Evt) : Touch := ⟨e.rd, e.wr.map (·.1)⟩
structure Fits (P : Program) (all : List Oper) (o : Oper) (σ : AS) (e : Evt) : Prop where
 guard : match o.guard with
  | none => e.want = true
  | some (j, want) => ∃ d, (all[j]?).bind (·.dst) = some d ∧ ((∃ b, σ.get d = .raw (.bool b) ∧ e.want = (b == want)) ∨ (σ.get d = .tup [] ∧ e.want = false))
 dst : ∀ d, o.dst = some d → d < σ.n
 run : e.want = true → ∀ ev H (K : Cont), (∀ x, x ∈ o.op.operands → ev x = σ.ev x) → (∀ k, k ∈ e.rd → H k = σ.obj k) → K e.v e.rd e.wr → evOp P o ev H e.nx K
 skip : e.want = false → e.v = .tup [] ∧ e.rd = [] ∧ e.wr = []
def Evt.app (e : Evt) (o : Oper) (σ : AS) : AS := (σ.writes e.wr).putD o.dst e.v
inductive Chain (P : Program) (all : List Oper) : List Oper → AS → List Evt → AS → Prop
 | nil (σ : AS) : Chain P all [] σ [] σ
 | cons {o : Oper} {l : List Oper} {σ σ' : AS} {e : Evt} {es : List Evt} : Fits P all o σ e → Chain P all l (e.app o σ) es σ' → Chain P all (o :: l) σ (e :: es) σ'
theorem chain_of_run {all : List Oper} {K : AS → List Touch → Prop} : ∀ (l : List Oper) (σ : AS) (ts : List Touch), runOps P all K l σ ts → ∃ es σ', Chain P all l σ es σ' ∧ K σ' (ts ++ es.map Evt.touch)
  | [], σ, ts, h => ⟨[], σ, .nil σ, by simpa [runOps] using h⟩
  | o :: rest, σ, ts, h => by
    have yes : ((match o.dst with | some d => ltN d σ.n | none => True) ∧ evOp P o σ.ev σ.obj σ.nx (fun v rd wr => runOps P all K rest ((σ.writes wr).putD o.dst v) (ts ++ [⟨rd, wr.map (·.1)⟩]))) →
        (match o.guard with | none => True | some (j, want) => ∃ d, (all[j]?).bind (·.dst) = some d ∧ ∃ b, σ.get d = .raw (.bool b) ∧ true = (b == want)) → ∃ es σ', Chain P all (o :: rest) σ es σ' ∧ K σ' (ts ++ es.map Evt.touch) := by
      rintro ⟨hd, he⟩ hg
      obtain ⟨v, rd, wr, hk, hf⟩ := fix_ev P o σ.ev σ.nx σ.obj _ he
      obtain ⟨es, σ', hc, hK⟩ := chain_of_run rest _ _ hk
      refine ⟨⟨true, v, rd, wr, σ.nx⟩ :: es, σ', .cons ⟨?_, (by intro d e; rw [e] at hd; exact hd), fun _ ev H K hev hH hK => evOp_congr hev (hf H hH K hK), (by intro h; cases h)⟩ hc, by simpa [Evt.touch] using hK⟩
      cases hgo : o.guard with
      | none => rfl
      | some jw =>
        rw [hgo] at hg
        obtain ⟨d, h1, b, h2, h3⟩ := hg
        exact ⟨d, h1, .inl ⟨b, h2, h3⟩⟩
    have no : ((match o.dst with | some d => ltN d σ.n | none => True) ∧ runOps P all K rest (σ.putD o.dst (.tup [])) (ts ++ [⟨[], []⟩])) →
        (match o.guard with | none => False | some (j, want) => ∃ d, (all[j]?).bind (·.dst) = some d ∧ ((∃ b, σ.get d = .raw (.bool b) ∧ false = (b == want)) ∨ σ.get d = .tup [])) → ∃ es σ', Chain P all (o :: rest) σ es σ' ∧ K σ' (ts ++ es.map Evt.touch) := by
      rintro ⟨hd, hr⟩ hg
      obtain ⟨es, σ', hc, hK⟩ := chain_of_run rest _ _ hr
      refine ⟨⟨false, .tup [], [], [], σ.nx⟩ :: es, σ', .cons ⟨?_, (by intro d e; rw [e] at hd; exact hd), (by intro h; cases h), fun _ => ⟨rfl, rfl, rfl⟩⟩ hc, by simpa [Evt.touch] using hK⟩
      cases hgo : o.guard with
      | none => rw [hgo] at hg; exact hg.elim
      | some jw =>
        rw [hgo] at hg
        obtain ⟨d, h1, h2⟩ := hg
        exact ⟨d, h1, h2.imp id (fun h => ⟨h, rfl⟩)⟩
    unfold runOps guardA at h
    cases hg : o.guard with
    | none => rw [hg] at h; exact yes h (by rw [hg]; trivial)
    | some jw =>
      obtain ⟨j, want⟩ := jw
      rw [hg] at h
      simp only at h
      cases hd : (all[j]?).bind (·.dst) with
      | none => simp only [hd] at h
      | some d =>
        simp only [hd] at h
        split at h
        · rename_i b hb
          by_cases hbw : b = want
          · exact yes (h.1 hbw) (by rw [hg]; exact ⟨d, hd, b, hb, by simp [hbw]⟩)
          · have : b = !want := by cases b <;> cases want <;> simp_all
            exact no (h.2 this) (by rw [hg]; exact ⟨d, hd, .inl ⟨b, hb, by simp [hbw]⟩⟩)
        · rename_i hb
          exact no h (by rw [hg]; exact ⟨d, hd, .inr hb⟩)
        · exact h.elim
def stL (L : Nat → Bool) : Nat → List Oper → List Evt → AS → AS
 | k, o :: l, e :: es, σ => stL L (k + 1) l es (if L k then e.app o σ else σ)
 | _, _, _, σ => σ
theorem app_get (e : Evt) (o : Oper) (σ : AS) (t : Nat) : (e.app o σ).get t = if o.dst = some t then e.v else σ.get t := by
 unfold Evt.app AS.putD
 cases hd : o.dst with
 | none => simp [(writes_get e.wr σ).2]
 | some d =>
  simp only [AS.get_put, Option.some.injEq]
  split
  ·rfl
  ·exact (writes_get e.wr σ).2 t
theorem app_n (e : Evt) (o : Oper) (σ : AS) : (e.app o σ).n = σ.n := by
 unfold Evt.app AS.putD
 cases o.dst with
 | none => exact (writes_get e.wr σ).1
 | some d => exact (writes_get e.wr σ).1
theorem writes_key : ∀ (wr : List (Nat × AObj)) (σ σ' : AS) (o : Nat), (o ∈ wr.map (·.1) ∨ σ.obj o = σ'.obj o) → (σ.writes wr).obj o = (σ'.writes wr).obj o
 | [], σ, σ', o, h => by simpa [AS.writes] using h
 | q :: wr, σ, σ', o, h => by
  refine writes_key wr (σ.setO q.1 q.2) (σ'.setO q.1 q.2) o ?_
  by_cases hq : q.1 = o
  ·right; rw [AS.obj_setO, AS.obj_setO, if_pos hq, if_pos hq]
  ·rcases h with h | h
   ·left
    simp only [List.map_cons, List.mem_cons] at h
    exact h.resolve_left (fun e => hq e.symm)
   ·right; rw [AS.obj_setO, AS.obj_setO, if_neg hq, if_neg hq]; exact h
theorem writes_other : ∀ (wr : List (Nat × AObj)) (σ : AS) (o : Nat), o ∉ wr.map (·.1) → (σ.writes wr).obj o = σ.obj o
 | [], _, _, _ => rfl
 | q :: wr, σ, o, h => by
  have h' : q.1 ≠ o ∧ o ∉ wr.map (·.1) := by
   simp only [List.map_cons, List.mem_cons] at h
   exact ⟨fun e => h (.inl e.symm), fun e => h (.inr e)⟩
  have := writes_other wr (σ.setO q.1 q.2) o h'.2
  rw [AS.obj_setO, if_neg h'.1] at this
  exact this
theorem app_obj (e : Evt) (o : Oper) (σ : AS) (k : Nat) : (e.app o σ).obj k = (σ.writes e.wr).obj k := by
 unfold Evt.app AS.putD
 cases o.dst <;> rfl
theorem stL_n (L : Nat → Bool) : ∀ (k : Nat) (l : List Oper) (es : List Evt) (σ : AS), (stL L k l es σ).n = σ.n
 | k, o :: l, e :: es, σ => by
  simp only [stL]
  rw [stL_n L (k + 1) l es]
  split
  ·exact app_n e o σ
  ·rfl
 | _, [], _, _ => rfl
 | _, _ :: _, [], _ => rfl
theorem stL_get_congr {L L' : Nat → Bool} {t : Nat} : ∀ (k : Nat) (l : List Oper) (es : List Evt) (σ σ' : AS), σ.get t = σ'.get t → (∀ i (h : i < l.length), (l[i]).dst = some t → L (k + i) = L' (k + i)) →
    (stL L k l es σ).get t = (stL L' k l es σ').get t
  | k, o :: l, e :: es, σ, σ', h, hL => by
    simp only [stL]
    refine stL_get_congr (k + 1) l es _ _ ?_ (fun i hi hd => by have := hL (i + 1) (by simpa using hi) (by simpa using hd); rwa [Nat.add_assoc, Nat.add_comm 1 i])
    by_cases hd : o.dst = some t
    · have := hL 0 (by simp) (by simpa using hd)
      simp only [Nat.add_zero] at this
      rw [this]
      cases L' k
      · exact h
      · rw [if_pos rfl, if_pos rfl, app_get, app_get, if_pos hd, if_pos hd]
    · have e1 : ∀ (b : Bool) (τ : AS), (if b = true then e.app o τ else τ).get t = τ.get t := fun b τ => by
        cases b
        · rfl
        · rw [if_pos rfl, app_get, if_neg hd]
      rw [e1, e1]; exact h
  | _, [], _, _, _, h, _ => h
  | _, _ :: _, [], _, _, h, _ => h
theorem stL_obj_congr {L L' : Nat → Bool} {q : Nat} : ∀ (k : Nat) (l : List Oper) (es : List Evt) (σ σ' : AS), σ.obj q = σ'.obj q → (∀ i (h : i < es.length), q ∈ (es[i]).wr.map (·.1) → L (k + i) = L' (k + i)) →
    (stL L k l es σ).obj q = (stL L' k l es σ').obj q
  | k, o :: l, e :: es, σ, σ', h, hL => by
    simp only [stL]
    refine stL_obj_congr (k + 1) l es _ _ ?_ (fun i hi hd => by have := hL (i + 1) (by simpa using hi) (by simpa using hd); rwa [Nat.add_assoc, Nat.add_comm 1 i])
    by_cases hd : q ∈ e.wr.map (·.1)
    · have := hL 0 (by simp) (by simpa using hd)
      simp only [Nat.add_zero] at this
      rw [this]
      cases L' k
      · exact h
      · rw [if_pos rfl, if_pos rfl, app_obj, app_obj]; exact writes_key e.wr _ _ q (.inl hd)
    · have e1 : ∀ (b : Bool) (τ : AS), (if b = true then e.app o τ else τ).obj q = τ.obj q := fun b τ => by
        cases b
        · rfl
        · rw [if_pos rfl, app_obj, writes_other _ _ _ hd]
      rw [e1, e1]; exact h
  | _, [], _, _, _, h, _ => h
  | _, _ :: _, [], _, _, h, _ => h
theorem stL_get_last {L : Nat → Bool} {t j : Nat} : ∀ (k : Nat) (l : List Oper) (es : List Evt) (σ : AS) (hj : j < l.length) (hj' : j < es.length), l.length = es.length → (l[j]).dst = some t → L (k + j) = true →
    (∀ i (h : i < l.length), j < i → (l[i]).dst = some t → L (k + i) = false) → (stL L k l es σ).get t = (es[j]).v
  | k, o :: l, e :: es, σ, hj, hj', hlen, hd, hL, hno => by
    simp only [stL]
    cases j with
    | zero =>
      simp only [Nat.add_zero] at hL
      rw [hL, if_pos rfl]
      have : (stL L (k + 1) l es (e.app o σ)).get t = (stL (fun _ => false) (k + 1) l es (e.app o σ)).get t :=
        stL_get_congr (k + 1) l es _ _ rfl (fun i hi hdi => by have := hno (i + 1) (by simpa using hi) (by omega) (by simpa using hdi); rwa [Nat.add_assoc, Nat.add_comm 1 i])
      rw [this]
      have hnone : ∀ (k : Nat) (l : List Oper) (es : List Evt) (τ : AS), (stL (fun _ => false) k l es τ) = τ := fun k l => by
        induction l generalizing k with
        | nil => exact fun es τ => by cases es <;> rfl
        | cons o l ih => exact fun es τ => by
                           cases es with
                           | nil => rfl
                           | cons e es => simp only [stL]; exact ih _ _ _
      rw [hnone, app_get, if_pos (by simpa using hd)]; rfl
    | succ j =>
      have := stL_get_last (j := j) (t := t) (L := L) (k + 1) l es (if L k then e.app o σ else σ) (by simpa using hj) (by simpa using hj') (by simpa using hlen) (by simpa using hd) (by rw [Nat.add_assoc, Nat.add_comm 1 j]; exact hL)
        (fun i hi hij hdi => by have := hno (i + 1) (by simpa using hi) (by omega) (by simpa using hdi); rwa [Nat.add_assoc, Nat.add_comm 1 i])
      simpa using this
theorem stL_obj_last {L : Nat → Bool} {q j : Nat} : ∀ (k : Nat) (l : List Oper) (es : List Evt) (σ τ : AS) (hj : j < es.length), l.length = es.length → q ∈ (es[j]).wr.map (·.1) → L (k + j) = true →
    (∀ i (h : i < es.length), j < i → q ∈ (es[i]).wr.map (·.1) → L (k + i) = false) → (stL L k l es σ).obj q = (τ.writes (es[j]).wr).obj q
  | k, o :: l, e :: es, σ, τ, hj, hlen, hd, hL, hno => by
    simp only [stL]
    cases j with
    | zero =>
      simp only [Nat.add_zero] at hL
      rw [hL, if_pos rfl]
      have : (stL L (k + 1) l es (e.app o σ)).obj q = (stL (fun _ => false) (k + 1) l es (e.app o σ)).obj q :=
        stL_obj_congr (k + 1) l es _ _ rfl (fun i hi hdi => by have := hno (i + 1) (by simpa using hi) (by omega) (by simpa using hdi); rwa [Nat.add_assoc, Nat.add_comm 1 i])
      rw [this]
      have hnone : ∀ (k : Nat) (l : List Oper) (es : List Evt) (τ : AS), (stL (fun _ => false) k l es τ) = τ := fun k l => by
        induction l generalizing k with
        | nil => exact fun es τ => by cases es <;> rfl
        | cons o l ih => exact fun es τ => by
                           cases es with
                           | nil => rfl
                           | cons e es => simp only [stL]; exact ih _ _ _
      rw [hnone, app_obj]
      exact writes_key _ _ _ _ (.inl (by simpa using hd))
    | succ j =>
      have := stL_obj_last (j := j) (q := q) (L := L) (k + 1) l es (if L k then e.app o σ else σ) τ (by simpa using hj) (by simpa using hlen) (by simpa using hd) (by rw [Nat.add_assoc, Nat.add_comm 1 j]; exact hL)
        (fun i hi hij hdi => by have := hno (i + 1) (by simpa using hi) (by omega) (by simpa using hdi); rwa [Nat.add_assoc, Nat.add_comm 1 i])
      simpa using this
  | _, [], e :: es, _, _, _, hlen, _, _, _ => by simp at hlen
  | _, _, [], _, _, hj, _, _, _, _ => by simp at hj
theorem Chain.fits {all : List Oper} : ∀ {l : List Oper} {σ σ' : AS} {es : List Evt} (k : Nat), Chain P all l σ es σ' → l.length = es.length ∧ σ' = stL (fun _ => true) k l es σ ∧
    ∀ j (hj : j < l.length) (hj' : j < es.length), Fits P all (l[j]) (stL (fun i => decide (i < k + j)) k l es σ) (es[j])
  | _, _, _, _, k, .nil σ => ⟨rfl, rfl, fun j hj => by simp at hj⟩
  | _, _, _, _, k, .cons (o := o) (l := l) (σ := σ) (e := e) (es := es) hf hc => by
    obtain ⟨h1, h2, h3⟩ := Chain.fits (k + 1) hc
    refine ⟨by simp [h1], by simp only [stL, if_true]; exact h2, fun j hj hj' => ?_⟩
    cases j with
    | zero =>
      have hnone : ∀ (k' : Nat), k ≤ k' → ∀ (l : List Oper) (es : List Evt) (τ : AS), (stL (fun i => decide (i < k + 0)) k' l es τ) = τ := fun k' hk l => by
        induction l generalizing k' with
        | nil => exact fun es τ => by cases es <;> rfl
        | cons o l ih => exact fun es τ => by
                           cases es with
                           | nil => rfl
                           | cons e es => simp only [stL]; rw [if_neg (by simp; omega)]; exact ih _ (by omega) _ _
      simp only [List.getElem_cons_zero]
      rw [hnone k (Nat.le_refl _)]; exact hf
    | succ j =>
      simp only [stL, List.getElem_cons_succ]
      rw [if_pos (by simp)]
      have := h3 j (by simpa using hj) (by simpa using hj')
      have e1 : (fun i => decide (i < k + 1 + j)) = (fun i => decide (i < k + (j + 1))) := by funext i; congr 1; rw [Nat.add_assoc, Nat.add_comm 1 j]
      rw [e1] at this; exact this
def maskOf (acc : List Nat) (o : Oper) : Nat := o.after.toList.foldl (fun s e => if Region.binds .any e = true then s ||| (2 ^ e.on ||| acc.getD e.on 0) else s) 0
def masks : List Oper → List Nat → List Nat
 | [], acc => acc
 | o :: r, acc => masks r (acc ++ [maskOf acc o])
def overlap (a b : List Nat) : Bool := a.any (fun x => b.contains x)
def apartT (ops : Array Oper) (o1 o2 : Oper) (t1 t2 : Touch) : Bool := o1.apart ops o2 && (!overlap t1.wr (t2.rd ++ t2.wr) && !overlap t2.wr t1.rd)
def indepB (ops : List Oper) (ts : List Touch) : Bool :=
 (List.range ops.length).all (fun j => (List.range j).all fun i => ((masks ops []).getD j 0).testBit i || apartT ops.toArray (ops.getD i default) (ops.getD j default) (ts.getD i ⟨[], []⟩) (ts.getD j ⟨[], []⟩))
def edgesB (ops : List Oper) : Bool := (List.range ops.length).all fun j => (ops.getD j default).after.all fun e => !Region.binds .any e || decide (e.on < j)
def Closed (ops : List Oper) (L : Nat → Bool) : Prop := ∀ i (h : i < ops.length), L i = true → ∀ e, e ∈ (ops[i]).after → Region.binds .any e = true → L e.on = true
def Good (ops : List Oper) (acc : List Nat) : Prop := ∀ j (h : j < acc.length) (h' : j < ops.length) (L : Nat → Bool), Closed ops L → (∀ e, e ∈ (ops[j]).after → Region.binds .any e = true → L e.on = true) → ∀ i, (acc[j]).testBit i = true → L i = true
theorem maskOf_bit {acc : List Nat} {o : Oper} {i : Nat} (h : (maskOf acc o).testBit i = true) : ∃ e, e ∈ o.after ∧ Region.binds .any e = true ∧ (i = e.on ∨ (acc.getD e.on 0).testBit i = true) := by
 unfold maskOf at h
 have key : ∀ (l : List Edge) (s : Nat), (l.foldl (fun s e => if Region.binds .any e = true then s ||| (2 ^ e.on ||| acc.getD e.on 0) else s) s).testBit i = true → s.testBit i = true ∨ ∃ e, e ∈ l ∧ Region.binds .any e = true ∧ (i = e.on ∨ (acc.getD e.on 0).testBit i = true) := by
  intro l
  induction l with
  | nil => exact fun s h => .inl h
  | cons e l ih =>
   intro s h
   simp only [List.foldl_cons] at h
   rcases ih _ h with h | ⟨e', h1, h2⟩
   ·by_cases hb : Region.binds .any e = true
    ·rw [if_pos hb, Nat.testBit_or, Nat.testBit_or, Bool.or_eq_true, Bool.or_eq_true] at h
     rcases h with h | h | h
     ·exact .inl h
     ·refine .inr ⟨e, by simp, hb, .inl ?_⟩
      rw [Nat.testBit_two_pow] at h
      exact (of_decide_eq_true h).symm
     ·exact .inr ⟨e, by simp, hb, .inr h⟩
    ·rw [if_neg hb] at h; exact .inl h
   ·exact .inr ⟨e', by simp [h1], h2⟩
 rcases key _ 0 h with h | ⟨e, h1, h2⟩
 ·simp at h
 ·exact ⟨e, by simpa using h1, h2⟩
theorem masks_good (ops : List Oper) : ∀ (l : List Oper) (acc : List Nat), ops.drop acc.length = l → Good ops acc → Good ops (masks l acc) ∧ (masks l acc).length = acc.length + l.length
 | [], acc, _, h => ⟨h, rfl⟩
 | o :: r, acc, hd, h => by
  have hlt : acc.length < ops.length := by
   have := congrArg List.length hd
   simp at this; omega
  have ho : ops[acc.length] = o := by
   have h0 := congrArg (fun l => l[0]?) hd
   simp only [List.getElem?_drop, Nat.add_zero, List.getElem?_cons_zero, List.getElem?_eq_getElem hlt, Option.some.injEq] at h0
   exact h0
  have hg : Good ops (acc ++ [maskOf acc o]) := by
   intro j hj hj' L hL hed i hi
   by_cases hlt' : j < acc.length
   ·rw [List.getElem_append_left hlt'] at hi
    exact h j hlt' hj' L hL hed i hi
   ·have e : j = acc.length := by simp at hj; omega
    subst e
    simp only [List.getElem_append_right (Nat.le_refl _), Nat.sub_self, List.getElem_cons_zero] at hi
    obtain ⟨e, h1, h2, h3⟩ := maskOf_bit hi
    rw [← ho] at h1
    have hLe := hed e h1 h2
    rcases h3 with rfl | h3
    ·exact hLe
    ·by_cases hel : e.on < acc.length
     ·rw [getD_of_lt hel] at h3
      exact h e.on hel (by omega) L hL (fun e' he' hb' => hL e.on (by omega) hLe e' he' hb') i h3
     ·rw [List.getD, List.getElem?_eq_none (by omega)] at h3
      simp at h3
  obtain ⟨g1, g2⟩ := masks_good ops r (acc ++ [maskOf acc o]) (by
   have := congrArg (List.drop 1) hd
   simpa [List.drop_drop] using this) hg
  exact ⟨g1, by rw [masks, g2]; simp; omega⟩
theorem looks_guard {ops : Array Oper} {o : Oper} {j d : Nat} {want : Bool} (hg : o.guard = some (j, want)) (hd : (ops[j]?).bind (·.dst) = some d) : d ∈ o.looksAt ops := by
 unfold Oper.looksAt; rw [hg]; simp [hd]
theorem looks_operand {ops : Array Oper} {o : Oper} {t : Nat} (h : Operand.tmp t ∈ o.op.operands) : t ∈ o.looksAt ops := by
 unfold Oper.looksAt
 simp only [List.mem_append, List.mem_filterMap]
 exact .inl ⟨.tmp t, by simpa using h, rfl⟩
theorem overlap_no {a b : List Nat} (h : overlap a b = false) {x : Nat} (ha : x ∈ a) : x ∉ b := by
 unfold overlap at h
 rw [List.any_eq_false] at h
 have := h x ha
 simpa using this
theorem draw_sound {all : List Oper} {es : List Evt} {σ0 σ1 : AS} (hind : indepB all (es.map Evt.touch) = true) (hed : edgesB all = true) (hc : Chain P all all σ0 es σ1) {Q : Exit → Act → World → Prop} (hQ : ∀ a w, St E σ1 a w → Q .normal a w) :
    ∀ (fuel : Nat) (listed : Array Bool) (a : Act) (w : World), listed.size = all.length → Closed all (fun i => listed.getD i false) → ((List.range all.length).filter fun i => !listed.getD i true).length ≤ fuel →
      St E (stL (fun i => listed.getD i false) 0 all es σ0) a w → wpAny P .any all.toArray Q fuel listed a w := by
  obtain ⟨hlen, hfin, hfits⟩ := hc.fits 0
  have hgood := masks_good all all [] (by simp) (fun j h => by simp at h)
  have hord : ∀ i j (hi : i < all.length) (hj : j < all.length), i < j → ((∀ L, Closed all L → (∀ e, e ∈ (all[j]).after → Region.binds .any e = true → L e.on = true) → L i = true) ∨ apartT all.toArray (all[i]) (all[j]) ((es[i]'(by omega)).touch) ((es[j]'(by omega)).touch) = true) := by
    intro i j hi hj hij
    unfold indepB at hind
    rw [List.all_eq_true] at hind
    have h1 := hind j (by simpa using hj)
    rw [List.all_eq_true] at h1
    have h2 := h1 i (by simpa using hij)
    rw [Bool.or_eq_true] at h2
    rcases h2 with h2 | h2
    · have hjm : j < (masks all []).length := by rw [hgood.2]; simpa using hj
      rw [getD_of_lt hjm] at h2
      exact .inl (fun L hL he => hgood.1 j hjm hj L hL he i h2)
    · rw [getD_of_lt hi, getD_of_lt hj, getD_of_lt (by simpa using (by omega : i < es.length)), getD_of_lt (by simpa using (by omega : j < es.length))] at h2
      simp only [List.getElem_map] at h2
      exact .inr h2
  have hedge : ∀ j (hj : j < all.length) e, e ∈ (all[j]).after → Region.binds .any e = true → e.on < j := by
    intro j hj e he hb
    unfold edgesB at hed
    rw [List.all_eq_true] at hed
    have h1 := hed j (by simpa using hj)
    rw [getD_of_lt hj, Array.all_eq_true_iff_forall_mem] at h1
    have h2 := h1 e he
    rw [hb] at h2
    simpa using h2
  have hdone : ∀ (listed : Array Bool), listed.size = all.length → Region.ready .any all.toArray listed = [] → ∀ i, i < all.length → listed.getD i false = true := by
    intro listed hsz hr i
    induction i using Nat.strongRecOn with
    | _ i ih =>
      intro hi
      by_cases hn : listed.getD i false = true
      · exact hn
      · exfalso
        have hmem : i ∈ Region.ready .any all.toArray listed := by
          rw [mem_ready]
          refine ⟨?_, all[i], by simp [hi], fun e he hb => ih e.on (hedge i hi e he hb) (by have := hedge i hi e he hb; omega)⟩
          have : i < listed.size := by omega
          simp [this] at hn ⊢; exact hn
        rw [hr] at hmem; cases hmem
  have hend : ∀ (listed : Array Bool) a w, listed.size = all.length → Region.ready .any all.toArray listed = [] → St E (stL (fun i => listed.getD i false) 0 all es σ0) a w → Q .normal a w := by
    intro listed a w hsz hr ⟨I, loc, hs⟩
    refine hQ a w ⟨I, loc, hs.congr ?_ (fun t => ?_) (fun o => ?_)⟩
    · rw [hfin, stL_n, stL_n]
    · rw [hfin]
      exact stL_get_congr 0 all es σ0 σ0 rfl (fun i hi _ => by rw [Nat.zero_add, hdone listed hsz hr i hi])
    · rw [hfin]
      exact stL_obj_congr 0 all es σ0 σ0 rfl (fun i hi _ => by rw [Nat.zero_add, hdone listed hsz hr i (by omega)])
  intro fuel
  induction fuel with
  | zero =>
    intro listed a w hsz hcl hun hst
    have hr : Region.ready .any all.toArray listed = [] := by
      have hnil := List.eq_nil_of_length_eq_zero (Nat.le_zero.1 hun)
      cases hrr : Region.ready .any all.toArray listed with
      | nil => rfl
      | cons x xs =>
        exfalso
        have hx : x ∈ Region.ready .any all.toArray listed := by rw [hrr]; simp
        obtain ⟨h0, o, ho, _⟩ := mem_ready.1 hx
        have hxl : x < all.length := by simpa using (Array.getElem?_eq_some_iff.1 ho).1
        have : x ∈ (List.range all.length).filter fun i => !listed.getD i true := List.mem_filter.2 ⟨by simpa using hxl, by rw [h0]; rfl⟩
        rw [hnil] at this; cases this
    exact ⟨hr, hend listed a w hsz hr hst⟩
  | succ fuel ih =>
    intro listed a w hsz hcl hun hst
    refine ⟨fun hr => hend listed a w hsz hr hst, fun j hj => ?_⟩
    obtain ⟨hj0, o, ho, hedg⟩ := mem_ready.1 hj
    have hjl : j < all.length := by simpa using (Array.getElem?_eq_some_iff.1 ho).1
    have hoe : all[j] = o := by simpa [hjl] using ho
    have hje : j < es.length := by omega
    have hjs : j < listed.size := by omega
    have hLj : listed.getD j false = false := by simp [hjs] at hj0 ⊢; exact hj0
    have hedg' : ∀ e, e ∈ (all[j]).after → Region.binds .any e = true → listed.getD e.on false = true := fun e he hb => hedg e (by rw [← hoe]; exact he) hb
    have hfj := hfits j hjl hje
    simp only [Nat.zero_add] at hfj
    -- one that was listed and stands behind j is apart from it
    have hbehind : ∀ i (hi : i < all.length), j < i → listed.getD i false = true → apartT all.toArray (all[j]) (all[i]) ((es[j]).touch) ((es[i]'(by omega)).touch) = true := by
      intro i hi hji hLi
      rcases hord j i hjl hi hji with h | h
      · have := h (fun k => listed.getD k false) hcl (fun e he hb => hcl i hi hLi e he hb)
        rw [hLj] at this; cases this
      · exact h
    have hahead : ∀ i (hi : i < all.length), i < j → listed.getD i false = true ∨ apartT all.toArray (all[i]) (all[j]) ((es[i]'(by omega)).touch) ((es[j]).touch) = true := by
      intro i hi hij
      rcases hord i j hi hjl hij with h | h
      · exact .inl (h (fun k => listed.getD k false) hcl hedg')
      · exact .inr h
    have happ : ∀ {ops : Array Oper} {o1 o2 : Oper} {t1 t2 : Touch}, apartT ops o1 o2 t1 t2 = true → o1.apart ops o2 = true ∧ overlap t1.wr (t2.rd ++ t2.wr) = false ∧ overlap t2.wr t1.rd = false := fun {ops o1 o2 t1 t2} h => by
      unfold apartT at h
      simp only [Bool.and_eq_true, Bool.not_eq_true'] at h
      exact h
    have hreadT : ∀ t, t ∈ (all[j]).looksAt all.toArray → (stL (fun i => listed.getD i false) 0 all es σ0).get t = (stL (fun i => decide (i < j)) 0 all es σ0).get t := by
      intro t ht
      refine stL_get_congr 0 all es σ0 σ0 rfl (fun i hi hd => ?_)
      rw [Nat.zero_add]
      rcases Nat.lt_trichotomy i j with h | h | h
      · simp only [h, decide_true]
        rcases hahead i hi h with h' | h'
        · exact h'
        · exact absurd ht ((Oper.apart_spec (happ h').1).1 t hd)
      · subst h; simp only [Nat.lt_irrefl, decide_false]; exact hLj
      · simp only [show ¬ i < j by omega, decide_false]
        by_cases hLi : listed.getD i false = true
        · exact absurd ht ((Oper.apart_spec (happ (hbehind i hi h hLi)).1).2.2 t hd)
        · simpa using hLi
    have hreadO : ∀ q, q ∈ (es[j]).rd → (stL (fun i => listed.getD i false) 0 all es σ0).obj q = (stL (fun i => decide (i < j)) 0 all es σ0).obj q := by
      intro q hq
      refine stL_obj_congr 0 all es σ0 σ0 rfl (fun i hi hd => ?_)
      rw [Nat.zero_add]
      have hil : i < all.length := by omega
      rcases Nat.lt_trichotomy i j with h | h | h
      · simp only [h, decide_true]
        rcases hahead i hil h with h' | h'
        · exact h'
        · exact absurd (List.mem_append.2 (.inl hq)) (overlap_no (happ h').2.1 hd)
      · subst h; simp only [Nat.lt_irrefl, decide_false]; exact hLj
      · simp only [show ¬ i < j by omega, decide_false]
        by_cases hLi : listed.getD i false = true
        · exact absurd hq (overlap_no (happ (hbehind i hil h hLi)).2.2 hd)
        · simpa using hLi
    obtain ⟨I, loc, hs⟩ := hst
    have hsetL : ∀ i, (listed.setIfInBounds j true).getD i false = if i = j then true else listed.getD i false := fun i => by
      by_cases e : i = j
      · subst e; simp [hjs]
      · rw [if_neg e, getD_set_ne false (fun h => e h.symm)]
    have hnext : ∀ a' w', St E ((es[j]).app o (stL (fun i => listed.getD i false) 0 all es σ0)) a' w' → wpAny P .any all.toArray Q fuel (listed.setIfInBounds j true) a' w' := by
      intro a' w' ⟨I', loc', hs'⟩
      refine ih _ a' w' (by simpa using hsz) ?_ ?_ ⟨I', loc', hs'.congr ?_ (fun t => ?_) (fun q => ?_)⟩
      · intro i hi hLi e he hb
        have hLi : (listed.setIfInBounds j true).getD i false = true := hLi
        show (listed.setIfInBounds j true).getD e.on false = true
        rw [hsetL] at hLi
        rw [hsetL]
        split
        · rfl
        · by_cases e1 : i = j
          · subst e1; exact hedg' e he hb
          · rw [if_neg e1] at hLi; exact hcl i hi hLi e he hb
      · have hlt : ((List.range all.length).filter fun i => !(listed.setIfInBounds j true).getD i true).length < ((List.range all.length).filter fun i => !listed.getD i true).length := by
          have hsub : ((List.range all.length).filter fun i => !(listed.setIfInBounds j true).getD i true) = ((List.range all.length).filter fun i => !listed.getD i true).filter (fun i => decide (i ≠ j)) := by
            rw [List.filter_filter]
            apply List.filter_congr
            intro i _
            by_cases e : i = j
            · subst e; simp [hjs]
            · rw [getD_set_ne true (fun h => e h.symm)]; simp [e]
          rw [hsub]
          have hmem : j ∈ (List.range all.length).filter fun i => !listed.getD i true := List.mem_filter.2 ⟨by simpa using hjl, by rw [hj0]; rfl⟩
          refine Nat.lt_of_le_of_ne (List.length_filter_le _ _) (fun e => ?_)
          have := (List.length_filter_eq_length_iff.1 e) j hmem
          simp at this
        omega
      · rw [app_n, stL_n, stL_n]
      · rw [app_get]
        by_cases hd : o.dst = some t
        · rw [if_pos hd]
          refine stL_get_last 0 all es σ0 hjl hje hlen (by rw [hoe]; exact hd) (by rw [Nat.zero_add, hsetL, if_pos rfl]) (fun i hi hji hdi => ?_)
          rw [Nat.zero_add, hsetL, if_neg (by omega)]
          by_cases hLi : listed.getD i false = true
          · have hap := Oper.apart_spec (happ (hbehind i hi hji hLi)).1
            exact absurd hdi (hap.2.1 t (by rw [hoe]; exact hd))
          · simpa using hLi
        · rw [if_neg hd]
          refine stL_get_congr 0 all es σ0 σ0 rfl (fun i hi hdi => ?_)
          rw [Nat.zero_add, hsetL, if_neg]
          intro e; subst e; rw [hoe] at hdi; exact hd hdi
      · rw [app_obj]
        by_cases hq : q ∈ (es[j]).wr.map (·.1)
        · refine (stL_obj_last 0 all es σ0 (stL (fun i => listed.getD i false) 0 all es σ0) hje hlen hq (by rw [Nat.zero_add, hsetL, if_pos rfl]) (fun i hi hji hdi => ?_))
          rw [Nat.zero_add, hsetL, if_neg (by omega)]
          by_cases hLi : listed.getD i false = true
          · exact absurd (List.mem_append.2 (.inr hdi)) (overlap_no (happ (hbehind i (by omega) hji hLi)).2.1 hq)
          · simpa using hLi
        · rw [writes_other _ _ _ hq]
          refine stL_obj_congr 0 all es σ0 σ0 rfl (fun i hi hdi => ?_)
          rw [Nat.zero_add, hsetL, if_neg]
          intro e; subst e; exact hq hdi
    unfold wpOp
    rw [ho]
    simp only
    have hguard : guardA all (stL (fun i => listed.getD i false) 0 all es σ0) o ((es[j]).want = true) ((es[j]).want = false) := by
      have hg := hfj.guard
      rw [hoe] at hg
      unfold guardA
      cases hgo : o.guard with
      | none => rw [hgo] at hg; exact hg
      | some jw =>
        obtain ⟨j', want⟩ := jw
        rw [hgo] at hg
        obtain ⟨d, h1, h2⟩ := hg
        simp only [h1]
        have hlk : d ∈ (all[j]).looksAt all.toArray := by
          rw [hoe]
          exact looks_guard hgo (by simpa using h1)
        rw [hreadT d hlk]
        rcases h2 with ⟨b, h2, h3⟩ | ⟨h2, h3⟩
        · rw [h2]; simp only
          exact ⟨fun e => by rw [h3, e]; simp, fun e => by rw [h3, e]; cases want <;> rfl⟩
        · rw [h2]; exact h3
    rcases guard_sound hs hguard with ⟨hw, hwant⟩ | ⟨hw, hwant⟩
    · rw [if_pos hw]
      refine .inl (evOp_sound (nx := (es[j]).nx) (K := fun v rd wr => v = (es[j]).v ∧ wr = (es[j]).wr) hs ?_ (fun d hd => ?_) ?_)
      · have := hfj.run hwant (stL (fun i => listed.getD i false) 0 all es σ0).ev (stL (fun i => listed.getD i false) 0 all es σ0).obj (fun v rd wr => v = (es[j]).v ∧ wr = (es[j]).wr) (fun x hx => ?_) hreadO ⟨rfl, rfl⟩
        · rw [hoe] at this; exact this
        · cases x with
          | tmp t => exact hreadT t (looks_operand hx)
          | _ => rfl
      · rw [stL_n]; have := hfj.dst d (by rw [hoe]; exact hd); rw [stL_n] at this; exact this
      · rintro v rd wr a' w' ⟨rfl, rfl⟩ hst
        exact hnext a' w' hst
    · rw [hw, if_neg (by simp)]
      obtain ⟨hv, _, hwr⟩ := hfj.skip hwant
      refine hnext _ _ ⟨I, loc, ?_⟩
      unfold Evt.app
      rw [hv, hwr]
      exact hs.putD undef_VR (fun d hd => by rw [stL_n]; have := hfj.dst d (by rw [hoe]; exact hd); rw [stL_n] at this; exact this)
end
end Go.Abs

namespace Go.Abs
open Go
def structB (P : Program) (t : TypeId) : Bool := match P.underlying t with
 | some (.struct fs) => fs.all (fun f => (sizeT P f.type).isSome)
 | _ => false
def baC (z : Value) (sz : Nat) (ps : List (Nat × AV)) (K : Cont) : Prop := z.cells.all (·.oneCell') = true ∧ (∀ p, p ∈ ps → p.2.sized = true) ∧ (match fillE sz (z.cells.toList.map .raw) ps with
 | some cs => K (.agg cs) [] []
 | none => False)
theorem buildA_array {P : Program} {t n e : TypeId} {z : Value} {sz : Nat} (h : P.underlying t = some (.array n e)) (hz : zeroT P t = some z) (hs : sizeT P e = some sz) (ps : List (Nat × AV)) (K : Cont) : buildA P t ps K = baC z sz ps K := by
 unfold buildA baC
 simp only [h, hz, hs]
 rfl
theorem buildA_struct {P : Program} {t : TypeId} (h : structB P t = true) (ps : List (Nat × AV)) (K : Cont) : buildA P t ps K = (match zeroT P t with
  | some z => z.cells.all (·.oneCell') = true ∧ (∀ p, p ∈ ps → p.2.sized = true) ∧ (match fillA P t (z.cells.toList.map .raw) ps with
   | some cs => K (.agg cs) [] []
   | none => False)
  | none => False) := by
 unfold structB at h
 unfold buildA
 split at h
 ·rename_i fs hf
  simp only [hf]
  have h' : ∀ f, f ∈ fs → (sizeT P f.type).isSome = true := fun f hf' => by
   obtain ⟨i, hi, rfl⟩ := Array.mem_iff_getElem.1 hf'
   exact (Array.all_eq_true.1 h) i hi
  cases zeroT P t with
  | none => rfl
  | some z =>
   simp only [eq_iff_iff]
   constructor
   ·rintro ⟨h1, h2, h3, h4⟩; exact ⟨h1, h3, h4⟩
   ·rintro ⟨h1, h3, h4⟩; exact ⟨h1, h', h3, h4⟩
 ·cases h
def lift (E : Env) (Q : Exit → AS → Prop) : Exit → Act → World → Prop := fun e a w => ∃ σ, Q e σ ∧ St E σ a w
def Hold (P : Program) (E : Env) (c : Code) (Q : Exit → AS → Prop) (σ : AS) : Prop := ∀ a w, St E σ a w → c.wp P (lift E Q) a w
def thenA (next : AS → Prop) (Q : Exit → AS → Prop) : Exit → AS → Prop
 | .normal, σ => next σ
 | e, σ => Q e σ
def inBlockA (id : Nat) (Q : Exit → AS → Prop) : Exit → AS → Prop
 | .exit j, σ => if j = id then Q .normal σ else Q (.exit j) σ
 | e, σ => Q e σ
section
variable {P : Program} {E : Env} {Q : Exit → AS → Prop} {σ : AS}
theorem Hold.mono {c : Code} {Q' : Exit → AS → Prop} (h : Hold P E c Q σ) (hq : ∀ e σ, Q e σ → Q' e σ) : Hold P E c Q' σ :=
 fun a w hs => wp_mono (h a w hs) (fun e _ _ ⟨σ', h1, h2⟩ => ⟨σ', hq e σ' h1, h2⟩)
theorem hold_seq {x y : Code} (h : Hold P E x (thenA (Hold P E y Q) Q) σ) : Hold P E (.seq x y) Q σ := fun a w hs =>
 wp_seq (wp_mono (h a w hs) (fun e a w ⟨σ', h1, h2⟩ => by
  cases e with
  | normal => exact h1 a w h2
  | _ => exact ⟨σ', h1, h2⟩))
theorem hold_skip (h : Q .normal σ) : Hold P E .skip Q σ := fun _ _ hs => wp_skip ⟨σ, h, hs⟩
theorem hold_label {l : Nat} (h : Q .normal σ) : Hold P E (.label l) Q σ := fun _ _ hs => wp_label ⟨σ, h, hs⟩
theorem hold_exit {id : Nat} (h : Q (.exit id) σ) : Hold P E (.exit id) Q σ := fun _ _ hs => wp_exit ⟨σ, h, hs⟩
theorem hold_ret (h : Q .ret σ) : Hold P E .ret Q σ := fun _ _ hs => wp_ret ⟨σ, h, hs⟩
theorem hold_block {id : Nat} {c : Code} (h : Hold P E c (inBlockA id Q) σ) : Hold P E (.block id c) Q σ := fun a w hs =>
 wp_block (wp_mono (h a w hs) (fun e a w ⟨σ', h1, h2⟩ => by
  cases e with
  | exit j =>
   simp only [inBlockA] at h1
   simp only [Exit.inBlock]
   split
   ·rename_i hj; rw [if_pos hj] at h1; exact ⟨σ', h1, h2⟩
   ·rename_i hj; rw [if_neg hj] at h1; exact ⟨σ', h1, h2⟩
  | _ => exact ⟨σ', h1, h2⟩))
theorem hold_cond {c : Operand} {x y : Code} {b : Bool} (hc : σ.ev c = .raw (.bool b)) (ht : b = true → Hold P E x Q σ) (hf : b = false → Hold P E y Q σ) : Hold P E (.cond c x y) Q σ := fun a w hs => by
 obtain ⟨I, loc, hs'⟩ := hs
 have hv := hs'.ev c
 rw [hc] at hv
 exact wp_cond_split hv.raw_eq (fun e => ht e a w ⟨I, loc, hs'⟩) (fun e => hf e a w ⟨I, loc, hs'⟩)
theorem hold_region {id : Nat} {ops : List Oper} (h : runOps P ops (fun σ' _ => Q .normal σ') ops σ []) : Hold P E (.region id ops.toArray false) Q σ := fun a w hs =>
 wp_region_list (runOps_sound (fun σ' _ a' w' h1 h2 => ⟨σ', h1, h2⟩) ops σ [] a w h hs)
theorem hold_draw {id : Nat} {ops : List Oper} (hm : P.follows .mixedOrders = true) (he : edgesB ops = true) (h : runOps P ops (fun σ' ts => indepB ops ts = true ∧ Q .normal σ') ops σ []) : Hold P E (.region id ops.toArray true) Q σ := fun a w hs => by
  obtain ⟨es, σ', hc, hi, hq⟩ := chain_of_run ops σ [] h
  refine wp_region_any hm ?_
  have hcl : Closed ops (fun i => (Array.replicate ops.toArray.size false).getD i false) := fun i _ hL => by
    exfalso
    have h2 : (Array.replicate ops.toArray.size false).getD i false = true := hL
    by_cases hi : i < ops.length <;> simp [hi] at h2
  have hst : St E (stL (fun i => (Array.replicate ops.toArray.size false).getD i false) 0 ops es σ) a { w with drawn := w.drawn + 1 } := by
    obtain ⟨I, loc, hs⟩ := hs
    have hs2 := hs.heap (w' := { w with drawn := w.drawn + 1 }) rfl rfl rfl rfl
    have hno : ∀ (k : Nat) (l : List Oper) (es : List Evt) (τ : AS), stL (fun i => (Array.replicate ops.toArray.size false).getD i false) k l es τ = τ := fun k l => by
      induction l generalizing k with
      | nil => exact fun es τ => by cases es <;> rfl
      | cons o l ih => exact fun es τ => by
                         cases es with
                         | nil => rfl
                         | cons e es =>
                           simp only [stL]
                           rw [if_neg]
                           · exact ih _ _ _
                           · by_cases hk : k < ops.length <;> simp [hk]
    rw [hno]; exact ⟨I, loc, hs2⟩
  have := draw_sound (by simpa using hi) he hc (Q := lift E Q) (fun a w h => ⟨σ', hq, h⟩) ops.length (Array.replicate ops.toArray.size false) a { w with drawn := w.drawn + 1 } (by simp) hcl (Nat.le_trans (List.length_filter_le _ _) (by simp)) hst
  simpa using this
end
def rhoL (m : List (Option Nat)) : Nat → Option (Option Nat) := fun k => m[k]?
mutual
def XpF (H : Nat → AObj) (m : List (Option Nat)) (ex : List Nat) : AV → AV → Prop
 | .any, _ => True
 | .ptr k off, .ptr o off' => m[k]? = some (some o) ∧ off = off'
 | .eptr k sz i off, .eptr o sz' i' off' => m[k]? = some (some o) ∧ sz = sz' ∧ i = i' ∧ off = off'
 | .own k sz off len, .own o sz' off' len' => m[k]? = some (some o) ∧ sz = sz' ∧ off = off' ∧ len = len'
 | .own k _ off len, .raw v => m[k]? = some none ∧ off = 0 ∧ len = 0 ∧ v = .slice none 0 0
 | .mp k, .mp o => m[k]? = some (some o)
 | .yld k, .yld o => m[k]? = some (some o)
 | .raw v, .raw v' => v = v'
 | .list xs, .list ys => xs = ys
 | .list xs, .own o sz off len => o ∈ ex ∧ (match H o with
  | .row sz' zs => sz' = sz ∧ off + len ≤ zs.length ∧ xs = (zs.drop off).take len
  | .box cs => sz = 1 ∧ off = 0 ∧ len = cs.length ∧ (∀ x, x ∈ xs → flatB x = true) ∧ (xs = cs ∨ XpL H m ex xs cs)
  | _ => False)
 | .fmap ks xs, .fmap ks' xs' => ks = ks' ∧ xs = xs'
 | .fmap ks xs, .mp o => o ∈ ex ∧ (match H o with
  | .mapo ks' xs' => MPerm ks xs ks' xs'
  | _ => False)
 | .fmap ks xs, .raw v => ks = [] ∧ xs = [] ∧ v = .map none
 | .list xs, .raw v => xs = [] ∧ v = .slice none 0 0
 | .elt x, .elt y => x = y
 | .agg cs, .agg ds => XpL H m ex cs ds
 | .tup cs, .tup ds => XpL H m ex cs ds
 | .fn f cs, .fn g ds => f = g ∧ XpL H m ex cs ds
 | _, _ => False
def XpL (H : Nat → AObj) (m : List (Option Nat)) (ex : List Nat) : List AV → List AV → Prop
 | [], [] => True
 | x :: xs, y :: ys => XpF H m ex x y ∧ XpL H m ex xs ys
 | _, _ => False
end
mutual
theorem XpF.sound {H : Nat → AObj} {m : List (Option Nat)} {ex : List Nat} : ∀ {x y : AV}, XpF H m ex x y → Xp H (rhoL m) (· ∈ ex) x y
 | .any, y, _ => .any y
 | .ptr k off, .ptr o off', h => by simp only [XpF] at h; obtain ⟨h1, rfl⟩ := h; exact .ptr _ _ _ h1
 | .eptr k sz i off, .eptr o sz' i' off', h => by simp only [XpF] at h; obtain ⟨h1, rfl, rfl, rfl⟩ := h; exact .eptr _ _ _ _ _ h1
 | .own k sz off len, .own o sz' off' len', h => by simp only [XpF] at h; obtain ⟨h1, rfl, rfl, rfl⟩ := h; exact .own _ _ _ _ _ h1
 | .own k sz off len, .raw v, h => by simp only [XpF] at h; obtain ⟨h1, rfl, rfl, rfl⟩ := h; exact .nil _ _ h1
 | .mp k, .mp o, h => by simp only [XpF] at h; exact .mp _ _ h
 | .yld k, .yld o, h => by simp only [XpF] at h; exact .yld _ _ h
 | .raw v, .raw v', h => by simp only [XpF] at h; subst h; exact .same _ (.raw _)
 | .list xs, .list ys, h => by simp only [XpF] at h; subst h; exact .same _ (.list _)
 | .list xs, .own o sz off len, h => by
  simp only [XpF] at h
  obtain ⟨h1, h⟩ := h
  generalize hA : H o = A at h
  cases A with
  | row sz' zs => obtain ⟨rfl, h3, rfl⟩ := h; exact .froz _ _ _ _ _ hA h1 h3
  | box cs =>
   obtain ⟨rfl, rfl, rfl, hf, h⟩ := h
   rcases h with rfl | h
   ·exact .frozb o 0 _ xs xs hA h1 (by omega) rfl rfl (fun x hx => flatB_spec (hf x hx)) (fun i hi hi' => .same _ (flatB_spec (hf _ (List.getElem_mem hi))).1)
   ·obtain ⟨h3, h4⟩ := XpL.sound h
    exact .frozb o 0 _ cs xs hA h1 (by omega) rfl h3 (fun x hx => flatB_spec (hf x hx)) h4
  | _ => exact h.elim
 | .fmap ks xs, .fmap ks' xs', h => by simp only [XpF] at h; obtain ⟨rfl, rfl⟩ := h; exact .same _ (.fmap _ _)
 | .fmap ks xs, .mp o, h => by
  simp only [XpF] at h
  obtain ⟨h1, h⟩ := h
  generalize hA : H o = A at h
  cases A with
  | mapo ks' xs' => exact .frozm o _ _ _ _ hA h1 h
  | _ => exact h.elim
 | .fmap ks xs, .raw v, h => by simp only [XpF] at h; obtain ⟨rfl, rfl, rfl⟩ := h; exact .nmapl
 | .list xs, .raw v, h => by simp only [XpF] at h; obtain ⟨rfl, rfl⟩ := h; exact .nill
 | .elt x, .elt y, h => by simp only [XpF] at h; subst h; exact .same _ (.elt _)
 | .agg cs, .agg ds, h => by simp only [XpF] at h; obtain ⟨h1, h2⟩ := XpL.sound h; exact .agg _ _ h1 h2
 | .tup cs, .tup ds, h => by simp only [XpF] at h; obtain ⟨h1, h2⟩ := XpL.sound h; exact .tup _ _ h1 h2
 | .fn f cs, .fn g ds, h => by simp only [XpF] at h; obtain ⟨rfl, h⟩ := h; obtain ⟨h1, h2⟩ := XpL.sound h; exact .fn _ _ _ h1 h2
theorem XpL.sound {H : Nat → AObj} {m : List (Option Nat)} {ex : List Nat} : ∀ {xs ys : List AV}, XpL H m ex xs ys → xs.length = ys.length ∧ ∀ i (h : i < xs.length) (h' : i < ys.length), Xp H (rhoL m) (· ∈ ex) xs[i] ys[i]
 | [], [], _ => ⟨rfl, fun i h => by simp at h⟩
 | x :: xs, y :: ys, h => by
  simp only [XpL] at h
  obtain ⟨h1, h2⟩ := h
  obtain ⟨h3, h4⟩ := XpL.sound h2
  refine ⟨by simp [h3], fun i hi hi' => ?_⟩
  cases i with
  | zero => exact XpF.sound h1
  | succ i => simp only [List.getElem_cons_succ]; exact h4 i _ _
end
theorem XpL.all2 {H : Nat → AObj} {m : List (Option Nat)} {ex : List Nat} : ∀ {xs ys : List AV}, XpL H m ex xs ys → All2 (Xp H (rhoL m) (· ∈ ex)) xs ys
 | [], [], _ => .nil
 | x :: xs, y :: ys, h => by
  simp only [XpL] at h
  exact .cons (XpF.sound h.1) (XpL.all2 h.2)
theorem XpF.refl {H : Nat → AObj} {m : List (Option Nat)} {ex : List Nat} : ∀ {x : AV}, Pure x → XpF H m ex x x := by
 intro x h
 induction h with
 | any => simp only [XpF]
 | raw v => simp only [XpF]
 | list xs => simp only [XpF]
 | elt x => simp only [XpF]
 | fmap ks xs => simp [XpF]
 | agg cs _ ih =>
  simp only [XpF]
  have : ∀ l : List AV, (∀ c, c ∈ l → XpF H m ex c c) → XpL H m ex l l := fun l => by
   induction l with
   | nil => exact fun _ => by simp only [XpL]
   | cons c l ihl => exact fun h => by simp only [XpL]; exact ⟨h c (by simp), ihl (fun d hd => h d (by simp [hd]))⟩
  exact this cs ih
def envG (H : Nat → AObj) (m : List (Option Nat)) (ex : List Nat) (env' : List (Nat × AV)) : List (Nat × AV) → Prop
 | [] => True
 | (t, x) :: r => XpF H m ex x (lkV env' t) ∧ envG H m ex env' r
theorem envG.sound {H : Nat → AObj} {m : List (Option Nat)} {ex : List Nat} {env' : List (Nat × AV)} : ∀ {env : List (Nat × AV)}, envG H m ex env' env → ∀ t, Xp H (rhoL m) (· ∈ ex) (lkV env t) (lkV env' t)
 | [], _, t => .any _
 | (k, x) :: r, h, t => by
  simp only [lkV]
  split
  ·rename_i e; subst e; exact XpF.sound h.1
  ·exact envG.sound h.2 t
def OXpF (H : Nat → AObj) (m : List (Option Nat)) (ex : List Nat) : AObj → AObj → Prop
 | .dead, _ => True
 | .box cs, .box ds => XpL H m ex cs ds
 | .row s xs, .row s' ys => s = s' ∧ xs = ys
 | .mapo ks xs, .mapo ks' xs' => ks = ks' ∧ xs = xs'
 | .iter c ks xs, .iter c' ks' xs' => c = c' ∧ ks = ks' ∧ xs = xs'
 | .loopo L env p, .loopo L' env' p' => L = L' ∧ p = p' ∧ envG H m ex env' env
 | _, _ => False
theorem OXpF.sound {H : Nat → AObj} {m : List (Option Nat)} {ex : List Nat} {A B : AObj} (h : OXpF H m ex A B) : OXp H (rhoL m) (· ∈ ex) A B := by
 cases A <;> cases B <;> first | exact h | exact h.elim | exact XpL.sound h | exact ⟨h.1, h.2.1, h.2.2.sound⟩
def envF (σ : AS) (m : List (Option Nat)) (ex : List Nat) : List (Nat × AV) → Prop
 | [] => True
 | (t, x) :: r => XpF σ.obj m ex x (σ.get t) ∧ envF σ m ex r
def objsF (σ : AS) (m : List (Option Nat)) (ex : List Nat) : List AObj → List (Option Nat) → Prop
 | [], [] => True
 | A :: r, some o :: r' => OXpF σ.obj m ex A (σ.obj o) ∧ objsF σ m ex r r'
 | A :: r, none :: r' => ((∃ s, 0 < s ∧ A = .row s []) ∨ A = .box []) ∧ objsF σ m ex r r'
 | _, _ => False
theorem envF.sound {σ : AS} {m : List (Option Nat)} {ex : List Nat} : ∀ {env : List (Nat × AV)}, envF σ m ex env → ∀ t, Xp σ.obj (rhoL m) (· ∈ ex) (lkV env t) (σ.get t)
 | [], _, t => .any _
 | (k, x) :: r, h, t => by
  simp only [lkV]
  split
  ·rename_i e; subst e; exact XpF.sound h.1
  ·exact envF.sound h.2 t
theorem objsF.sound {σ : AS} {m0 : List (Option Nat)} {ex : List Nat} : ∀ {As : List AObj} {m : List (Option Nat)}, objsF σ m0 ex As m → As.length = m.length ∧ ∀ k (h : k < As.length) (h' : k < m.length), match m[k] with
  | none => (∃ s, 0 < s ∧ As[k] = .row s []) ∨ As[k] = .box []
  | some o => OXp σ.obj (rhoL m0) (· ∈ ex) As[k] (σ.obj o)
 | [], [], _ => ⟨rfl, fun k h => by simp at h⟩
 | A :: r, some o :: r', h => by
  obtain ⟨h1, h2⟩ := objsF.sound h.2
  refine ⟨by simp [h1], fun k hk hk' => ?_⟩
  cases k with
  | zero => exact OXpF.sound h.1
  | succ k => simp only [List.getElem_cons_succ]; exact h2 k _ _
 | A :: r, none :: r', h => by
  obtain ⟨h1, h2⟩ := objsF.sound h.2
  refine ⟨by simp [h1], fun k hk hk' => ?_⟩
  cases k with
  | zero => exact h.1
  | succ k => simp only [List.getElem_cons_succ]; exact h2 k _ _
def onceB : List (Option Nat) → Bool
 | [] => true
 | none :: r => onceB r
 | some o :: r => !r.contains (some o) && onceB r
theorem onceB_inj : ∀ {m : List (Option Nat)}, onceB m = true → ∀ (k k' o : Nat), m[k]? = some (some o) → m[k']? = some (some o) → k = k'
 | [], _, k, k', o, h, _ => by simp at h
 | x :: r, hb, k, k', o, h, h' => by
  have hr : onceB r = true := by cases x <;> simp_all [onceB]
  have hno : x = some o → (some o) ∉ r := fun e => by subst e; simp [onceB] at hb; exact hb.1
  cases k with
  | zero =>
   cases k' with
   | zero => rfl
   | succ k' => simp at h h'; exact absurd (List.mem_of_getElem? h') (hno h)
  | succ k =>
   cases k' with
   | zero => simp at h h'; exact absurd (List.mem_of_getElem? h) (hno h')
   | succ k' => simp at h h'; rw [onceB_inj hr k k' o h h']
def liveM : List AObj → List (Option Nat) → List (Option Nat)
 | A :: r, x :: m => (if A.live = true then x else none) :: liveM r m
 | _, m => m
theorem liveM_get : ∀ {As : List AObj} {m : List (Option Nat)} {k o : Nat} (h : k < As.length), (As[k]).live = true → m[k]? = some (some o) → (liveM As m)[k]? = some (some o)
 | A :: r, [], k, o, h, hl, e => by simp at e
 | A :: r, x :: m, 0, o, h, hl, e => by
  simp only [List.getElem_cons_zero] at hl
  simp only [liveM, hl, if_true]; simpa using e
 | A :: r, x :: m, k + 1, o, h, hl, e => by
  simp only [List.getElem_cons_succ] at hl
  simp only [liveM, List.getElem?_cons_succ] at e ⊢
  exact liveM_get (by simpa using h) hl e
def Weak (n : Nat) (m : List (Option Nat)) (ex : List Nat) (σ : AS) (N : Nat) (env : List (Nat × AV)) (As : List AObj) : Prop :=
 N = σ.n ∧ envF σ m ex env ∧ objsF σ m ex As m ∧ onceB (liveM As m) = true ∧ ex.all (fun o => !m.contains (some o)) = true ∧ (List.range n).all (fun k => m[k]? == some (some k)) = true
theorem Weak.wk {n : Nat} {m : List (Option Nat)} {ex : List Nat} {σ : AS} {N : Nat} {env : List (Nat × AV)} {As : List AObj} (h : Weak n m ex σ N env As) :
  WK (rhoL m) (· ∈ ex) σ ⟨N, env, numO 0 As⟩ ∧ ∀ k, k < n → rhoL m k = some (some k) := by
 obtain ⟨h0, h1, h2, h3, h4, h5⟩ := h
 obtain ⟨g1, g2⟩ := h2.sound
 have hob : ∀ k, (⟨N, env, numO 0 As⟩ : AS).obj k = As.getD k .unb := fun k => by
  show lkO (numO 0 As) k = _
  rw [lkO_numO]; simp
 have hlv : ∀ k, ((⟨N, env, numO 0 As⟩ : AS).obj k).live = true → ∃ h : k < As.length, (As[k]).live = true := fun k hk => by
  rw [hob] at hk
  rcases Nat.lt_or_ge k As.length with h | h
  ·exact ⟨h, by rwa [getD_of_lt h] at hk⟩
  ·rw [List.getD, List.getElem?_eq_none h] at hk; simp [AObj.live] at hk
 refine ⟨⟨fun o k ho e => ?_, fun t => h1.sound t, fun k => ?_, fun k k' o hl hl' e e' => ?_⟩, fun k hk => ?_⟩
 case refine_3 =>
  obtain ⟨q1, q2⟩ := hlv k hl
  obtain ⟨q1', q2'⟩ := hlv k' hl'
  exact onceB_inj h3 k k' o (liveM_get q1 q2 e) (liveM_get q1' q2' e')
 ·rw [List.all_eq_true] at h4
  have := h4 o ho
  have hm : some o ∈ m := List.mem_of_getElem? e
  simp at this; exact (this hm).elim
 ·rw [hob]
  unfold rhoL
  by_cases hk : k < m.length
  ·have hk' : k < As.length := by omega
   have := g2 k hk' hk
   rw [List.getElem?_eq_getElem hk, getD_of_lt hk']
   cases hmk : m[k] with
   | none => rw [hmk] at this; exact .inr this
   | some o => rw [hmk] at this; exact this
  ·rw [List.getElem?_eq_none (by omega)]
   left
   rw [List.getD, List.getElem?_eq_none (by omega)]; rfl
 ·rw [List.all_eq_true] at h5
  have := h5 k (by simpa using hk)
  unfold rhoL
  simpa using this
theorem hold_weak {P : Program} {E : Env} {c : Code} {Q : Exit → AS → Prop} {σ : AS} (m : List (Option Nat)) (ex : List Nat) {N : Nat} {env : List (Nat × AV)} {As : List AObj} (hw : Weak E.n m ex σ N env As) (h : Hold P E c Q ⟨N, env, numO 0 As⟩) : Hold P E c Q σ :=
 fun a w hs => h a w (hs.wk hw.wk.1 hw.1 hw.wk.2)
theorem hold_loop_weak {P : Program} {E : Env} {c : Code} {Q : Exit → AS → Prop} {σ : AS} (Inv : Nat → Nat → List (Nat × AV) → List AObj → Prop) (n : Nat)
  (h0 : ∃ m ex N env As, Weak E.n m ex σ N env As ∧ Inv n N env As)
  (h : ∀ n N env As, Inv n N env As → Hold P E c (thenA (fun σ' => ∃ n', n' < n ∧ ∃ m ex N env As, Weak E.n m ex σ' N env As ∧ Inv n' N env As) Q) ⟨N, env, numO 0 As⟩) : Hold P E (.loop c) Q σ := by
 obtain ⟨m, ex, N, env, As, hw, hi⟩ := h0
 refine hold_weak m ex hw ?_
 intro a w hs
 refine wp_loop_ghost (fun n a w => ∃ N env As, Inv n N env As ∧ St E ⟨N, env, numO 0 As⟩ a w) n ⟨N, env, As, hi, hs⟩ ?_
 rintro n a w ⟨N, env, As, h1, h2⟩
 refine wp_mono (h n N env As h1 a w h2) ?_
 rintro e a w ⟨σ', h3, h4⟩
 cases e with
 | normal =>
  obtain ⟨n', h5, m', ex', N', env', As', h6, h7⟩ := h3
  exact ⟨n', h5, N', env', As', h7, h4.wk h6.wk.1 h6.1 h6.wk.2⟩
 | _ => exact ⟨σ', h3, h4⟩
def resOne (P : Program) (σ : AS) : ResultVar → AV → Prop
 | .tmp t, x => x = σ.get t
 | .cell a t, x => loadA P t (σ.get a) σ.obj (fun v _ _ => x = v)
def resAll (P : Program) (σ : AS) : List ResultVar → List AV → Prop
 | [], [] => True
 | v :: vs, x :: xs => resOne P σ v x ∧ resAll P σ vs xs
 | _, _ => False
def packR : List AV → AV
 | [x] => x
 | xs => .tup xs
def resRun (tmps : Array Value) : ResultVar → Sem Value
 | .tmp t => pure (tmps.getD t undef)
 | .cell b t => do loadVar t (← asAddr (tmps.getD b undef))
theorem results_eq (fn : Func) (tmps : Array Value) : results fn tmps = (do let vs ← fn.results.mapM (resRun tmps); pure (if h : vs.size = 1 then vs[0] else .tuple vs)) := rfl
theorem resAll_sound {P : Program} {E : Env} {I : Nat → Prop} {loc : Nat → Loc} {σ : AS} {a : Act} {w : World} (hs : SR E I loc σ a w) : ∀ {vs : List ResultVar} {xs : List AV}, resAll P σ vs xs →
  ∃ us : List Value, (vs.mapM (resRun a.tmps)).run P w = .ok us w ∧ xs.length = us.length ∧ ∀ i (h : i < xs.length) (h' : i < us.length), VR w I loc xs[i] us[i]
 | [], [], _ => ⟨[], by simp, rfl, fun i h => by simp at h⟩
 | v :: vs, x :: xs, h => by
  obtain ⟨us, h1, h2, h3⟩ := resAll_sound hs h.2
  have hone : ∃ u, (resRun a.tmps v).run P w = .ok u w ∧ VR w I loc x u := by
   have h0 := h.1
   cases v with
   | tmp t => simp only [resOne] at h0; subst h0; exact ⟨_, rfl, hs.tmps t⟩
   | cell b t =>
    simp only [resOne] at h0
    obtain ⟨v, rd, y, hK, hr, hv⟩ := loadA_sound (P := P) hs (hs.tmps b) h0
    subst hK
    refine ⟨y, ?_, hv⟩
    have hp : ∃ ad, a.tmps.getD b undef = .pointer (some ad) := by
     have hb := hs.tmps b
     generalize a.tmps.getD b undef = u at *
     generalize σ.get b = s at *
     unfold loadA at h0
     cases s with
     | ptr => cases hb with
      | pure hb => cases hb
      | ptr => exact ⟨_, rfl⟩
     | eptr => cases hb with
      | pure hb => cases hb
      | eptr => exact ⟨_, rfl⟩
     | elt => cases hb with
      | pure hb => cases hb; exact ⟨_, rfl⟩
     | _ => exact h0.elim
    obtain ⟨ad, hp⟩ := hp
    rw [hp] at hr
    simp only [resRun, hp]
    simpa [Instr.loadAt, Instr.sureAddr, asAddr] using hr
  obtain ⟨u, g1, g2⟩ := hone
  refine ⟨u :: us, ?_, by simp [h2], fun i hi hi' => ?_⟩
  ·rw [List.mapM_cons, Sem.run_bind, g1, Result.andThen_ok, Sem.run_bind, h1]
   rfl
  ·cases i with
   | zero => exact g2
   | succ i => simp only [List.getElem_cons_succ]; exact h3 i _ _
theorem results_sound {P : Program} {E : Env} {I : Nat → Prop} {loc : Nat → Loc} {σ : AS} {a : Act} {w : World} (hs : SR E I loc σ a w) {fn : Func} {xs : List AV} (h : resAll P σ fn.results.toList xs) :
  ∃ v, (results fn a.tmps).run P w = .ok v w ∧ VR w I loc (packR xs) v := by
 obtain ⟨us, h1, h2, h3⟩ := resAll_sound (P := P) hs h
 have hrun : (results fn a.tmps).run P w = .ok (if h : us.toArray.size = 1 then us.toArray[0] else .tuple us.toArray) w := by
  rw [results_eq, Sem.run_bind]
  have e4 : fn.results = fn.results.toList.toArray := by simp
  rw [e4, List.mapM_toArray]
  simp only [Sem.run_map, h1, Result.andThen_ok, Sem.run_pure]
 refine ⟨_, hrun, ?_⟩
 cases xs with
 | nil =>
  have : us = [] := List.eq_nil_of_length_eq_zero (by simpa using h2.symm)
  subst this
  exact .tup [] #[] rfl (fun i h => by simp at h)
 | cons x xs =>
  cases xs with
  | nil =>
   have hl : us.length = 1 := by simpa using h2.symm
   rw [dif_pos (by simpa using hl)]
   have := h3 0 (by simp) (by omega)
   simpa [packR] using this
  | cons y ys =>
   have hl : us.length ≠ 1 := by simp at h2; omega
   rw [dif_neg (by simpa using hl)]
   refine .tup _ us.toArray (by simpa using h2) (fun i hi hi' => ?_)
   simpa using h3 i hi (by simpa using hi')
def numA : Nat → List AV → List (Nat × AV)
 | _, [] => []
 | k, x :: r => (k, x) :: numA (k + 1) r
theorem lkV_numA (k0 : Nat) : ∀ (xs : List AV) (k : Nat), lkV (numA k0 xs) k = if k < k0 then .any else xs.getD (k - k0) .any
 | [], k => by simp [numA, lkV]
 | A :: r, k => by
  simp only [numA, lkV, lkV_numA (k0 + 1) r k]
  by_cases h : k0 = k
  ·subst h; simp
  ·rw [if_neg h]
   by_cases h1 : k < k0
   ·rw [if_pos (by omega), if_pos h1]
   ·rw [if_neg (by omega), if_neg h1]
    have e : k - k0 = (k - (k0 + 1)) + 1 := by omega
    rw [e]; simp
def RetOK (P : Program) (fn : Func) (n : Nat) (r : AV) (out : List AObj) (σ : AS) : Prop :=
 ∃ xs m ex, resAll P σ fn.results.toList xs ∧ XpF σ.obj m ex r (packR xs) ∧ objsF σ m ex out m ∧ onceB (liveM out m) = true ∧ ex.all (fun o => !m.contains (some o)) = true ∧ (List.range n).all (fun k => m[k]? == some (some k)) = true
theorem heap_putObj {w : World} {r b : Nat} {o : Obj} (h : b ≠ r) : (w.putObj r o).heap[b]? = w.heap[b]? := World.putObj_heap_other h
theorem SR.shut {E : Env} {I : Nat → Prop} {loc : Nat → Loc} {σ : AS} {a : Act} {w : World} (h : SR E I loc σ a w) {d : Deferred} {ds : List Deferred} (hd : a.defers = d :: ds) :
  ∃ r, d.target = .collected r ∧ w.heap[r]? = some (.deferred (some [])) ∧ SR E I loc σ { a with defers := ds } (w.putObj r (.deferred none)) := by
 obtain ⟨hn, hm⟩ := h.defers
 rw [hd] at hn hm
 obtain ⟨r, rfl, h1, h2, h3, h4⟩ := hm d (by simp)
 have hI : ∀ b, I b → (w.putObj r (.deferred none)).heap[b]? = w.heap[b]? := fun b hb => heap_putObj (fun e => h2 (e ▸ hb))
 refine ⟨r, rfl, h1, ⟨⟨?_, fun d' hd' => ?_⟩, h.size, fun t => (h.tmps t).mono hI (fun _ x => x) (fun _ _ => rfl), fun o => (h.objs o).mono hI (fun _ x => x) (fun _ _ => rfl) (fun e => h.un e) (fun hl b c hb => heap_putObj (fun e => h4 o c hl (e ▸ hb))), h.inj, fun b hb => by rw [World.putObj_size]; exact h.imm b hb, h.sep, ?_, h.base, h.top, h.keep⟩⟩
 ·simp only [List.map_cons, List.nodup_cons] at hn; exact hn.2
 ·obtain ⟨r', rfl, g1, g2, g3, g4⟩ := hm d' (by simp [hd'])
  refine ⟨r', rfl, ?_, g2, g3, g4⟩
  rw [heap_putObj]
  ·exact g1
  ·rintro rfl
   simp only [List.map_cons, List.nodup_cons] at hn
   exact hn.1 (List.mem_map.2 ⟨_, hd', rfl⟩)
 ·exact h.fr.of_same rfl rfl rfl (by simp) (fun b hb _ => heap_putObj (by omega))
theorem leaves_of {P : Program} {E : Env} {fn : Func} {n : Nat} {R : Ending → World → Prop} {I : Nat → Prop} {loc : Nat → Loc} {σ : AS} (hR : ∀ a w, SR E I loc σ a w → a.defers = [] → ∃ v, (results fn a.tmps).run P w = .ok v w ∧ R (.returned v) w) :
  ∀ (ds : List Deferred) (a : Act) (w : World), SR E I loc σ a w → a.defers = ds → LeavesInM Fence.wide n P fn a.tmps R ds .returning w
 | [], a, w, h, e => hR a w h e
 | d :: ds, a, w, h, e => by
  obtain ⟨r, h1, h2, h3⟩ := h.shut e
  exact ⟨by simp, .inl ⟨r, _, h1, run_takeDeferred h2, leaves_of hR ds { a with defers := ds } _ h3 rfl⟩⟩
theorem spec_of {P : Program} {f : FuncId} {fn : Func} {c : Code} {args : List AV} {fp : List AObj} {r : AV} {out : List AObj} (hf : P.funcs[f]? = some fn) (hb : fn.body = some c)
  (h : ∀ E : Env, E.n = fp.length → Hold P E c (fun e σ' => (e = .normal ∨ e = .ret) ∧ RetOK P fn fp.length r out σ') ⟨args.length + (fn.ntmps - args.length), numA 0 args, numO 0 fp⟩) : Spec P f args fp r out := by
 intro w I loc vs hs hl hv
 refine (callsIn_wide (n := 0)).1 (callsIn_of_wp_marks hf hb trivial ((wpIn_wide (n := 0)).2 ?_))
 have hst : SR (envOf w I fp.length loc) I loc ⟨args.length + (fn.ntmps - args.length), numA 0 args, numO 0 fp⟩ { tmps := vs ++ Array.replicate (fn.ntmps - vs.size) undef, defers := [] } w := by
  refine ⟨.nil, by simp [hl], fun t => ?_, hs.objs, hs.inj, hs.imm, hs.sep, hs.fr, hs.base, hs.top, hs.keep⟩
  show VR w I loc (lkV (numA 0 args) t) _
  rw [lkV_numA]
  simp only [Nat.not_lt_zero, if_false, Nat.sub_zero]
  by_cases ht : t < args.length
  ·rw [getD_of_lt ht]
   have ht' : t < vs.size := by omega
   have e : (vs ++ Array.replicate (fn.ntmps - vs.size) undef).getD t undef = vs[t] := by
    simp [Array.getElem?_append_left ht', ht']
   rw [e]; exact hv t ht ht'
  ·rw [List.getD, List.getElem?_eq_none (by omega)]; exact .pure (.any _)
 refine wp_mono (h (envOf w I fp.length loc) rfl _ w ⟨I, loc, hst⟩) ?_
 rintro e a w' ⟨σ', ⟨he, xs, m, ex, h1, h2, h3, h4, h5, h6⟩, I', loc', hs'⟩
 have hweak : Weak fp.length m ex σ' σ'.n [] out := ⟨rfl, trivial, h3, h4, h5, h6⟩
 have hlen : fp.length ≤ out.length := by
  have h7 := (h3.sound).1
  rcases Nat.eq_zero_or_pos fp.length with h0 | h0
  ·omega
  ·rw [List.all_eq_true] at h6
   have := h6 (fp.length - 1) (by simp; omega)
   have hm : m[fp.length - 1]? = some (some (fp.length - 1)) := by simpa using this
   have := (List.getElem?_eq_some_iff.1 hm).1
   omega
 have key := leaves_of (P := P) (E := envOf w I fp.length loc) (fn := fn) (n := 0) (R := fun e w' => ∃ v I' loc', e = .returned v ∧ Post w I loc fp.length r out v w' I' loc') (I := I') (loc := loc') (σ := σ') (fun a w' hs' _ => by
  obtain ⟨v, hrun, hvr⟩ := results_sound hs' h1
  have hsr := WK.sound hs' hweak.wk.1 rfl hweak.wk.2
  have hval := Xp.sound hs' (XpF.sound h2) hvr
  exact ⟨v, hrun, v, _, _, rfl, ⟨hsr.bare, hval, hlen⟩⟩) a.defers a w' hs' rfl
 rcases he with rfl | rfl
 ·exact key
 ·exact key
end Go.Abs

namespace Go.Abs
open Go
def onRow (A : AObj) (F : Nat → List AV → Prop) : Prop := match A with
 | .row s xs => F s xs
 | _ => False
def onBox (A : AObj) (F : List AV → Prop) : Prop := match A with
 | .box cs => F cs
 | _ => False
def onRd (A : AObj) (sz sz' off len : Nat) (F : List AV → Prop) : Prop := match A with
 | .row sz'' xs => sz' = sz ∧ sz'' = sz ∧ off + len ≤ xs.length ∧ F ((xs.drop off).take len)
 | .box cs => sz' = 1 ∧ sz = 1 ∧ off + len ≤ cs.length ∧ (∀ y, y ∈ (cs.drop off).take len → y.one = true) ∧ F ((cs.drop off).take len)
 | _ => False
def onRead (H : Nat → AObj) (sz : Nat) (x : AV) (F : List AV → List Nat → Prop) : Prop := match x with
 | .list ys => F ys []
 | .own o sz' off len => onRd (H o) sz sz' off len fun ys => F ys [o]
 | .raw (.slice _ 0 _) => F [] []
 | _ => False
def appS (sz by_ : Nat) (s : AV) (ys : List AV) (rd : List Nat) (H : Nat → AObj) (nx : Nat) (K : Cont) : Prop := match s with
  | .own o sz' 0 len => onRow (H o) fun sz'' xs => sz' = sz ∧ sz'' = sz ∧ len = xs.length ∧ H nx = .unb ∧ (len + ys.length) * by_ ≤ 140737488355328 ∧ len + ys.length ≤ 9223372036854775807 ∧
      K (.own nx sz 0 (len + ys.length)) (o :: nx :: rd) [(o, .dead), (nx, .row sz (xs ++ ys))]
  | .raw (.slice none 0 0) => H nx = .unb ∧ ys.length * by_ ≤ 140737488355328 ∧ ys.length ≤ 9223372036854775807 ∧ K (.own nx sz 0 ys.length) (nx :: rd) [(nx, .row sz ys)]
  | _ => False
def appB (by_ : Nat) (s : AV) (ys : List AV) (rd : List Nat) (H : Nat → AObj) (nx : Nat) (K : Cont) : Prop := match s with
  | .own o sz' 0 len => onBox (H o) fun cs => sz' = 1 ∧ len = cs.length ∧ H nx = .unb ∧ (len + ys.length) * by_ ≤ 140737488355328 ∧ len + ys.length ≤ 9223372036854775807 ∧
      K (.own nx 1 0 (len + ys.length)) (o :: nx :: rd) [(o, .dead), (nx, .box (cs ++ ys))]
  | .raw (.slice none 0 0) => H nx = .unb ∧ ys.length * by_ ≤ 140737488355328 ∧ ys.length ≤ 9223372036854775807 ∧ K (.own nx 1 0 ys.length) (nx :: rd) [(nx, .box ys)]
  | _ => False
def appR (sz by_ : Nat) (s x : AV) (H : Nat → AObj) (nx : Nat) (K : Cont) : Prop :=
 onRead H sz x fun ys rd => (∀ y, y ∈ ys → y.cells.length = sz ∧ y.cells.all AV.one = true) ∧ (∀ y, y ∈ ys → Pure y) ∧ appS sz by_ s ys rd H nx K
def appC (by_ : Nat) (s x : AV) (H : Nat → AObj) (nx : Nat) (K : Cont) : Prop :=
 onRead H 1 x fun ys rd => (∀ y, y ∈ ys → y.one = true) ∧ appB by_ s ys rd H nx K
theorem onRead_iff {H : Nat → AObj} {sz : Nat} {x : AV} {F : List AV → List Nat → Prop} : onRead H sz x F ↔ ∃ ys rd, readA H sz x = some (ys, rd) ∧ F ys rd := by
 unfold onRead readA
 constructor
 ·intro h
  split at h
  ·exact ⟨_, _, rfl, h⟩
  ·rename_i o sz' off len
   unfold onRd at h
   split at h
   ·rename_i s xs hA
    obtain ⟨rfl, rfl, h3, h4⟩ := h
    exact ⟨_, _, by simp only [hA]; rw [if_pos (by simp [h3])], h4⟩
   ·rename_i cs hA
    obtain ⟨rfl, rfl, h3, h4, h5⟩ := h
    exact ⟨_, _, by simp only [hA]; rw [if_pos (by simpa using ⟨h3, h4⟩)], h5⟩
   ·exact h.elim
  ·exact ⟨_, _, rfl, h⟩
  ·exact h.elim
 ·rintro ⟨ys, rd, h, hF⟩
  split at h
  ·cases h; exact hF
  ·rename_i o sz' off len
   simp only [onRd]
   generalize H o = A at h
   cases A with
   | row s xs =>
    simp only at h
    by_cases hc : sz' = sz ∧ s = sz ∧ off + len ≤ xs.length
    ·rw [if_pos hc] at h; cases h; exact ⟨hc.1, hc.2.1, hc.2.2, hF⟩
    ·rw [if_neg hc] at h; cases h
   | box cs =>
    simp only at h
    by_cases hc : sz' = 1 ∧ sz = 1 ∧ off + len ≤ cs.length ∧ ((cs.drop off).take len).all AV.one = true
    ·rw [if_pos hc] at h; cases h; exact ⟨hc.1, hc.2.1, hc.2.2.1, List.all_eq_true.1 hc.2.2.2, hF⟩
    ·rw [if_neg hc] at h; cases h
   | _ => cases h
  ·cases h; exact hF
  ·cases h
theorem appendA_row {P : Program} {t e sz by_ : Nat} {z : Value} (h1 : sliceT P t = some e) (h2 : sizeT P e = some sz) (h3 : bytesT P e = some by_) (h4 : zeroT P e = some z) (h5 : refZ z = false) (h6 : 0 < sz) (h7 : z.cells.size = sz)
    (s x : AV) (H : Nat → AObj) (nx : Nat) (K : Cont) : appendA P t s x H nx K = appR sz by_ s x H nx K := by
  have hz : ¬ refZ z = true := by rw [h5]; simp
  have hS : ∀ ys rd, appS sz by_ s ys rd H nx K ↔ (match s with
      | .own o sz' 0 len => (match H o with
        | .row sz'' xs => sz' = sz ∧ sz'' = sz ∧ len = xs.length ∧ H nx = .unb ∧ (len + ys.length) * by_ ≤ 140737488355328 ∧ len + ys.length ≤ 9223372036854775807 ∧
            K (.own nx sz 0 (len + ys.length)) (o :: nx :: rd) [(o, .dead), (nx, .row sz (xs ++ ys))]
        | _ => False)
      | .raw (.slice none 0 0) => H nx = .unb ∧ ys.length * by_ ≤ 140737488355328 ∧ ys.length ≤ 9223372036854775807 ∧ K (.own nx sz 0 ys.length) (nx :: rd) [(nx, .row sz ys)]
      | _ => False) := fun ys rd => by
    unfold appS
    split
    · rename_i o sz' len
      unfold onRow
      generalize H o = A
      cases A <;> exact Iff.rfl
    · exact Iff.rfl
    · exact Iff.rfl
  unfold appendA appR
  rw [eq_iff_iff, onRead_iff]
  simp only [h1, h2, h3, h4, Option.getD_some]
  cases readA H sz x with
  | none => exact ⟨fun h => h.elim, fun ⟨_, _, h, _⟩ => by cases h⟩
  | some yr =>
    obtain ⟨ys, rd⟩ := yr
    simp only
    rw [if_neg hz]
    constructor
    · rintro ⟨_, _, g1, g2, g3⟩
      exact ⟨ys, rd, rfl, g1, g2, (hS ys rd).2 g3⟩
    · rintro ⟨ys', rd', e, g1, g2, g3⟩
      cases e
      exact ⟨h6, h7, g1, g2, (hS ys rd).1 g3⟩
theorem appendA_box {P : Program} {t e by_ : Nat} {z : Value} (h1 : sliceT P t = some e) (h2 : sizeT P e = some 1) (h3 : bytesT P e = some by_) (h4 : zeroT P e = some z) (h5 : refZ z = true) (h7 : z.cells.size = 1)
  (s x : AV) (H : Nat → AObj) (nx : Nat) (K : Cont) : appendA P t s x H nx K = appC by_ s x H nx K := by
 have one_iff : ∀ y : AV, y.one = true → y.cells.length = 1 ∧ y.cells.all AV.one = true := fun y hy => by
  have := AV.cells_of_one hy
  rw [this]; simp [hy]
 unfold appendA appC
 rw [eq_iff_iff, onRead_iff]
 simp only [h1, h2, h3, h4, Option.getD_some]
 cases readA H 1 x with
 | none => exact ⟨fun h => h.elim, fun ⟨_, _, h, _⟩ => by cases h⟩
 | some yr =>
  obtain ⟨ys, rd⟩ := yr
  simp only
  rw [if_pos h5]
  constructor
  ·rintro ⟨_, _, _, g3⟩
   refine ⟨ys, rd, rfl, ?_⟩
   unfold appB
   split at g3
   ·rename_i o sz' len
    revert g3
    simp only [onBox]
    generalize H o = A
    intro g3
    cases A with
    | box cs => obtain ⟨q1, q2, q3, g2, q4⟩ := g3; exact ⟨g2, q1, q3, q4⟩
    | _ => exact g3.elim
   ·exact ⟨g3.2.1, g3.2.2⟩
   ·exact g3.elim
  ·rintro ⟨ys', rd', e, g2, g3⟩
   cases e
   refine ⟨by omega, h7, fun y hy => one_iff y (g2 y hy), ?_⟩
   unfold appB at g3
   split at g3
   ·rename_i o sz' len
    revert g3
    simp only [onBox]
    generalize H o = A
    intro g3
    cases A with
    | box cs => obtain ⟨q1, q3, q4⟩ := g3; exact ⟨q1, trivial, q3, g2, q4⟩
    | _ => exact g3.elim
   ·exact ⟨trivial, g2, g3⟩
   ·exact g3.elim
section
variable {H : Nat → AObj} {sz by_ nx : Nat} {K : Cont}
@[go_sem] theorem onRow_row (s : Nat) (xs : List AV) (F : Nat → List AV → Prop) : onRow (.row s xs) F = F s xs := rfl
@[go_sem] theorem onBox_box (cs : List AV) (F : List AV → Prop) : onBox (.box cs) F = F cs := rfl
@[go_sem] theorem onRead_list (ys : List AV) (F : List AV → List Nat → Prop) : onRead H sz (.list ys) F = F ys [] := rfl
@[go_sem] theorem onRead_nil (a : Option Addr) (c : Nat) (F : List AV → List Nat → Prop) : onRead H sz (.raw (.slice a 0 c)) F = F [] [] := rfl
@[go_sem] theorem onRd_row (sz sz' off len sz'' : Nat) (xs : List AV) (F : List AV → Prop) : onRd (.row sz'' xs) sz sz' off len F = (sz' = sz ∧ sz'' = sz ∧ off + len ≤ xs.length ∧ F ((xs.drop off).take len)) := rfl
@[go_sem] theorem onRd_box (sz sz' off len : Nat) (cs : List AV) (F : List AV → Prop) : onRd (.box cs) sz sz' off len F = (sz' = 1 ∧ sz = 1 ∧ off + len ≤ cs.length ∧ (∀ y, y ∈ (cs.drop off).take len → y.one = true) ∧ F ((cs.drop off).take len)) := rfl
@[go_sem] theorem onRead_own (o sz' off len : Nat) (F : List AV → List Nat → Prop) : onRead H sz (.own o sz' off len) F = onRd (H o) sz sz' off len (fun ys => F ys [o]) := rfl
@[go_sem] theorem appS_own (o sz' len : Nat) (ys : List AV) (rd : List Nat) : appS sz by_ (.own o sz' 0 len) ys rd H nx K = onRow (H o) (fun sz'' xs => sz' = sz ∧ sz'' = sz ∧ len = xs.length ∧ H nx = .unb ∧ (len + ys.length) * by_ ≤ 140737488355328 ∧ len + ys.length ≤ 9223372036854775807 ∧
      K (.own nx sz 0 (len + ys.length)) (o :: nx :: rd) [(o, .dead), (nx, .row sz (xs ++ ys))]) := rfl
@[go_sem] theorem appS_nil (ys : List AV) (rd : List Nat) : appS sz by_ (.raw (.slice none 0 0)) ys rd H nx K = (H nx = .unb ∧ ys.length * by_ ≤ 140737488355328 ∧ ys.length ≤ 9223372036854775807 ∧ K (.own nx sz 0 ys.length) (nx :: rd) [(nx, .row sz ys)]) := rfl
@[go_sem] theorem appB_own (o sz' len : Nat) (ys : List AV) (rd : List Nat) : appB by_ (.own o sz' 0 len) ys rd H nx K = onBox (H o) (fun cs => sz' = 1 ∧ len = cs.length ∧ H nx = .unb ∧ (len + ys.length) * by_ ≤ 140737488355328 ∧ len + ys.length ≤ 9223372036854775807 ∧
      K (.own nx 1 0 (len + ys.length)) (o :: nx :: rd) [(o, .dead), (nx, .box (cs ++ ys))]) := rfl
@[go_sem] theorem appB_nil (ys : List AV) (rd : List Nat) : appB by_ (.raw (.slice none 0 0)) ys rd H nx K = (H nx = .unb ∧ ys.length * by_ ≤ 140737488355328 ∧ ys.length ≤ 9223372036854775807 ∧ K (.own nx 1 0 ys.length) (nx :: rd) [(nx, .box ys)]) := rfl
@[congr] theorem onRow_only {A A' : AObj} {F : Nat → List AV → Prop} (h : A = A') : onRow A F = onRow A' F := by rw [h]
@[congr] theorem onBox_only {A A' : AObj} {F : List AV → Prop} (h : A = A') : onBox A F = onBox A' F := by rw [h]
@[congr] theorem onRd_only {A A' : AObj} {sz sz' off len : Nat} {F : List AV → Prop} (h : A = A') : onRd A sz sz' off len F = onRd A' sz sz' off len F := by rw [h]
@[congr] theorem onRead_only {x x' : AV} {F : List AV → List Nat → Prop} (h : x = x') : onRead H sz x F = onRead H sz x' F := by rw [h]
@[congr] theorem appS_only {s s' : AV} {ys ys' : List AV} {rd : List Nat} (h : s = s') (h2 : ys = ys') : appS sz by_ s ys rd H nx K = appS sz by_ s' ys' rd H nx K := by rw [h, h2]
@[congr] theorem appB_only {s s' : AV} {ys ys' : List AV} {rd : List Nat} (h : s = s') (h2 : ys = ys') : appB by_ s ys rd H nx K = appB by_ s' ys' rd H nx K := by rw [h, h2]
end
attribute [go_sem] appR appC
def frzO (H : Nat → AObj) (n o sz off len : Nat) (A : AObj) : AV × List Nat := match A with
 | .row sz' xs => if sz' = sz ∧ off + len ≤ xs.length then (.list ((xs.drop off).take len), [o]) else (.own o sz off len, [])
 | .box cs => if sz = 1 ∧ off = 0 ∧ len = cs.length ∧ cs.all (fun c => flatB (frzV H n c).1) = true then (.list (cs.map fun c => (frzV H n c).1), o :: (cs.map fun c => (frzV H n c).2).flatten) else (.own o sz off len, [])
 | _ => (.own o sz off len, [])
def frzM (o : Nat) (A : AObj) : AV × List Nat := match A with
 | .mapo ks xs => (.fmap ks xs, [o])
 | _ => (.mp o, [])
section
variable {H : Nat → AObj} {n : Nat}
@[go_sem] theorem frzV_list (xs : List AV) : frzV H (n + 1) (.list xs) = (.list xs, []) := rfl
@[go_sem] theorem frzV_any : frzV H (n + 1) .any = (.any, []) := rfl
@[go_sem] theorem frzV_fmap (ks : List Value) (xs : List AV) : frzV H (n + 1) (.fmap ks xs) = (.fmap ks xs, []) := rfl
@[go_sem] theorem frzV_elt (x : AV) : frzV H (n + 1) (.elt x) = (.elt x, []) := rfl
@[go_sem] theorem frzV_ptr (o off : Nat) : frzV H (n + 1) (.ptr o off) = (.ptr o off, []) := rfl
@[go_sem] theorem frzV_eptr (o sz i off : Nat) : frzV H (n + 1) (.eptr o sz i off) = (.eptr o sz i off, []) := rfl
@[go_sem] theorem frzV_fn (f : FuncId) (cs : List AV) : frzV H (n + 1) (.fn f cs) = (.fn f cs, []) := rfl
@[go_sem] theorem frzV_int (k : IntKind) (i : Int) : frzV H (n + 1) (.raw (.int k i)) = (.raw (.int k i), []) := rfl
@[go_sem] theorem frzV_bool (b : Bool) : frzV H (n + 1) (.raw (.bool b)) = (.raw (.bool b), []) := rfl
@[go_sem] theorem frzV_string (s : ByteArray) : frzV H (n + 1) (.raw (.string s)) = (.raw (.string s), []) := rfl
@[go_sem] theorem frzV_nil : frzV H (n + 1) (.raw (.slice none 0 0)) = (.list [], []) := rfl
@[go_sem] theorem frzV_nilm (a : Option Nat) : frzV H (n + 1) (.raw (.map a)) = (.raw (.map a), []) := rfl
@[go_sem] theorem frzV_nilp (a : Option Addr) : frzV H (n + 1) (.raw (.pointer a)) = (.raw (.pointer a), []) := rfl
@[go_sem] theorem frzV_agg (cs : List AV) : frzV H (n + 1) (.agg cs) = (.agg (cs.map fun c => (frzV H n c).1), (cs.map fun c => (frzV H n c).2).flatten) := rfl
@[go_sem] theorem frzV_own (o sz off len : Nat) : frzV H (n + 1) (.own o sz off len) = frzO H n o sz off len (H o) := rfl
@[go_sem] theorem frzV_mp (o : Nat) : frzV H (n + 1) (.mp o) = frzM o (H o) := rfl
@[go_sem] theorem frzO_row (o sz off len sz' : Nat) (xs : List AV) : frzO H n o sz off len (.row sz' xs) = if sz' = sz ∧ off + len ≤ xs.length then (.list ((xs.drop off).take len), [o]) else (.own o sz off len, []) := rfl
@[go_sem] theorem frzO_box (o sz off len : Nat) (cs : List AV) : frzO H n o sz off len (.box cs) = if sz = 1 ∧ off = 0 ∧ len = cs.length ∧ cs.all (fun c => flatB (frzV H n c).1) = true then (.list (cs.map fun c => (frzV H n c).1), o :: (cs.map fun c => (frzV H n c).2).flatten) else (.own o sz off len, []) := rfl
@[go_sem] theorem frzM_mapo (o : Nat) (ks : List Value) (xs : List AV) : frzM o (.mapo ks xs) = (.fmap ks xs, [o]) := rfl
@[congr] theorem frzO_only {o sz off len : Nat} {A A' : AObj} (h : A = A') : frzO H n o sz off len A = frzO H n o sz off len A' := by rw [h]
@[congr] theorem frzM_only {o : Nat} {A A' : AObj} (h : A = A') : frzM o A = frzM o A' := by rw [h]
@[congr] theorem frzV_only {x x' : AV} (h : x = x') : frzV H n x = frzV H n x' := by rw [h]
end
def bsR (sz n : Nat) (ps : List (Nat × AV)) (H : Nat → AObj) (nx : Nat) (K : Cont) : Prop :=
 n * sz ≤ 16777216 ∧ ps.map (·.1) = List.range n ∧ H nx = .unb ∧ (∀ p, p ∈ ps → Pure (frzV H 3 p.2).1 ∧ (frzV H 3 p.2).1.sized = true ∧ (frzV H 3 p.2).1.cells.length = sz) ∧
  K (.own nx sz 0 n) ((ps.map fun p => (frzV H 3 p.2).2).flatten ++ [nx]) (deads (ps.map fun p => (frzV H 3 p.2).2).flatten ++ [(nx, .row sz (ps.map fun p => (frzV H 3 p.2).1))])
def bsC (n : Nat) (ps : List (Nat × AV)) (H : Nat → AObj) (nx : Nat) (K : Cont) : Prop :=
 n ≤ 16777216 ∧ ps.map (·.1) = List.range n ∧ H nx = .unb ∧ (∀ p, p ∈ ps → p.2.one = true) ∧ K (.own nx 1 0 n) [nx] [(nx, .box (ps.map (·.2)))]
theorem buildSliceA_row {P : Program} {t e sz : Nat} {z : Value} (h1 : sliceT P t = some e) (h2 : sizeT P e = some sz) (h4 : zeroT P e = some z) (h5 : refZ z = false) (h6 : 0 < sz) (h7 : z.cells.size = sz)
  (n : Nat) (ps : List (Nat × AV)) (H : Nat → AObj) (nx : Nat) (K : Cont) : buildSliceA P t n ps H nx K = bsR sz n ps H nx K := by
 have hz : ¬ refZ z = true := by rw [h5]; simp
 unfold buildSliceA bsR
 simp only [h1, h2, h4, eq_iff_iff]
 rw [if_neg hz]
 exact ⟨fun ⟨_, g1, _, g2, g3, g4⟩ => ⟨g1, g2, g3, g4⟩, fun ⟨g1, g2, g3, g4⟩ => ⟨h6, g1, h7, g2, g3, g4⟩⟩
theorem buildSliceA_box {P : Program} {t e : Nat} {z : Value} (h1 : sliceT P t = some e) (h2 : sizeT P e = some 1) (h4 : zeroT P e = some z) (h5 : refZ z = true) (h7 : z.cells.size = 1)
  (n : Nat) (ps : List (Nat × AV)) (H : Nat → AObj) (nx : Nat) (K : Cont) : buildSliceA P t n ps H nx K = bsC n ps H nx K := by
 unfold buildSliceA bsC
 simp only [h1, h2, h4, eq_iff_iff]
 rw [if_pos h5]
 constructor
 ·rintro ⟨_, g1, _, g2, g3, _, g4⟩; exact ⟨by omega, g2, g3, g4⟩
 ·rintro ⟨g1, g2, g3, g4⟩; exact ⟨by omega, by omega, h7, g2, g3, trivial, g4⟩
attribute [go_sem] bsR bsC
end Go.Abs

namespace Go.Abs
open Go
attribute [go_sem] ltN evOp pickA allocA boxA loadA storeA nilA intA cmpI strA aggEqA baC fillE rawsOf shiftA binA unA convA fieldAddrA partA fieldA indexAddrA indexA loA hiA sliceA extractA lenOfA readA builtinA fillA buildA_struct
 makeSliceA makeMapA rangeA entryA flatB refZ deads keyA zAV makeFuncA callOpA calleeA ofVal AS.ev AS.get AS.obj AS.put AS.setO AS.putD AS.nx nxF lkV lkO splice AV.cells AV.one AV.flat AV.sized numO numA thenA inBlockA
 resAll resOne packR envF objsF OXpF onceB liveM AObj.live envG AObj.ren backId backObjs newIds Value.oneCell' Value.cells
attribute [go_sem] ite_true ite_false if_true if_false true_and and_true and_self forall_const true_implies false_implies List.map_cons List.map_nil List.append_nil List.nil_append List.cons_append List.length_cons List.length_nil
 List.all_cons List.all_nil Bool.and_true Bool.true_and Bool.and_self List.size_toArray Option.map_some Option.map_none Option.bind_some Option.bind_none Option.isSome_some List.getElem?_cons_zero List.getElem?_cons_succ List.getElem?_nil
 List.take_succ_cons List.take_zero List.drop_succ_cons List.drop_zero List.drop_nil List.take_nil List.getD_cons_zero List.getD_cons_succ Option.getD_some Option.getD_none List.all_toArray List.getElem?_toArray
 List.mem_cons List.not_mem_nil or_false forall_eq_or_imp forall_eq List.forall_mem_cons List.map_toArray ne_eq List.range_zero
attribute [go_sem] Nat.min_self Nat.max_self Nat.reduceLT Nat.reduceEqDiff Nat.reduceAdd Nat.reduceSub Nat.reduceMul Nat.reduceLeDiff Nat.reduceBEq Nat.reduceBNe Int.reduceLT Int.reduceLE Int.reduceEq Int.reduceBEq Int.reduceBNe Int.reduceAdd Int.reduceSub Int.reduceToNat
attribute [go_sem] List.flatten_nil List.flatten_cons List.contains_cons List.contains_nil Option.some_beq_some Option.some_beq_none Option.none_beq_some Bool.or_false Bool.or_true Bool.false_or Bool.true_or Bool.not_true Bool.not_false decide_eq_true_eq beq_self_eq_true
 beq_iff_eq bne_iff_ne beq_eq_false_iff_ne decide_eq_false_iff_not Nat.not_lt Nat.not_le Int.not_lt Int.not_le or_true true_or false_or Bool.false_eq_true and_false false_and not_false_eq_true not_true_eq_false decide_true decide_false Bool.false_and Bool.and_false Option.some.injEq reduceCtorEq eq_self
@[go_sem] theorem flatten_map_nil {α β : Type} (l : List α) : (l.map fun _ => ([] : List β)).flatten = [] := by induction l <;> simp_all
@[go_sem] theorem all_true {α : Type} (l : List α) : (l.all fun _ => true) = true := by induction l <;> simp_all
@[go_sem] theorem all_toArray_stop {α : Type} (l : List α) (f : α → Bool) (n : Nat) (h : n = l.length) : l.toArray.all f 0 n = l.all f := by subst h; simp
@[go_sem] theorem toArray_getD' {α : Type} (l : List α) (i : Nat) (d : α) : l.toArray.getD i d = l.getD i d := by simp
def contA (P : Program) (all : List Oper) (K : AS → List Touch → Prop) (o : Oper) (rest : List Oper) (σ : AS) (ts : List Touch) : Cont :=
 fun v rd wr => runOps P all K rest ((σ.writes wr).putD o.dst v) (ts ++ [⟨rd, wr.map (·.1)⟩])
def IsCont (K' K0 : Cont) : Prop := K' = K0
def dstOK (σ : AS) : Option Tmp → Prop
 | some d => d < σ.n
 | none => True
section
variable {P : Program} {all : List Oper} {K : AS → List Touch → Prop} {o : Oper} {rest : List Oper} {σ : AS} {ts : List Touch}
theorem run_nil (h : K σ ts) : runOps P all K [] σ ts := h
theorem dstOK_iff {d : Option Tmp} : dstOK σ d ↔ (match d with | some d => ltN d σ.n | none => True) := by cases d <;> rfl
theorem run_op (hg : o.guard = none) (hd : dstOK σ o.dst) (h : ∀ K', IsCont K' (contA P all K o rest σ ts) → evOp P o σ.ev σ.obj σ.nx K') : runOps P all K (o :: rest) σ ts := by
 unfold runOps guardA
 rw [hg]
 exact ⟨dstOK_iff.1 hd, h _ rfl⟩
theorem contA_of {K' : Cont} {v : AV} {rd : List Nat} {wr : List (Nat × AObj)} (hK : IsCont K' (contA P all K o rest σ ts)) (h : runOps P all K rest ((σ.writes wr).putD o.dst v) (ts ++ [⟨rd, wr.map (·.1)⟩])) : K' v rd wr := by unfold IsCont at hK; rw [hK]; exact h
theorem run_if {j d : Nat} {want b : Bool} (hg : o.guard = some (j, want)) (hj : (all[j]?).bind (·.dst) = some d) (hv : σ.get d = .raw (.bool b)) (hd : dstOK σ o.dst)
  (h1 : b = want → ∀ K', IsCont K' (contA P all K o rest σ ts) → evOp P o σ.ev σ.obj σ.nx K') (h2 : b = !want → runOps P all K rest (σ.putD o.dst (.tup [])) (ts ++ [⟨[], []⟩])) : runOps P all K (o :: rest) σ ts := by
 unfold runOps guardA
 rw [hg]
 simp only [hj, hv, gIf]
 exact ⟨fun e => ⟨dstOK_iff.1 hd, h1 e _ rfl⟩, fun e => ⟨dstOK_iff.1 hd, h2 e⟩⟩
theorem run_yes {j d : Nat} {want : Bool} (hg : o.guard = some (j, want)) (hj : (all[j]?).bind (·.dst) = some d) (hv : σ.get d = .raw (.bool want)) (hd : dstOK σ o.dst)
  (h1 : ∀ K', IsCont K' (contA P all K o rest σ ts) → evOp P o σ.ev σ.obj σ.nx K') : runOps P all K (o :: rest) σ ts := run_if hg hj hv hd (fun _ => h1) (fun e => by cases want <;> cases e)
theorem run_no {j d : Nat} {want : Bool} (hg : o.guard = some (j, want)) (hj : (all[j]?).bind (·.dst) = some d) (hv : σ.get d = .raw (.bool !want)) (hd : dstOK σ o.dst)
  (h2 : runOps P all K rest (σ.putD o.dst (.tup [])) (ts ++ [⟨[], []⟩])) : runOps P all K (o :: rest) σ ts := run_if hg hj hv hd (fun e => by cases want <;> cases e) (fun _ => h2)
theorem run_out {j d : Nat} {want : Bool} (hg : o.guard = some (j, want)) (hj : (all[j]?).bind (·.dst) = some d) (hv : σ.get d = .tup []) (hd : dstOK σ o.dst)
  (h2 : runOps P all K rest (σ.putD o.dst (.tup [])) (ts ++ [⟨[], []⟩])) : runOps P all K (o :: rest) σ ts := by
 unfold runOps guardA
 rw [hg]
 simp only [hj, hv]
 exact ⟨dstOK_iff.1 hd, h2⟩
end
@[congr] theorem obj_only {σ : AS} {o o' : Nat} (h : o = o') : σ.obj o = σ.obj o' := by rw [h]
@[congr] theorem get_only {σ : AS} {o o' : Nat} (h : o = o') : σ.get o = σ.get o' := by rw [h]
@[congr] theorem lkV_only' {l : List (Nat × AV)} {o o' : Nat} (h : o = o') : lkV l o = lkV l o' := by rw [h]
@[congr] theorem lkO_only {l : List (Nat × AObj)} {o o' : Nat} (h : o = o') : lkO l o = lkO l o' := by rw [h]
@[congr] theorem runOps_only {P : Program} {all : List Oper} {K : AS → List Touch → Prop} {l : List Oper} {σ σ' : AS} {ts ts' : List Touch} (h1 : σ = σ') (h2 : ts = ts') : runOps P all K l σ ts = runOps P all K l σ' ts' := by rw [h1, h2]
@[congr] theorem guardA_only {all : List Oper} {σ σ' : AS} {o : Oper} {Y N : Prop} (h : σ = σ') : guardA all σ o Y N = guardA all σ' o Y N := by rw [h]
@[congr] theorem evOp_only {P : Program} {o : Oper} {ev : Operand → AV} {H : Nat → AObj} {nx nx' : Nat} {K : Cont} (h : nx = nx') : evOp P o ev H nx K = evOp P o ev H nx' K := by rw [h]
@[congr] theorem loadA_only {P : Program} {t : TypeId} {x x' : AV} {H : Nat → AObj} {K : Cont} (h : x = x') : loadA P t x H K = loadA P t x' H K := by rw [h]
@[congr] theorem storeA_only {P : Program} {t : TypeId} {x x' y y' : AV} {H : Nat → AObj} {K : Cont} (h : x = x') (h2 : y = y') : storeA P t x y H K = storeA P t x' y' H K := by rw [h, h2]
@[congr] theorem binA_only {P : Program} {op : BinOp} {t : TypeId} {x x' y y' : AV} {K : Cont} (h : x = x') (h2 : y = y') : binA P op t x y K = binA P op t x' y' K := by rw [h, h2]
@[congr] theorem fieldAddrA_only {P : Program} {t : TypeId} {x x' : AV} {f : Nat} {K : Cont} (h : x = x') : fieldAddrA P t x f K = fieldAddrA P t x' f K := by rw [h]
@[congr] theorem indexAddrA_only {P : Program} {t : TypeId} {x x' y y' : AV} {K : Cont} (h : x = x') (h2 : y = y') : indexAddrA P t x y K = indexAddrA P t x' y' K := by rw [h, h2]
@[congr] theorem mapUpdateA_only {P : Program} {t : TypeId} {m m' k k' x x' : AV} {H : Nat → AObj} {K : Cont} (h : m = m') (h2 : k = k') (h3 : x = x') : mapUpdateA P t m k x H K = mapUpdateA P t m' k' x' H K := by rw [h, h2, h3]
@[congr] theorem lookupA_only {P : Program} {t : TypeId} {m m' k k' : AV} {ok : Bool} {H : Nat → AObj} {K : Cont} (h : m = m') (h2 : k = k') : lookupA P t m k ok H K = lookupA P t m' k' ok H K := by rw [h, h2]
@[congr] theorem callA_only {P : Program} {f : FuncId} {avs avs' : List AV} {H : Nat → AObj} {nx nx' : Nat} {K : Cont} (h : avs = avs') (h2 : nx = nx') : callA P f avs H nx K = callA P f avs' H nx' K := by rw [h, h2]
@[congr] theorem gIf_congr {b b' want : Bool} (h : b = b') (Y N : Prop) : gIf b want Y N = gIf b' want Y N := by rw [h]
@[go_sem] theorem gIf_tt (Y N : Prop) : gIf true true Y N = Y := by simp [gIf]
@[go_sem] theorem gIf_tf (Y N : Prop) : gIf true false Y N = N := by simp [gIf]
@[go_sem] theorem gIf_ft (Y N : Prop) : gIf false true Y N = N := by simp [gIf]
@[go_sem] theorem gIf_ff (Y N : Prop) : gIf false false Y N = Y := by simp [gIf]
@[go_sem] theorem writes_nil (σ : AS) : σ.writes [] = σ := rfl
@[go_sem] theorem writes_cons (σ : AS) (o : Nat) (A : AObj) (r : List (Nat × AObj)) : σ.writes ((o, A) :: r) = (σ.setO o A).writes r := rfl
@[go_sem] theorem range_succ' (n : Nat) : List.range (n + 1) = List.range n ++ [n] := List.range_succ
@[go_sem] theorem pure_raw (v : Value) : Pure (.raw v) ↔ True := ⟨fun _ => trivial, fun _ => .raw v⟩
@[go_sem] theorem pure_list (xs : List AV) : Pure (.list xs) ↔ True := ⟨fun _ => trivial, fun _ => .list xs⟩
@[go_sem] theorem pure_fmap (ks : List Value) (xs : List AV) : Pure (.fmap ks xs) ↔ True := ⟨fun _ => trivial, fun _ => .fmap ks xs⟩
@[go_sem] theorem pure_any : Pure .any ↔ True := ⟨fun _ => trivial, fun _ => .any⟩
@[go_sem] theorem pure_elt (x : AV) : Pure (.elt x) ↔ True := ⟨fun _ => trivial, fun _ => .elt x⟩
@[go_sem] theorem pure_agg_nil : Pure (.agg []) ↔ True := ⟨fun _ => trivial, fun _ => .agg [] (fun c hc => by simp at hc)⟩
@[go_sem] theorem pure_agg_cons (c : AV) (cs : List AV) : Pure (.agg (c :: cs)) ↔ Pure c ∧ Pure (.agg cs) := by
 constructor
 ·intro h
  cases h with
  | agg _ h => exact ⟨h c (by simp), .agg cs (fun d hd => h d (by simp [hd]))⟩
 ·rintro ⟨h1, h2⟩
  cases h2 with
  | agg _ h2 =>
   refine .agg _ (fun d hd => ?_)
   rcases List.mem_cons.1 hd with rfl | hd
   ·exact h1
   ·exact h2 d hd
section
variable (H : Nat → AObj) (m : List (Option Nat)) (ex : List Nat)
@[go_sem] theorem XpF_any (y : AV) : XpF H m ex .any y ↔ True := by simp only [XpF]
@[go_sem] theorem XpF_ptr (k off o off' : Nat) : XpF H m ex (.ptr k off) (.ptr o off') ↔ m[k]? = some (some o) ∧ off = off' := by simp only [XpF]
@[go_sem] theorem XpF_eptr (k sz i off o sz' i' off' : Nat) : XpF H m ex (.eptr k sz i off) (.eptr o sz' i' off') ↔ m[k]? = some (some o) ∧ sz = sz' ∧ i = i' ∧ off = off' := by simp only [XpF]
@[go_sem] theorem XpF_own (k sz off len o sz' off' len' : Nat) : XpF H m ex (.own k sz off len) (.own o sz' off' len') ↔ m[k]? = some (some o) ∧ sz = sz' ∧ off = off' ∧ len = len' := by simp only [XpF]
@[go_sem] theorem XpF_ownN (k sz off len : Nat) (v : Value) : XpF H m ex (.own k sz off len) (.raw v) ↔ m[k]? = some none ∧ off = 0 ∧ len = 0 ∧ v = .slice none 0 0 := by simp only [XpF]
@[go_sem] theorem XpF_mp (k o : Nat) : XpF H m ex (.mp k) (.mp o) ↔ m[k]? = some (some o) := by simp only [XpF]
@[go_sem] theorem XpF_raw (v v' : Value) : XpF H m ex (.raw v) (.raw v') ↔ v = v' := by simp only [XpF]
@[go_sem] theorem XpF_list (xs ys : List AV) : XpF H m ex (.list xs) (.list ys) ↔ xs = ys := by simp only [XpF]
@[go_sem] theorem XpF_froz (xs : List AV) (o sz off len : Nat) : XpF H m ex (.list xs) (.own o sz off len) ↔ o ∈ ex ∧ (match H o with
  | .row sz' zs => sz' = sz ∧ off + len ≤ zs.length ∧ xs = (zs.drop off).take len
  | .box cs => sz = 1 ∧ off = 0 ∧ len = cs.length ∧ (∀ x, x ∈ xs → flatB x = true) ∧ (xs = cs ∨ XpL H m ex xs cs)
  | _ => False) := by simp only [XpF] <;> (generalize H o = A; cases A <;> exact Iff.rfl)
@[go_sem] theorem XpF_fmap (ks ks' : List Value) (xs xs' : List AV) : XpF H m ex (.fmap ks xs) (.fmap ks' xs') ↔ ks = ks' ∧ xs = xs' := by simp only [XpF]
@[go_sem] theorem XpF_frozm (ks : List Value) (xs : List AV) (o : Nat) : XpF H m ex (.fmap ks xs) (.mp o) ↔ o ∈ ex ∧ (match H o with
  | .mapo ks' xs' => MPerm ks xs ks' xs'
  | _ => False) := by simp only [XpF] <;> (generalize H o = A; cases A <;> exact Iff.rfl)
@[go_sem] theorem mperm_refl (ks : List Value) (xs : List AV) : MPerm ks xs ks xs ↔ True := ⟨fun _ => trivial, fun _ => .refl _ _⟩
@[go_sem] theorem XpF_nilm (ks : List Value) (xs : List AV) (v : Value) : XpF H m ex (.fmap ks xs) (.raw v) ↔ ks = [] ∧ xs = [] ∧ v = .map none := by simp only [XpF]
@[go_sem] theorem XpF_nill (xs : List AV) (v : Value) : XpF H m ex (.list xs) (.raw v) ↔ xs = [] ∧ v = .slice none 0 0 := by simp only [XpF]
@[go_sem] theorem XpF_elt (x y : AV) : XpF H m ex (.elt x) (.elt y) ↔ x = y := by simp only [XpF]
@[go_sem] theorem XpF_agg (cs ds : List AV) : XpF H m ex (.agg cs) (.agg ds) ↔ XpL H m ex cs ds := by simp only [XpF]
@[go_sem] theorem XpF_tup (cs ds : List AV) : XpF H m ex (.tup cs) (.tup ds) ↔ XpL H m ex cs ds := by simp only [XpF]
@[go_sem] theorem XpF_fn (f g : FuncId) (cs ds : List AV) : XpF H m ex (.fn f cs) (.fn g ds) ↔ f = g ∧ XpL H m ex cs ds := by simp only [XpF]
@[go_sem] theorem XpL_nil : XpL H m ex [] [] ↔ True := by simp only [XpL]
@[go_sem] theorem XpL_cons (x y : AV) (xs ys : List AV) : XpL H m ex (x :: xs) (y :: ys) ↔ XpF H m ex x y ∧ XpL H m ex xs ys := by simp only [XpL]
end
section
variable (f : Nat → Nat)
@[go_sem] theorem ren_any : AV.ren f .any = .any := by simp only [AV.ren]
@[go_sem] theorem ren_raw (v : Value) : AV.ren f (.raw v) = .raw v := by simp only [AV.ren]
@[go_sem] theorem ren_list (xs : List AV) : AV.ren f (.list xs) = .list xs := by simp only [AV.ren]
@[go_sem] theorem ren_elt (x : AV) : AV.ren f (.elt x) = .elt x := by simp only [AV.ren]
@[go_sem] theorem ren_fmap (ks : List Value) (xs : List AV) : AV.ren f (.fmap ks xs) = .fmap ks xs := by simp only [AV.ren]
@[go_sem] theorem ren_ptr (o off : Nat) : AV.ren f (.ptr o off) = .ptr (f o) off := by simp only [AV.ren]
@[go_sem] theorem ren_eptr (o sz i off : Nat) : AV.ren f (.eptr o sz i off) = .eptr (f o) sz i off := by simp only [AV.ren]
@[go_sem] theorem ren_own (o sz off len : Nat) : AV.ren f (.own o sz off len) = .own (f o) sz off len := by simp only [AV.ren]
@[go_sem] theorem ren_mp (o : Nat) : AV.ren f (.mp o) = .mp (f o) := by simp only [AV.ren]
@[go_sem] theorem ren_agg (cs : List AV) : AV.ren f (.agg cs) = .agg (cs.map (AV.ren f)) := by simp only [AV.ren, renL_eq]
@[go_sem] theorem ren_tup (cs : List AV) : AV.ren f (.tup cs) = .tup (cs.map (AV.ren f)) := by simp only [AV.ren, renL_eq]
@[go_sem] theorem ren_fn (g : FuncId) (cs : List AV) : AV.ren f (.fn g cs) = .fn g (cs.map (AV.ren f)) := by simp only [AV.ren, renL_eq]
@[go_sem] theorem renL_map (cs : List AV) : renL f cs = cs.map (AV.ren f) := renL_eq f cs
end
end Go.Abs

namespace Go.Abs
open Go
def child : Nat → Code → Code
 | 0, .seq x _ => x
 | 1, .seq _ y => y
 | 0, .cond _ x _ => x
 | 1, .cond _ _ y => y
 | 0, .block _ c => c
 | 0, .loop c => c
 | _, _ => .skip
def sub : List Nat → Code → Code
 | [], b => b
 | i :: p, b => child i (sub p b)
def bodyOf (fn : Func) : Code := fn.body.getD .skip
def isSeq : Code → Bool
 | .seq _ _ => true
 | _ => false
def isBlock : Code → Option Nat
 | .block id _ => some id
 | _ => none
def isLoop : Code → Bool
 | .loop _ => true
 | _ => false
def isCond : Code → Option Operand
 | .cond c _ _ => some c
 | _ => none
section
variable {P : Program} {E : Env} {Q : Exit → AS → Prop} {σ : AS} {p : List Nat} {b : Code}
theorem s_seq (h : isSeq (sub p b) = true) (hx : Hold P E (sub (0 :: p) b) (thenA (Hold P E (sub (1 :: p) b) Q) Q) σ) : Hold P E (sub p b) Q σ := by
 simp only [sub] at hx
 cases hc : sub p b with
 | seq x y => rw [hc] at hx; exact hold_seq hx
 | _ => rw [hc] at h; cases h
theorem s_block {id : Nat} (h : isBlock (sub p b) = some id) (hx : Hold P E (sub (0 :: p) b) (inBlockA id Q) σ) : Hold P E (sub p b) Q σ := by
 simp only [sub] at hx
 cases hc : sub p b with
 | block i c => rw [hc] at hx h; cases h; exact hold_block hx
 | _ => rw [hc] at h; cases h
theorem s_skip (h : sub p b = .skip) (hx : Q .normal σ) : Hold P E (sub p b) Q σ := by rw [h]; exact hold_skip hx
theorem s_label {l : Nat} (h : sub p b = .label l) (hx : Q .normal σ) : Hold P E (sub p b) Q σ := by rw [h]; exact hold_label hx
theorem s_exit {id : Nat} (h : sub p b = .exit id) (hx : Q (.exit id) σ) : Hold P E (sub p b) Q σ := by rw [h]; exact hold_exit hx
theorem s_ret (h : sub p b = .ret) (hx : Q .ret σ) : Hold P E (sub p b) Q σ := by rw [h]; exact hold_ret hx
theorem s_region {id : Nat} {ops : List Oper} (h : sub p b = .region id ops.toArray false) (hx : runOps P ops (fun σ' _ => Q .normal σ') ops σ []) : Hold P E (sub p b) Q σ := by
 rw [h]; exact hold_region hx
theorem s_draw {id : Nat} {ops : List Oper} (h : sub p b = .region id ops.toArray true) (hm : P.follows .mixedOrders = true) (he : edgesB ops = true) (hx : runOps P ops (fun σ' ts => indepB ops ts = true ∧ Q .normal σ') ops σ []) : Hold P E (sub p b) Q σ := by
 rw [h]; exact hold_draw hm he hx
theorem s_cond {c : Operand} (h : isCond (sub p b) = some c) (hx : ∃ t, σ.ev c = .raw (.bool t) ∧ (t = true → Hold P E (sub (0 :: p) b) Q σ) ∧ (t = false → Hold P E (sub (1 :: p) b) Q σ)) : Hold P E (sub p b) Q σ := by
 simp only [sub] at hx
 cases hc : sub p b with
 | cond c' x y =>
  rw [hc] at hx h; cases h
  obtain ⟨t, h1, h2, h3⟩ := hx
  exact hold_cond h1 h2 h3
 | _ => rw [hc] at h; cases h
theorem s_loop (h : isLoop (sub p b) = true) (Inv : Nat → Nat → List (Nat × AV) → List AObj → Prop) (n : Nat) (h0 : ∃ m ex N env As, Weak E.n m ex σ N env As ∧ Inv n N env As)
  (hx : ∀ n N env As, Inv n N env As → Hold P E (sub (0 :: p) b) (thenA (fun σ' => ∃ n', n' < n ∧ ∃ m ex N env As, Weak E.n m ex σ' N env As ∧ Inv n' N env As) Q) ⟨N, env, numO 0 As⟩) : Hold P E (sub p b) Q σ := by
 simp only [sub] at hx
 cases hc : sub p b with
 | loop c => rw [hc] at hx; exact hold_loop_weak Inv n h0 hx
 | _ => rw [hc] at h; cases h
def AS.only (σ : AS) (ts : List Nat) : AS := ⟨σ.n, ts.map (fun t => (t, σ.get t)), σ.objs⟩
theorem spec_body {f : FuncId} {fn : Func} {args : List AV} {fp : List AObj} {r : AV} {out : List AObj} (hf : P.funcs[f]? = some fn) (hb : fn.body.isSome = true)
  (h : ∀ E : Env, E.n = fp.length → Hold P E (sub [] (bodyOf fn)) (fun e σ' => (e = .normal ∨ e = .ret) ∧ RetOK P fn fp.length r out σ') ⟨args.length + (fn.ntmps - args.length), numA 0 args, numO 0 fp⟩) : Spec P f args fp r out := by
 obtain ⟨c, hc⟩ := Option.isSome_iff_exists.1 hb
 refine spec_of hf hc (fun E hE => ?_)
 have := h E hE
 simp only [sub, bodyOf, hc, Option.getD_some] at this
 exact this
end
section
variable {P : Program} {E : Env} {all : List Oper} {K : AS → List Touch → Prop} {o : Oper} {rest : List Oper} {σ : AS} {ts : List Touch} {Q : Exit → AS → Prop} {p : List Nat} {b : Code}
def dstB (σ : AS) : Option Tmp → Bool
 | some d => Nat.blt d σ.n
 | none => true
theorem dstB_ok : dstB σ o.dst = true → dstOK σ o.dst := by
 cases o.dst with
 | none => intro _; trivial
 | some d => intro h; simp only [dstB, Nat.blt, Nat.ble_eq] at h; exact h
def stepG (a c : Option (Bool × Prop)) : AV → Bool → Option (Bool × Prop)
 | .raw (.bool true), true => a
 | .raw (.bool false), false => a
 | .raw (.bool true), false => c
 | .raw (.bool false), true => c
 | .tup [], _ => c
 | _, _ => none
def stepR (P : Program) (all : List Oper) (K : AS → List Touch → Prop) (σ : AS) (ts : List Touch) : List Oper → Option (Bool × Prop)
  | [] => some (true, K σ ts)
  | o :: rest => match o.guard with
    | none => some (dstB σ o.dst, ∀ K', IsCont K' (contA P all K o rest σ ts) → evOp P o σ.ev σ.obj σ.nx K')
    | some (j, want) => match (all[j]?).bind (·.dst) with
      | none => none
      | some d => stepG (some (dstB σ o.dst, ∀ K', IsCont K' (contA P all K o rest σ ts) → evOp P o σ.ev σ.obj σ.nx K'))
          (some (dstB σ o.dst, runOps P all K rest (σ.putD o.dst (.tup [])) (ts ++ [⟨[], []⟩]))) (σ.get d) want
theorem Qr {ops : List Oper} {G : Prop} (h : stepR P all K σ ts ops = some (true, G)) (g : G) : runOps P all K ops σ ts := by
 cases ops with
 | nil => cases h; exact g
 | cons o rest =>
  simp only [stepR] at h
  split at h
  ·rename_i hg
   simp only [Option.some.injEq, Prod.mk.injEq] at h
   obtain ⟨h1, rfl⟩ := h
   exact run_op hg (dstB_ok h1) g
  ·rename_i j want hg
   split at h
   ·cases h
   ·rename_i d hj
    unfold stepG at h
    split at h <;> simp only [Option.some.injEq, Prod.mk.injEq, reduceCtorEq] at h <;> obtain ⟨h1, rfl⟩ := h
    ·rename_i hv; exact run_yes hg hj hv (dstB_ok h1) g
    ·rename_i hv; exact run_yes hg hj hv (dstB_ok h1) g
    ·rename_i hv; exact run_no hg hj hv (dstB_ok h1) g
    ·rename_i hv; exact run_no hg hj hv (dstB_ok h1) g
    ·rename_i hv; exact run_out hg hj hv (dstB_ok h1) g
theorem Qi {j d : Nat} {want t : Bool} (hg : o.guard = some (j, want)) (hj : (all[j]?).bind (·.dst) = some d) (hv : σ.get d = .raw (.bool t)) (hd : dstB σ o.dst = true)
  (h1 : t = want → ∀ K', IsCont K' (contA P all K o rest σ ts) → evOp P o σ.ev σ.obj σ.nx K') (h2 : t = !want → runOps P all K rest (σ.putD o.dst (.tup [])) (ts ++ [⟨[], []⟩])) :
  runOps P all K (o :: rest) σ ts := run_if hg hj hv (dstB_ok hd) h1 h2
theorem Qb {ops : List Oper} {p : Prop} (h : indepB ops ts = true) (g : p) : indepB ops ts = true ∧ p := ⟨h, g⟩
def stepH (P : Program) (E : Env) (b : Code) (Q : Exit → AS → Prop) (σ : AS) (p : List Nat) : Option Prop := match sub p b with
 | .seq _ _ => some (Hold P E (sub (0 :: p) b) (thenA (Hold P E (sub (1 :: p) b) Q) Q) σ)
 | .block id _ => some (Hold P E (sub (0 :: p) b) (inBlockA id Q) σ)
 | .skip => some (Q .normal σ)
 | .label _ => some (Q .normal σ)
 | .exit id => some (Q (.exit id) σ)
 | .region _ ⟨ops⟩ false => some (runOps P ops (fun σ' _ => Q .normal σ') ops σ [])
 | _ => none
theorem Qh {G : Prop} (h : stepH P E b Q σ p = some G) (g : G) : Hold P E (sub p b) Q σ := by
 unfold stepH at h
 cases hc : sub p b with
 | seq x y => rw [hc] at h; cases h; rw [← hc]; exact s_seq (by rw [hc]; rfl) g
 | block i c => rw [hc] at h; cases h; rw [← hc]; exact s_block (id := i) (by rw [hc]; rfl) g
 | skip => rw [hc] at h; cases h; rw [← hc]; exact s_skip hc g
 | label l => rw [hc] at h; cases h; rw [← hc]; exact s_label hc g
 | exit id => rw [hc] at h; cases h; rw [← hc]; exact s_exit hc g
 | region id ops d => cases d with
  | false => rw [hc] at h; cases h; rw [← hc]; exact s_region (ops := ops.toList) (by rw [hc]) g
  | true => rw [hc] at h; cases h
 | _ => rw [hc] at h; cases h
end
@[congr] theorem Hold.only_state {P : Program} {E : Env} {c : Code} {Q : Exit → AS → Prop} {σ τ : AS} (h : σ = τ) : Hold P E c Q σ = Hold P E c Q τ := by rw [h]
attribute [go_sem] AS.only
end Go.Abs

namespace Go.Abs
open Go
theorem map_eraseIdx' {α β : Type} (f : α → β) : ∀ (l : List α) (i : Nat), (l.eraseIdx i).map f = (l.map f).eraseIdx i
 | [], i => by simp
 | x :: r, 0 => rfl
 | x :: r, i + 1 => by simp only [List.eraseIdx_cons_succ, List.map_cons, map_eraseIdx' f r i]
theorem filter_born : ∀ (L : List MapEntry) (i : Nat) (h : i < L.length), L.Pairwise (fun x y => x.born < y.born) → L.filter (fun e => !(e.born == L[i].born)) = L.eraseIdx i
 | [], i, h, _ => by simp at h
 | x :: r, 0, h, hp => by
  obtain ⟨h1, h2⟩ := List.pairwise_cons.1 hp
  simp only [List.getElem_cons_zero, List.eraseIdx_cons_zero, List.filter_cons, beq_self_eq_true, Bool.not_true, Bool.false_eq_true, if_false]
  exact List.filter_eq_self.2 (fun e he => by have := h1 e he; simp; omega)
 | x :: r, i + 1, h, hp => by
  obtain ⟨h1, h2⟩ := List.pairwise_cons.1 hp
  have hi : i < r.length := by simpa using h
  have hx : x.born < r[i].born := h1 _ (List.getElem_mem hi)
  simp only [List.getElem_cons_succ, List.eraseIdx_cons_succ]
  rw [List.filter_cons, if_pos (by simp; omega), filter_born r i hi h2]
theorem left_push (es : List MapEntry) (seen : Array Nat) (i : Nat) (h : i < (es.filter (fun e => !seen.contains e.born)).length) (hp : es.Pairwise (fun x y => x.born < y.born)) :
  es.filter (fun e => !(seen.push ((es.filter (fun e => !seen.contains e.born))[i]).born).contains e.born) = (es.filter (fun e => !seen.contains e.born)).eraseIdx i := by
 rw [← filter_born _ i h (hp.filter _), List.filter_filter]
 congr 1
 funext e
 simp only [Array.contains_push]
 cases seen.contains e.born <;> simp
section
variable {P : Program} {E : Env} {Q : Exit → AS → Prop} {σ : AS} {p : List Nat} {b : Code}
theorem wanted_none {o : Oper} (h : o.guard = none) (y : Nat → Option Bool) : Region.wanted o y = true := by simp [Region.wanted, h]
theorem s_next {id : Nat} {o1 o2 : Oper} {t d d2 o : Nat} (h : sub p b = .region id #[o1, o2] false) (h1 : o1.op = .next (.tmp t) false) (h2 : o1.dst = some d) (h3 : o1.guard = none)
    (h4 : o2.op = .extract (.tmp d) 0) (h5 : o2.dst = some d2) (h6 : o2.guard = none) (cur : Option (Value × AV)) (ks : List Value) (xs : List AV) (hx : σ.get t = .ptr o 0) (ho : σ.obj o = .iter cur ks xs) (hd : d < σ.n) (hd2 : d2 < σ.n)
    (hend : ks = [] → xs = [] → Q .normal ((σ.put d .any).put d2 (.raw (.bool false))))
    (hstep : ∀ (i : Nat) (h : i < ks.length) (h' : i < xs.length), Q .normal (((σ.setO o (.iter (some (ks[i], xs[i])) (ks.eraseIdx i) (xs.eraseIdx i))).put d .any).put d2 (.raw (.bool true)))) : Hold P E (sub p b) Q σ := by
  rw [h]
  rintro a w ⟨I, loc, hs⟩
  refine wp_region_lit (l := [o1, o2]) ?_
  have second : ∀ (τ : AS) (bb : Bool) (v : Value) (w' : World) (I' : Nat → Prop), τ.n = σ.n → (Instr.extract v 0).run P w' = .ok (.bool bb) w' → SR E I' loc τ a w' → Q .normal ((τ.put d .any).put d2 (.raw (.bool bb))) →
      wpList P #[o1, o2] (lift E Q) [o2] (a.put o1.dst v) w' := by
    intro τ bb v w' I' hn hv hsr hq
    have hs1 := hsr.put (t := d) (v := .any) (x := v) (.pure (.any _)) (by rw [hn]; exact hd)
    unfold wpList
    rw [if_pos (wanted_none h6 _)]
    refine .inl (wp_val (x := .bool bb) (w' := w') ?_ ?_)
    · have hev : (a.put o1.dst v).eval (.tmp d) = v := by
        have hlt : d < a.tmps.size := by rw [hsr.size, hn]; exact hd
        simp [Act.eval, Act.put, h2, hlt]
      simp only [execOp, h4, Sem.run_bind, hev, hv, Result.andThen_ok, Sem.run_pure]
    · unfold wpList
      refine ⟨_, hq, I', loc, ?_⟩
      rw [h2, h5]
      exact hs1.put (.pure (.raw _ rfl)) (show d2 < τ.n by rw [hn]; exact hd2)
  unfold wpList
  rw [if_pos (wanted_none h3 _)]
  refine .inl ?_
  have hxv := hs.tmps t
  rw [hx] at hxv
  have ev1 : a.eval (.tmp t) = a.tmps.getD t undef := rfl
  generalize a.tmps.getD t undef = u at hxv ev1
  cases hxv with
  | pure hp => cases hp
  | ptr _ _ bb c hl =>
    have hob := hs.objs o
    rw [ho] at hob
    have hlive : (σ.obj o).live = true := by rw [ho]; rfl
    obtain ⟨b', g1, ⟨s, seen, l, g2, rfl, rfl, rfl⟩ | ⟨m, es, clock, seen, g2, g3, g4, g5, g6, g7, g8⟩⟩ := hob
    · rw [hl] at g1; cases g1
      refine wp_val (x := .tuple #[.bool false]) (w' := w) ?_ (second σ false _ w I rfl (by simp [Instr.extract]) hs (hend rfl rfl))
      simp only [execOp, h1, ev1]
      simp [Instr.next, getObj, Sem.run_bind, Sem.run, g2, Result.andThen]
    · rw [hl] at g1; cases g1
      have hkl : ks.length = (es.toList.filter (fun e => !seen.contains e.born)).length := g6.1.trans g6.2.1
      have hxl := g6.2.1
      have hlo : (leftOf es seen).toList = es.toList.filter (fun e => !seen.contains e.born) := by simp [leftOf]
      rcases run_next_at (P := P) w o1.type bb m clock clock seen es clock g2 g4 (fun x hx => g5.2.2.2.2.2 x hx) (Nat.le_refl _) with ⟨q1, q2⟩ | ⟨e, q1, w1, q2, q3⟩
      · have hnil : (es.toList.filter (fun e => !seen.contains e.born)).length = 0 := by rw [← hlo]; simpa using q1
        have hk0 : ks = [] := List.eq_nil_of_length_eq_zero (by omega)
        have hx0 : xs = [] := List.eq_nil_of_length_eq_zero (by omega)
        refine wp_val (x := .tuple #[.bool false]) (w' := w) ?_ (second σ false _ w I rfl (by simp [Instr.extract]) hs (hend hk0 hx0))
        simp only [execOp, h1, ev1]
        simp only [Sem.run_bind, q2, Result.andThen_ok, Sem.run_pure]
      · rw [hlo] at q1
        obtain ⟨i0, hi, rfl⟩ := List.getElem_of_mem q1
        have hin : ((es.toList.filter (fun e => !seen.contains e.born))[i0]).key ∈ ks := (keys_sub g6 g7).2 (List.mem_map.2 ⟨_, List.getElem_mem hi, rfl⟩)
        obtain ⟨i, hik, hki⟩ := List.getElem_of_mem hin
        have hix : i < xs.length := by have := g6.1; omega
        have hpv : PR w I xs[i] ((es.toList.filter (fun e => !seen.contains e.born))[i0]).val := by
          obtain ⟨e', r1, r2, r3⟩ := g7 i hik hix
          have : e' = (es.toList.filter (fun e => !seen.contains e.born))[i0] := entry_unique g6.2.2.2.1 r1 (List.getElem_mem hi) (by rw [r2, hki])
          rw [← this]; exact r3
        have hw1 : SR E I loc σ a w1 := by
          rcases q2 with rfl | rfl
          · exact hs
          · exact hs.heap rfl rfl rfl rfl
        have g2' : w1.heap[bb]? = some (.mapIter (some m) clock seen clock) := by rcases q2 with rfl | rfl <;> exact g2
        have g4' : w1.heap[m]? = some (.map es clock) := by rcases q2 with rfl | rfl <;> exact g4
        have hheap : w1.heap = w.heap := by rcases q2 with rfl | rfl <;> rfl
        have hblt : bb < w1.heap.size := (Array.getElem?_eq_some_iff.1 g2').1
        have hmb : m ≠ bb := fun e => by rw [e] at g4; rw [g2] at g4; cases g4
        let ob : Obj := .mapIter (some m) clock (seen.push ((es.toList.filter (fun e => !seen.contains e.born))[i0]).born) clock
        have hmono : ∀ k, I k → (ChangeMaps.setBlock w1 bb ob).heap[k]? = w1.heap[k]? := fun k hk => by
          have : bb ≠ k := fun e => (hs.sep o bb 0 hlive hl).1 (e ▸ hk)
          simp [ChangeMaps.setBlock, Array.getElem?_setIfInBounds, this]
        have hmono' : ∀ k, I k → (ChangeMaps.setBlock w1 bb ob).heap[k]? = w.heap[k]? := fun k hk => by rw [hmono k hk, hheap]
        have hset : (ChangeMaps.setBlock w1 bb ob).heap[bb]? = some ob := by simp [ChangeMaps.setBlock, hblt]
        have hleft := left_push es.toList seen i0 hi g5.2.2.2.2.1
        have hsw : SR E I loc (σ.setO o (.iter (some (ks[i], xs[i])) (ks.eraseIdx i) (xs.eraseIdx i))) a (ChangeMaps.setBlock w1 bb ob) := by
          refine hw1.writeG (w' := ChangeMaps.setBlock w1 bb ob) (A := .iter (some (ks[i], xs[i])) (ks.eraseIdx i) (xs.eraseIdx i)) hlive hl rfl rfl rfl (by simp [ChangeMaps.setBlock]) (fun k hk => by simp [ChangeMaps.setBlock, Array.getElem?_setIfInBounds, hk.symm]) ⟨bb, hl, .inr ⟨m, es, clock, seen.push ((es.toList.filter (fun e => !seen.contains e.born))[i0]).born, hset, g3, ?_, g5, ?_, ?_, ?_⟩⟩ (by simp)
          · rw [hmono m g3]; exact g4'
          · rw [hleft]
            have hsub := List.eraseIdx_sublist (es.toList.filter (fun e => !seen.contains e.born)) i0
            refine ⟨?_, ?_, g6.2.2.1.sublist (List.eraseIdx_sublist _ _), g6.2.2.2.1.sublist (hsub.map _), g6.2.2.2.2.1.sublist hsub, fun e he => g6.2.2.2.2.2 e (hsub.subset he)⟩
            · rw [List.length_eraseIdx_of_lt hix, List.length_eraseIdx_of_lt hik]; have := g6.1; omega
            · rw [List.length_eraseIdx_of_lt hix, List.length_eraseIdx_of_lt hi, hxl]
          · rw [hleft]
            have step : ∀ j (hj : j < ks.length) (hj' : j < xs.length), j ≠ i → ∃ e, e ∈ (es.toList.filter (fun e => !seen.contains e.born)).eraseIdx i0 ∧ e.key = ks[j] ∧ PR (ChangeMaps.setBlock w1 bb ob) I xs[j] e.val := fun j hj hj' hne => by
              obtain ⟨e, r1, r2, r3⟩ := g7 j hj hj'
              obtain ⟨m', hm', rfl⟩ := List.getElem_of_mem r1
              refine ⟨_, List.mem_eraseIdx_iff_getElem.2 ⟨m', hm', fun e => ?_, rfl⟩, r2, r3.mono hmono' (fun _ x => x)⟩
              subst e
              rw [← hki] at r2
              exact hne ((nodup_inj g6.2.2.1).1 r2).symm
            intro j hj hj'
            rw [List.length_eraseIdx_of_lt hik] at hj
            simp only [List.getElem_eraseIdx]
            by_cases hji : j < i
            · simp only [dif_pos hji]; exact step j (by omega) (by omega) (by omega)
            · simp only [dif_neg hji]; exact step (j + 1) (by omega) (by have := g6.1; omega) (by omega)
          · rintro p hp
            cases hp
            exact ⟨_, (List.mem_filter.1 (List.getElem_mem hi)).1, by simp, hki.symm, hpv.mono hmono' (fun _ x => x)⟩
        have fin : ∀ (kk vv : Value) (w2 : World), (Instr.next (.pointer (some ⟨bb, 0, none⟩)) false o1.type).run P w = .ok (.tuple #[.bool true, kk, vv]) w2 → SR E I loc (σ.setO o (.iter (some (ks[i], xs[i])) (ks.eraseIdx i) (xs.eraseIdx i))) a w2 →
            o1.wp P a w (wpList P #[o1, o2] (lift E Q) [o2]) (lift E Q) := fun kk vv w2 hq hw2 =>
          wp_val (x := .tuple #[.bool true, kk, vv]) (w' := w2) (by simp only [execOp, h1, ev1]; simp only [Sem.run_bind, hq, Result.andThen_ok, Sem.run_pure])
            (second (σ.setO o (.iter (some (ks[i], xs[i])) (ks.eraseIdx i) (xs.eraseIdx i))) true (.tuple #[.bool true, kk, vv]) w2 I rfl (by simp [Instr.extract]) hw2 (hstep i hik hix))
        exact fin _ _ _ q3 hsw
end
def fpsF (H : Nat → AObj) (m : List (Option Nat)) (ex : List Nat) : List AObj → List Nat → Prop
 | [], [] => True
 | A :: r, o :: r' => A.live = true ∧ OXpF H m ex A (H o) ∧ fpsF H m ex r r'
 | _, _ => False
theorem fpsF.sound {H : Nat → AObj} {m : List (Option Nat)} {ex : List Nat} : ∀ {fp : List AObj} {ids : List Nat}, fpsF H m ex fp ids → fp.length = ids.length ∧ ∀ k (h : k < fp.length), fp[k].live = true ∧ OXp H (rhoL m) (· ∈ ex) fp[k] (H (ids.getD k 0))
 | [], [], _ => ⟨rfl, fun k h => by simp at h⟩
 | A :: r, o :: r', h => by
  obtain ⟨h1, h2⟩ := fpsF.sound h.2.2
  refine ⟨by simp [h1], fun k hk => ?_⟩
  cases k with
  | zero => exact ⟨h.1, OXpF.sound h.2.1⟩
  | succ k => simpa using h2 k (by simpa using hk)
theorem rho_ids (ids : List Nat) : rhoL (ids.map some) = idsRho ids := by
 funext k
 unfold rhoL idsRho
 by_cases h : k < ids.length
 ·simp [h, List.getD]
 ·simp [h]
theorem callB_of {P : Program} {f : FuncId} {avs : List AV} {H : Nat → AObj} {nx : Nat} {K : Cont} (ids ex : List Nat) {args : List AV} {fp : List AObj} {r : AV} {out : List AObj} (sp : Spec P f args fp r out)
  (h1 : ids.Nodup) (h2 : XpL H (ids.map some) ex args avs) (h3 : fpsF H (ids.map some) ex fp ids) (h4 : ∀ o, o ∈ ex → o ∉ ids) (h5 : ex = [] ∨ (Scal r ∧ ∀ A, A ∈ out → ScalO A))
  (h6 : ∀ j, j < out.length - ids.length → H (nx + j) = .unb) (h7 : ∀ A, A ∈ out → A ≠ .unb) (hk : K (r.ren (backId ids nx)) (ids ++ ex ++ newIds ids nx out) (backObjs ids nx out)) : callB P f avs H nx K := by
 refine ⟨ids, ex, args, fp, r, out, ⟨sp, h1, h4, ?_, (fpsF.sound h3).1, fun k h => ?_, h5, h6, h7⟩, hk⟩
 ·rw [← rho_ids]; exact XpL.all2 h2
 ·rw [← rho_ids]; exact (fpsF.sound h3).2 k h
theorem All2.refl {R : AV → AV → Prop} (h : ∀ x, R x x) : ∀ xs, All2 R xs xs
 | [] => .nil
 | x :: r => .cons (h x) (All2.refl h r)
theorem call_of {P : Program} {f : FuncId} {avs : List AV} {H : Nat → AObj} {nx : Nat} {K : Cont} (ids ex : List Nat) {args : List AV} {fp : List AObj} {r : AV} {out : List AObj} (sp : Spec P f args fp r out)
  (h1 : ids.Nodup) (h2 : XpL H (ids.map some) ex args avs) (h3 : fpsF H (ids.map some) ex fp ids) (h4 : ∀ o, o ∈ ex → o ∉ ids) (h5 : ex = [] ∨ (Scal r ∧ ∀ A, A ∈ out → ScalO A))
  (h6 : ∀ j, j < out.length - ids.length → H (nx + j) = .unb) (h7 : ∀ A, A ∈ out → A ≠ .unb) (hk : K (r.ren (backId ids nx)) (ids ++ ex ++ newIds ids nx out) (backObjs ids nx out)) : callA P f avs H nx K := by
 refine ⟨[], avs, All2.refl (fun x => Xp.refl H _ x) avs, ?_⟩
 have e : (fun o => if o ∈ ([] : List Nat) then AObj.dead else H o) = H := by funext o; simp
 rw [e]
 exact callB_of ids ex sp h1 h2 h3 h4 h5 h6 h7 hk
theorem All2.map {R : AV → AV → Prop} {f : AV → AV} : ∀ {xs : List AV}, (∀ x, x ∈ xs → R (f x) x) → All2 R (xs.map f) xs
 | [], _ => .nil
 | x :: r, h => .cons (h x (by simp)) (All2.map (fun y hy => h y (by simp [hy])))
theorem call_frz {P : Program} {f : FuncId} {avs : List AV} {H : Nat → AObj} {nx : Nat} {K : Cont} (h : callB P f (avs.map fun x => (frzV H 3 x).1) (fun o => if o ∈ (avs.map fun x => (frzV H 3 x).2).flatten then .dead else H o) nx
  (fun v rd wr => K v ((avs.map fun x => (frzV H 3 x).2).flatten ++ rd) (deads (avs.map fun x => (frzV H 3 x).2).flatten ++ wr))) : callA P f avs H nx K :=
 ⟨_, _, All2.map (fun x hx => frzV_Xp H _ 3 x (fun o ho => List.mem_flatten.2 ⟨_, List.mem_map.2 ⟨x, hx, rfl⟩, ho⟩)), h⟩
attribute [go_sem] fpsF
end Go.Abs

namespace Go.Abs
open Go
def andO (a b : Option Bool) : Option Bool := a.bind fun r => if r = true then b else some false
def eqV (P : Program) : Nat → TypeId → List Value → List Value → Option Bool
  | 0, _, _, _ => none
  | d + 1, t, xs, ys => match P.underlying t, xs, ys with
    | some (.int _), [.int k a], [.int k' b] => if k = k' then some (a == b) else none
    | some .bool, [.bool a], [.bool b] => some (a == b)
    | some .string, [.string a], [.string b] => some (a == b)
    | some (.struct fs), xs, ys => if P.stoodInHeld t = true then none else
        fs.toList.foldr (fun f acc => if f.name = "_" then none else match sizeT P f.type with
          | some n => if f.offset + n ≤ xs.length ∧ f.offset + n ≤ ys.length then andO (eqV P d f.type ((xs.drop f.offset).take n) ((ys.drop f.offset).take n)) acc else none
          | none => none) (some true)
    | _, _, _ => none
def valOf (P : Program) (t : TypeId) (xs : List Value) : Value := match P.underlying t with
 | some (.struct _) => .agg xs.toArray
 | _ => xs.getD 0 undef
theorem part_valOf {P : Program} {w : World} {t n off : Nat} {xs : List Value} {u : TypeDesc} (hu : P.underlying t = some u) (hn : sizeT P t = some n) (hp : (∃ fs, u = .struct fs) ∨ ((∀ fs, u ≠ .struct fs) ∧ (∀ m e, u ≠ .array m e) ∧ off < xs.length ∧ 0 < n)) :
    (part t xs.toArray off).run P w = .ok (valOf P t ((xs.drop off).take n)) w := by
  rcases hp with ⟨fs, rfl⟩ | ⟨h1, h2, h3, h4⟩
  · have : isAggT P t = some true := by unfold isAggT; rw [hu]
    obtain ⟨e, hp⟩ := run_part (P := P) (w := w) (vs := xs.toArray) (off := off) this
    rw [hp]
    simp only [if_true, valOf, hu, Sem.run_bind, run_sizeOf hn, Result.andThen_ok, Sem.run_pure]
    congr 2
    apply Array.ext'
    simp [Array.toList_extract, List.extract]
  · have : isAggT P t = some false := by
      unfold isAggT; rw [hu]
      cases u with
      | struct fs => exact absurd rfl (h1 fs)
      | array m e => exact absurd rfl (h2 m e)
      | _ => rfl
    obtain ⟨e, hp⟩ := run_part (P := P) (w := w) (vs := xs.toArray) (off := off) this
    rw [hp]
    have hv : valOf P t ((xs.drop off).take n) = xs[off] := by
      unfold valOf
      rw [hu]
      cases u with
      | struct fs => exact absurd rfl (h1 fs)
      | _ => simp [List.getD, List.getElem?_take, h4, h3]
    rw [hv]
    simp [h3]
theorem eqV_sound {P : Program} : ∀ (d : Nat) (t : TypeId) (xs ys : List Value) (r : Bool), eqV P d t xs ys = some r → ∀ (dd : Nat) (w : World), (Op.equalIn (dd + d) t (valOf P t xs) (valOf P t ys)).run P w = .ok r w
 | 0, t, xs, ys, r, h, _, _ => by simp [eqV] at h
 | d + 1, t, xs, ys, r, h, dd, w => by
  unfold eqV at h
  split at h
  ·rename_i k0 k a k' b hu
   split at h
   ·rename_i hk; subst hk
    cases h
    have e : ∀ v : Value, valOf P t [v] = v := fun v => by simp [valOf, hu]
    rw [e, e]
    exact run_equalIn_int w (dd + d) t k k0 a b hu
   ·cases h
  ·rename_i a b hu
   cases h
   have e : ∀ v : Value, valOf P t [v] = v := fun v => by simp [valOf, hu]
   rw [e, e]
   exact run_equalIn_bool' w (dd + d) t a b hu
  ·rename_i a b hu
   cases h
   have e : ∀ v : Value, valOf P t [v] = v := fun v => by simp [valOf, hu]
   rw [e, e, beq_toListBytes]
   exact run_equalIn_string w (dd + d) t a b hu
  ·rename_i xs ys _ _ _ fs hu
   split at h
   ·cases h
   ·rename_i hst
    have hf : P.fieldsOf t = fs := by unfold Program.fieldsOf; rw [hu]
    have hv : ∀ zs : List Value, valOf P t zs = .agg zs.toArray := fun zs => by simp [valOf, hu]
    rw [hv, hv, show dd + (d + 1) = (dd + d) + 1 from rfl, run_equalIn_struct w (dd + d) t _ _ (by rw [hf]; exact hu) (by simpa using hst), hf]
    generalize fs.toList = l at h
    clear hf hu
    induction l generalizing r with
    | nil => simp at h; subst h; simp [Op.eqFields]
    | cons f l ih =>
     simp only [List.foldr_cons] at h
     split at h
     ·cases h
     ·rename_i hn
      cases hs : sizeT P f.type with
      | none => rw [hs] at h; cases h
      | some n =>
       rw [hs] at h
       simp only at h
       split at h
       ·rename_i hfit
        cases hr : eqV P d f.type ((xs.drop f.offset).take n) ((ys.drop f.offset).take n) with
        | none => rw [hr] at h; cases h
        | some r1 =>
         rw [hr] at h
         have hpart : ∀ zs : List Value, f.offset + n ≤ zs.length → (part f.type zs.toArray f.offset).run P w = .ok (valOf P f.type ((zs.drop f.offset).take n)) w := fun zs hz => by
          have hd : d ≠ 0 := fun e => by subst e; simp [eqV] at hr
          obtain ⟨d', rfl⟩ := Nat.exists_eq_succ_of_ne_zero hd
          unfold eqV at hr
          have h1 : ∀ {v : Value} {l : List Value}, l = [v] → l = (xs.drop f.offset).take n → 0 < n := fun {v l} e1 e2 => by
           rcases Nat.eq_zero_or_pos n with h0 | h0
           ·subst h0; rw [e1] at e2; simp at e2
           ·exact h0
          split at hr
          ·rename_i hu' hx _; have := h1 rfl hx.symm; exact part_valOf hu' hs (.inr ⟨fun _ => by simp, fun _ _ => by simp, by omega, this⟩)
          ·rename_i hu' hx _; have := h1 rfl hx.symm; exact part_valOf hu' hs (.inr ⟨fun _ => by simp, fun _ _ => by simp, by omega, this⟩)
          ·rename_i hu' hx _; have := h1 rfl hx.symm; exact part_valOf hu' hs (.inr ⟨fun _ => by simp, fun _ _ => by simp, by omega, this⟩)
          ·rename_i hu'; exact part_valOf hu' hs (.inl ⟨_, rfl⟩)
          ·cases hr
         have IH := eqV_sound d f.type _ _ _ hr dd w
         simp only [Op.eqFields, ne_eq, hn, not_false_eq_true, if_true, Sem.run_bind, hpart xs hfit.1, hpart ys hfit.2, Result.andThen_ok, IH]
         cases r1 with
         | false => simp [andO] at h; subst h; simp
         | true =>
          simp [andO] at h
          simpa using ih r h
       ·cases h
  ·cases h
theorem EqRun_of {P : Program} {t d : Nat} {xs ys : List Value} {r : Bool} {fs : Array Field} (hd : d ≤ 10000) (hu : P.underlying t = some (.struct fs)) (hg : P.eqGuardType P.depth t = false) (h : eqV P d t xs ys = some r) : EqRun P t xs ys r := by
 intro x y w
 have hv : ∀ zs : List Value, valOf P t zs = .agg zs.toArray := fun zs => by simp [valOf, hu]
 have key := eqV_sound d t xs ys r h (10000 - d) w
 rw [hv, hv, show 10000 - d + d = 10000 by omega] at key
 refine ⟨?_, ?_⟩
 ·rw [Sem.run_bind, run_eqGuard_agg w .eql t x y _ _ hg, Result.andThen_ok, run_eql_struct, key]; rfl
 ·rw [Sem.run_bind, run_eqGuard_agg w .neq t x y _ _ hg, Result.andThen_ok, run_neq_struct, key]; rfl
def eqTB (P : Program) (t : TypeId) : Bool := structB P t && !(P.eqGuardType P.depth t)
theorem eqC_V {P : Program} {t : Nat} {xs ys : List Value} {r : Bool} (ht : eqTB P t = true) (h : eqV P 5 t xs ys = some r) : eqC P t xs ys = some r := by
 unfold eqTB structB at ht
 simp only [Bool.and_eq_true, Bool.not_eq_true'] at ht
 obtain ⟨h1, h2⟩ := ht
 split at h1
 ·rename_i fs hu
  exact eqC_of (EqRun_of (by omega) hu h2 h)
 ·cases h1
end Go.Abs

namespace Go.Abs
open Go
abbrev FR (l : Nat) : Fence := Fence.wide.inRound l
theorem callsIn_FR {l n : Nat} {P : Program} {f : FuncId} {args : Array Value} {w : World} {R : Ending → World → Prop} (h : Calls P f args w R) : CallsIn (FR l) n P f args w R :=
 CallsIn.inRound l (callsIn_wide.2 h)
theorem rowsIn_FR {l n : Nat} {P : Program} {row : String} {args : Array Value} {w : World} {R : Value → World → Prop} (h : Rows P row args w R) : RowsIn (FR l) n P row args w R :=
 fun c cs _ => let ⟨v, w', r, s⟩ := h c cs; ⟨v, w', r, stepsIn_wide.2 s⟩
theorem rowsIn_W {n : Nat} {P : Program} {row : String} {args : Array Value} {w : World} {R : Value → World → Prop} (h : Rows P row args w R) : RowsIn Fence.wide n P row args w R :=
 fun c cs _ => let ⟨v, w', r, s⟩ := h c cs; ⟨v, w', r, stepsIn_wide.2 s⟩
theorem upon_W {P : Program} {o : Oper} {a : Act} {next : Act → World → Prop} {Q : Exit → Act → World → Prop} {x : Result Next} (h : o.upon P a next Q x) : o.uponIn Fence.wide 0 P a next Q x := by
  cases x with
  | ok x w' => cases x <;> first
      | exact h
      | exact h.elim
      | exact ⟨fun h => by simp [Fence.wide] at h, callsIn_wide.2 h⟩
      | exact ⟨fun h => by simp [Fence.wide] at h, rowsIn_W h⟩
  | halt x w' => cases x <;> first | exact h | exact h.elim
theorem upon_FR {l : Nat} {P : Program} {o : Oper} {a : Act} {next : Act → World → Prop} {Q : Exit → Act → World → Prop} {x : Result Next} (h : o.upon P a next Q x) : o.uponIn (FR l) 0 P a next Q x := by
  cases x with
  | ok x w' => cases x <;> first
      | exact h
      | exact h.elim
      | exact ⟨fun h => by simp [FR, Fence.wide] at h, callsIn_FR h⟩
      | exact ⟨fun h => by simp [FR, Fence.wide] at h, rowsIn_FR h⟩
  | halt x w' => cases x <;> first | exact h | exact h.elim
theorem evOp_nodefer {P : Program} {o : Oper} {ev : Operand → AV} {H : Nat → AObj} {nx : Nat} {K : Cont} (h : evOp P o ev H nx K) : ∀ c, o.op ≠ .defer c := by
 intro c e
 unfold evOp at h
 rw [e] at h
 exact h
theorem wp_W {P : Program} {o : Oper} {a : Act} {w : World} {next : Act → World → Prop} {Q : Exit → Act → World → Prop} (h : o.wp P a w next Q) : o.wpIn Fence.wide 0 P a w next Q :=
 ⟨fun _ _ => trivial, by rw [Fence.wide_round, Oper.semAt_none]; exact upon_W h⟩
theorem wp_FR {l : Nat} {P : Program} {o : Oper} {a : Act} {w : World} {next : Act → World → Prop} {Q : Exit → Act → World → Prop} (hd : ∀ c, o.op ≠ .defer c) (h : o.wp P a w next Q) : o.wpIn (FR l) 0 P a w next Q :=
 ⟨fun _ _ => trivial, by rw [Oper.semAt_eq _ _ _ hd]; exact upon_FR h⟩
section
variable {P : Program} {E : Env}
theorem runOps_FR {l : Nat} {all : List Oper} {K : AS → List Touch → Prop} {Q : Exit → Act → World → Prop} (hK : ∀ σ ts a w, K σ ts → St E σ a w → Q .normal a w) :
  ∀ (ops : List Oper) (σ : AS) (ts : List Touch) (a : Act) (w : World), runOps P all K ops σ ts → St E σ a w → wpListIn (FR l) 0 P all.toArray Q ops a w
 | [], σ, ts, a, w, h, hs => hK σ ts a w h hs
 | o :: rest, σ, ts, a, w, h, ⟨I, loc, hs⟩ => by
  unfold wpListIn
  rcases guard_sound hs h with ⟨hw, hd, he⟩ | ⟨hw, hd, hr⟩
  ·rw [if_pos hw]
   exact wp_FR (evOp_nodefer he) (evOp_sound hs he (fun d e => by rw [e] at hd; exact hd) (fun v rd wr a' w' hk hst => runOps_FR hK rest _ _ a' w' hk hst))
  ·rw [hw, if_neg (by simp)]
   exact ⟨fun _ _ => trivial, runOps_FR hK rest _ _ _ _ hr ⟨I, loc, hs.putD undef_VR (fun d e => by rw [e] at hd; exact hd)⟩⟩
theorem runOps_pre {all : List Oper} {K : AS → List Touch → Prop} {Q : Exit → Act → World → Prop} {post : List Oper} (hK : ∀ σ ts a w, K σ ts → St E σ a w → wpListIn Fence.wide 0 P all.toArray Q post a w) :
  ∀ (ops : List Oper) (σ : AS) (ts : List Touch) (a : Act) (w : World), runOps P all K ops σ ts → St E σ a w → wpListIn Fence.wide 0 P all.toArray Q (ops ++ post) a w
 | [], σ, ts, a, w, h, hs => hK σ ts a w h hs
 | o :: rest, σ, ts, a, w, h, ⟨I, loc, hs⟩ => by
  rw [List.cons_append]
  unfold wpListIn
  rcases guard_sound hs h with ⟨hw, hd, he⟩ | ⟨hw, hd, hr⟩
  ·rw [if_pos hw]
   exact wp_W (evOp_sound hs he (fun d e => by rw [e] at hd; exact hd) (fun v rd wr a' w' hk hst => runOps_pre hK rest _ _ a' w' hk hst))
  ·rw [hw, if_neg (by simp)]
   exact ⟨fun _ _ => trivial, runOps_pre hK rest _ _ _ _ hr ⟨I, loc, hs.putD undef_VR (fun d e => by rw [e] at hd; exact hd)⟩⟩
def HoldR (l : Nat) (P : Program) (E : Env) (c : Code) (Q : Exit → AS → Prop) (σ : AS) : Prop := ∀ a w, St E σ a w → c.wpIn (FR l) 0 P (lift E Q) a w
end
section
variable {l : Nat} {P : Program} {E : Env} {Q : Exit → AS → Prop} {σ : AS}
theorem HoldR.mono {c : Code} {Q' : Exit → AS → Prop} (h : HoldR l P E c Q σ) (hq : ∀ e σ, Q e σ → Q' e σ) : HoldR l P E c Q' σ :=
 fun a w hs => wpIn_mono (h a w hs) (fun e _ _ ⟨σ', h1, h2⟩ => ⟨σ', hq e σ' h1, h2⟩)
theorem holdR_block {id : Nat} {c : Code} (h : HoldR l P E c (inBlockA id Q) σ) : HoldR l P E (.block id c) Q σ := fun a w hs =>
 wpIn_block (wpIn_mono (h a w hs) (fun e a w ⟨σ', h1, h2⟩ => by
  cases e with
  | exit j =>
   simp only [inBlockA] at h1
   simp only [Exit.inBlock]
   split
   ·rename_i hj; rw [if_pos hj] at h1; exact ⟨σ', h1, h2⟩
   ·rename_i hj; rw [if_neg hj] at h1; exact ⟨σ', h1, h2⟩
  | _ => exact ⟨σ', h1, h2⟩))
theorem holdR_region {id : Nat} {ops : List Oper} (h : runOps P ops (fun σ' _ => Q .normal σ') ops σ []) : HoldR l P E (.region id ops.toArray false) Q σ := fun a w hs =>
 wpIn_region_list (runOps_FR (fun σ' _ a' w' h1 h2 => ⟨σ', h1, h2⟩) ops σ [] a w h hs)
end
def putArgs (tmps : Array Value) (ps : Array Tmp) (vs : Array Value) : Array Value := (ps.zip vs).foldl (fun tmps (t, a) => tmps.setIfInBounds t a) tmps
def roundC (P : Program) (loc : Nat → Loc) (vs : Array Value) (w : World) (R : Ending → World → Prop) : Prop :=
 ∃ l c r, loc 0 = .blk l c ∧ w.heap[l]? = some (.loop r) ∧ vs.size = r.params.size ∧ RoundIn Fence.wide 0 P l r.fn (putArgs r.tmps r.params vs) r.assign r.body w R
theorem roundC.mono {P : Program} (loc : Nat → Loc) (vs : Array Value) (w : World) (R R' : Ending → World → Prop) (h : ∀ e w', R e w' → R' e w') (hc : roundC P loc vs w R) : roundC P loc vs w R' :=
 let ⟨l, c, r, h1, h2, h3, h4⟩ := hc
 ⟨l, c, r, h1, h2, h3, h4.mono h⟩
def YSpec (P : Program) (args : List AV) (fp : List AObj) (r : AV) (out : List AObj) : Prop := SpecX (roundC P) args fp r out
def putEnv (env : List (Nat × AV)) : List Tmp → List AV → List (Nat × AV)
 | t :: ts, x :: xs => putEnv ((t, x) :: env) ts xs
 | _, _ => env
theorem putArgs_VR {w : World} {I : Nat → Prop} {loc : Nat → Loc} {n : Nat} : ∀ (ts : List Tmp) (xs : List AV) (vs : List Value) (env : List (Nat × AV)) (tmps : Array Value), tmps.size = n → (∀ t, t ∈ ts → t < n) → (∀ t, VR w I loc (lkV env t) (tmps.getD t undef)) →
  xs.length = vs.length → (∀ i (h : i < xs.length) (h' : i < vs.length), VR w I loc xs[i] vs[i]) →
  ((ts.zip vs).foldl (fun tmps (p : Tmp × Value) => tmps.setIfInBounds p.1 p.2) tmps).size = n ∧ ∀ t, VR w I loc (lkV (putEnv env ts xs) t) (((ts.zip vs).foldl (fun tmps (p : Tmp × Value) => tmps.setIfInBounds p.1 p.2) tmps).getD t undef)
 | [], xs, vs, env, tmps, hn, _, he, _, _ => by
  refine ⟨by simpa using hn, fun t => ?_⟩
  have : putEnv env [] xs = env := by cases xs <;> rfl
  rw [this]; simpa using he t
 | t :: ts, [], [], env, tmps, hn, _, he, _, _ => ⟨by simpa using hn, fun t => by simpa [putEnv] using he t⟩
 | t :: ts, x :: xs, v :: vs, env, tmps, hn, ht, he, hl, hx => by
  have h0 : t < n := ht t (by simp)
  simp only [List.zip_cons_cons, List.foldl_cons, putEnv]
  refine putArgs_VR ts xs vs ((t, x) :: env) (tmps.setIfInBounds t v) (by simpa using hn) (fun u hu => ht u (by simp [hu])) (fun u => ?_) (by simpa using hl) (fun i h h' => by have := hx (i + 1) (by simpa using h) (by simpa using h'); simp only [List.getElem_cons_succ] at this; exact this)
  simp only [lkV]
  by_cases e : t = u
  ·subst e
   rw [if_pos rfl]
   have : (tmps.setIfInBounds t v).getD t undef = v := by
    have ht' : t < tmps.size := by rw [hn]; exact h0
    simp [ht']
   rw [this]
   have := hx 0 (by simp) (by simp)
   simp only [List.getElem_cons_zero] at this
   exact this
  ·rw [if_neg e]
   have : (tmps.setIfInBounds t v).getD u undef = tmps.getD u undef := by simp [Array.getElem?_setIfInBounds, e]
   rw [this]; exact he u
 | t :: ts, [], v :: vs, _, _, _, _, _, h, _ => by simp at h
 | t :: ts, x :: xs, [], _, _, _, _, _, h, _ => by simp at h
def endC : Exit → Option (Option Code)
 | .normal => some none
 | .ret => some (some .ret)
 | .exit id => some (some (.exit id))
 | .goto t => some (some (.goto t))
 | _ => none
def loopSt : Option (Option Code) → LoopState
 | none => .busy
 | some none => .ready
 | some (some _) => .done
theorem or_loop {w : World} {I : Nat → Prop} {loc : Nat → Loc} {o : Nat} {L : LoopK} {env : List (Nat × AV)} {p : Option (Option Code)} :
  OR w I loc o (.loopo L env p) ↔ ∃ b tmps ds, loc o = .blk b 0 ∧ w.heap[b]? = some (.loop { state := loopSt p, pending := p.getD none, fn := L.fn, tmps := tmps, params := L.params, assign := L.assign, body := L.body, defers := ds }) ∧ tmps.size = L.n ∧ ∀ t, VR w I loc (lkV env t) (tmps.getD t undef) := by
 cases p with
 | none => exact Iff.rfl
 | some q => cases q <;> exact Iff.rfl
theorem SR.loopSet {E : Env} {I : Nat → Prop} {loc : Nat → Loc} {σ : AS} {a : Act} {w : World} (h : SR E I loc σ a w) {o : Nat} {L : LoopK} {env : List (Nat × AV)} {p : Option (Option Code)} (ho : σ.obj o = .loopo L env p) (p' : Option (Option Code)) :
  ∃ b r, loc o = .blk b 0 ∧ w.heap[b]? = some (.loop r) ∧ r.fn = L.fn ∧ r.params = L.params ∧ r.assign = L.assign ∧ r.body = L.body ∧ r.state = loopSt p ∧ r.pending = p.getD none ∧
   r.tmps.size = L.n ∧ (∀ t, VR w I loc (lkV env t) (r.tmps.getD t undef)) ∧
   SR E I loc (σ.setO o (.loopo L env p')) a (w.putObj b (.loop { r with state := loopSt p', pending := p'.getD none })) := by
 have hob := h.objs o
 rw [ho] at hob
 obtain ⟨b, tmps, ds, h1, h2, h3, h4⟩ := or_loop.1 hob
 have hb : b < w.heap.size := (Array.getElem?_eq_some_iff.1 h2).1
 have hsep := (h.sep o b 0 (by rw [ho]; rfl) h1).1
 refine ⟨b, _, h1, h2, rfl, rfl, rfl, rfl, rfl, rfl, h3, h4, ?_⟩
 refine h.writeG (w' := w.putObj b (.loop { state := loopSt p', pending := p'.getD none, fn := L.fn, tmps := tmps, params := L.params, assign := L.assign, body := L.body, defers := ds })) (A := .loopo L env p') (by rw [ho]; rfl) h1 rfl rfl rfl (by simp) (fun k hk => heap_putObj hk) ?_ (by simp)
 refine or_loop.2 ⟨b, tmps, ds, h1, World.putObj_heap_same hb, h3, fun t => (h4 t).mono (fun k hk => heap_putObj (r := b) (fun e => hsep (by rw [← e]; exact hk))) (fun _ x => x) (fun _ _ => rfl)⟩
def RetY (n : Nat) (r : AV) (out : List AObj) (σ : AS) : Prop :=
 ∃ m ex, XpF σ.obj m ex r r ∧ objsF σ m ex out m ∧ onceB (liveM out m) = true ∧ ex.all (fun o => !m.contains (some o)) = true ∧ (List.range n).all (fun k => m[k]? == some (some k)) = true
theorem yspec_of {P : Program} {L : LoopK} {env : List (Nat × AV)} {rest : List AObj} {args : List AV} {out : List AObj} {j : Option Code} (hp : L.params.toList.all (fun t => decide (t < L.n)) = true) (hl : args.length = L.params.size)
  (h : ∀ E l, E.n = rest.length + 1 → HoldR l P E L.assign (fun e σ1 => e = .normal ∧ σ1.obj 0 = .loopo L env (some none) ∧ HoldR l P E L.body (fun e σ2 => σ2.obj 0 = .loopo L env none ∧ endC e = some j ∧ RetY (rest.length + 1) (.raw (.bool j.isNone)) out (σ2.setO 0 (.loopo L env (some j))))
   (σ1.setO 0 (.loopo L env none))) ⟨L.n, putEnv env L.params.toList args, numO 0 (.loopo L env (some none) :: rest)⟩) : YSpec P args (.loopo L env (some none) :: rest) (.raw (.bool j.isNone)) out := by
 intro w I loc vs hs hvl hv
 have hb0 : (Go.Abs.hs (.loopo L env (some none) :: rest)).obj 0 = .loopo L env (some none) := by rw [hs_obj]; rfl
 obtain ⟨b, r, g1, g2, g3, g4, g5, g6, g7, g8, g9, g10, _⟩ := hs.loopSet hb0 none
 have hsz : vs.size = r.params.size := by rw [g4, hvl, hl]
 refine ⟨b, 0, r, g1, g2, hsz, ?_⟩
 have hpt : ∀ t, t ∈ L.params.toList → t < L.n := fun t ht => by
  rw [List.all_eq_true] at hp
  have := hp t ht
  simpa using this
 obtain ⟨q1, q2⟩ := putArgs_VR (w := w) (I := I) (loc := loc) L.params.toList args vs.toList env r.tmps g9 hpt g10 (by simpa using hvl.symm) (fun i h h' => by have := hv i h (by simpa using h'); simpa using this)
 have hfold : putArgs r.tmps r.params vs = (L.params.toList.zip vs.toList).foldl (fun tmps (p : Tmp × Value) => tmps.setIfInBounds p.1 p.2) r.tmps := by
  unfold putArgs
  rw [g4, ← Array.foldl_toList, Array.toList_zip]
 rw [hfold]
 have hst : SR (envOf w I (rest.length + 1) loc) I loc ⟨L.n, putEnv env L.params.toList args, numO 0 (.loopo L env (some none) :: rest)⟩ { tmps := (L.params.toList.zip vs.toList).foldl (fun tmps (p : Tmp × Value) => tmps.setIfInBounds p.1 p.2) r.tmps, defers := [] } w :=
  ⟨.nil, q1, q2, hs.objs, hs.inj, hs.imm, hs.sep, hs.fr, hs.base, hs.top, hs.keep⟩
 have hrun := h (envOf w I (rest.length + 1) loc) b rfl _ w ⟨I, loc, hst⟩
 rw [g5, g6]
 refine roundIn_of_wpIn trivial (wpIn_mono hrun ?_)
 rintro e a1 w1 ⟨σ1, ⟨rfl, k1, k2⟩, I1, loc1, hs1⟩
 obtain ⟨b1, r1, m1, m2, m3, m4, m5, m6, m7, m8, m9, m10, m11⟩ := hs1.loopSet k1 none
 have hb1 : b1 = b := by
  have : loc1 0 = loc 0 := (hs1.keep 0 (Nat.succ_pos _)).1
  rw [m1, g1] at this; cases this; rfl
 subst hb1
 refine ⟨_, run_beginRound m2 (by rw [m7]; rfl), ?_⟩
 have hw : w1.putObj b1 (.loop { r1 with state := .busy }) = w1.putObj b1 (.loop { r1 with state := loopSt none, pending := Option.getD (none : Option (Option Code)) none }) := by
  have : r1.pending = none := m8
  simp only [loopSt, Option.getD_none, ← this]
 rw [hw]
 refine wpIn_mono (k2 a1 _ ⟨I1, loc1, m11⟩) ?_
 rintro e a2 w2 ⟨σ2, ⟨k3, k4, m, ex, t1, t2, t3, t4, t5⟩, I2, loc2, hs2⟩
 obtain ⟨b2, r2, n1, n2, n3, n4, n5, n6, n7, n8, n9, n10, n11⟩ := hs2.loopSet k3 (some j)
 have hb2 : b2 = b1 := by
  have : loc2 0 = loc 0 := (hs2.keep 0 (Nat.succ_pos _)).1
  rw [n1, g1] at this; cases this; rfl
 subst hb2
 have hend : (Instr.endRound b2 j).run P w2 = .ok (.bool j.isNone) (w2.putObj b2 (.loop { r2 with state := loopSt (some j), pending := (some j).getD none })) := by
  rw [run_endRound j n2]
  cases j <;> rfl
 have hweak : Weak (rest.length + 1) m ex (σ2.setO 0 (.loopo L env (some j))) σ2.n [] out := ⟨rfl, trivial, t2, t3, t4, t5⟩
 have hsr := WK.sound n11 hweak.wk.1 rfl hweak.wk.2
 have hval := Xp.sound n11 (XpF.sound t1) (.pure (.raw (.bool j.isNone) rfl))
 have hlen : rest.length + 1 ≤ out.length := by
  have h7 := (t2.sound).1
  rw [List.all_eq_true] at t5
  have := t5 rest.length (by simp)
  have hm : m[rest.length]? = some (some rest.length) := by simpa using this
  have := (List.getElem?_eq_some_iff.1 hm).1
  omega
 have hR : ∃ v I' loc', Ending.returned (.bool j.isNone) = .returned v ∧ Post w I loc (rest.length + 1) (.raw (.bool j.isNone)) out v (w2.putObj b2 (.loop { r2 with state := loopSt (some j), pending := (some j).getD none })) I' loc' := ⟨_, _, _, rfl, ⟨hsr.bare, hval, hlen⟩⟩
 cases e with
 | normal => cases k4; exact ⟨_, _, hend, hR⟩
 | ret => cases k4; exact ⟨_, _, hend, hR⟩
 | exit id => cases k4; exact ⟨_, _, hend, hR⟩
 | goto t => cases k4; exact ⟨_, _, hend, hR⟩
 | panic c => cases k4
 | outgrown => cases k4
end Go.Abs

namespace Go.Abs
open Go
def yieldA (P : Program) (y : AV) (avs : List AV) (H : Nat → AObj) (nx : Nat) (K : Cont) : Prop :=
 ∃ oid ids ex args fp r out, y = .yld oid ∧ ids.head? = some oid ∧ MetX (roundC P) avs H nx ids ex args fp r out ∧ K (r.ren (backId ids nx)) (ids ++ ex ++ newIds ids nx out) (backObjs ids nx out)
section
variable {P : Program} {E : Env} {I : Nat → Prop} {loc : Nat → Loc} {σ : AS} {a : Act} {w : World}
theorem yield_op (hs : SR E I loc σ a w) {o : Oper} {fo : Operand} {args : Array Operand} {ts : Array TypeId} (hop : o.op = .call ⟨.value fo, args, ts⟩) {nx : Nat} {K : Cont}
  (h : yieldA P (σ.ev fo) (args.toList.map σ.ev) σ.obj nx K) (hd : ∀ d, o.dst = some d → d < σ.n) {next : Act → World → Prop} {Q : Exit → Act → World → Prop}
  (hn : ∀ v rd wr a' w', K v rd wr → St E ((σ.writes wr).putD o.dst v) a' w' → next a' w') : o.wpIn Fence.wide 0 P a w next Q := by
 obtain ⟨oid, ids, ex, args', fp, r, out, hy, hh, hm, hK⟩ := h
 obtain ⟨g1, g2⟩ := evs_VR hs args
 have hfo := hs.ev fo
 rw [hy] at hfo
 generalize hfv : a.eval fo = fv at hfo
 obtain ⟨l, c, lp, h1, h2, h3, h4⟩ := callX_sound (C := roundC P) roundC.mono hs g1 g2 hm
 cases hfo with
 | pure hp => cases hp
 | yld _ b c' hb =>
  have h0 : locX (idsRho ids) loc 0 = loc oid := by
   cases ids with
   | nil => simp at hh
   | cons i r => simp at hh; subst hh; simp [locX, idsRho]
  rw [h0, hb] at h1
  cases h1
  refine ⟨fun _ _ => trivial, ?_⟩
  rw [Fence.wide_round, Oper.semAt_none]
  have hrun : (execOp a.eval o).run P w = .ok (.round l lp.fn (putArgs lp.tmps lp.params (args.map a.eval)) lp.assign lp.body) w := by
   simp only [execOp, hop, resolve, hfv, Deferred.ofValue, Sem.run_bind, Sem.run_pure, Result.andThen_ok, invoke, Array.empty_append]
   exact run_yield h2 h3
  rw [hrun, Oper.uponIn_round]
  refine ⟨fun h => by simp [Fence.wide] at h, h4.mono ?_⟩
  rintro e w' ⟨v, I', loc', rfl, hsr, hvr, _⟩
  exact hn _ _ _ _ _ hK ⟨I', loc', hsr.putD hvr (fun d e => by rw [(writes_get _ σ).1]; exact hd d e)⟩
theorem hold_yield {Q : Exit → AS → Prop} {id : Nat} {pre post : List Oper} {o : Oper} {fo : Operand} {args : Array Operand} {ts : Array TypeId} (hop : o.op = .call ⟨.value fo, args, ts⟩)
  (h : runOps P (pre ++ o :: post) (fun σ1 _ => guardA (pre ++ o :: post) σ1 o
   ((match o.dst with | some d => ltN d σ1.n | none => True) ∧ yieldA P (σ1.ev fo) (args.toList.map σ1.ev) σ1.obj σ1.nx (fun v _ wr => runOps P (pre ++ o :: post) (fun σ' _ => Q .normal σ') post ((σ1.writes wr).putD o.dst v) []))
   ((match o.dst with | some d => ltN d σ1.n | none => True) ∧ runOps P (pre ++ o :: post) (fun σ' _ => Q .normal σ') post (σ1.putD o.dst (.tup [])) [])) pre σ []) : Hold P E (.region id (pre ++ o :: post).toArray false) Q σ := fun a w hs => by
 refine wpIn_wide.1 (wpIn_region_list (n := 0) ?_)
 have tail : ∀ (ops : List Oper) (σ : AS) (a : Act) (w : World), runOps P (pre ++ o :: post) (fun σ' _ => Q .normal σ') ops σ [] → St E σ a w → wpListIn Fence.wide 0 P (pre ++ o :: post).toArray (lift E Q) ops a w := fun ops σ a w h hs => by
  have := runOps_pre (P := P) (E := E) (Q := lift E Q) (post := []) (all := pre ++ o :: post) (fun σ' _ a' w' h1 h2 => (⟨σ', h1, h2⟩ : lift E Q .normal a' w')) ops σ [] a w h hs
  simpa using this
 refine runOps_pre (post := o :: post) ?_ pre σ [] a w h hs
 rintro σ1 ts1 a1 w1 hg ⟨I1, loc1, hs1⟩
 unfold wpListIn
 rcases guard_sound hs1 hg with ⟨hw, hd, he⟩ | ⟨hw, hd, hr⟩
 ·rw [if_pos hw]
  exact yield_op hs1 hop he (fun d e => by rw [e] at hd; exact hd) (fun v rd wr a' w' hk hst => tail post _ a' w' hk hst)
 ·rw [hw, if_neg (by simp)]
  exact ⟨fun _ _ => trivial, tail post _ _ _ hr ⟨I1, loc1, hs1.putD undef_VR (fun d e => by rw [e] at hd; exact hd)⟩⟩
theorem SR.mark (h : SR E I loc σ a w) : SR E I loc σ { a with defers := { target := .collected w.heap.size, args := #[] } :: a.defers } (w.alloc (.deferred (some []))) := by
 have hI : ∀ b, I b → (w.alloc (.deferred (some []))).heap[b]? = w.heap[b]? := fun b hb => heap_alloc_lt _ _ _ (h.imm b hb)
 refine ⟨⟨?_, fun d hd => ?_⟩, h.size, fun t => (h.tmps t).mono hI (fun _ x => x) (fun _ _ => rfl), fun o => (h.objs o).mono hI (fun _ x => x) (fun _ _ => rfl) (fun e => h.un e) (fun hl b c hb => heap_alloc_lt _ _ _ ((h.objs o).lt hl hb)), h.inj, fun b hb => by have := h.imm b hb; simp; omega, h.sep, ?_, h.base, h.top, h.keep⟩
 ·simp only [List.map_cons, List.nodup_cons]
  refine ⟨fun hm => ?_, h.defers.1⟩
  obtain ⟨d, hd, e⟩ := List.mem_map.1 hm
  obtain ⟨r, rfl, h1, _⟩ := h.defers.2 d hd
  have := (Array.getElem?_eq_some_iff.1 h1).1
  simp at e; omega
 ·rcases List.mem_cons.1 hd with rfl | hd
  ·refine ⟨_, rfl, World.alloc_heap_new _ _, fun hi => by have := h.imm _ hi; omega, h.fr.size, fun o c hl e => ?_⟩
   have := (h.objs o).lt hl e; omega
  ·obtain ⟨r, rfl, h1, h2, h3, h4⟩ := h.defers.2 d hd
   have hr := (Array.getElem?_eq_some_iff.1 h1).1
   exact ⟨r, rfl, by rw [heap_alloc_lt _ _ _ hr]; exact h1, h2, h3, h4⟩
 ·exact h.fr.of_same rfl rfl rfl (by simp) (fun b hb _ => heap_alloc_lt _ _ _ (by have := h.fr.size; omega))
theorem VR_cons {x : AV} {v : Value} {caps : List AV} {vs : Array Value} (h0 : VR w I loc x v) (hl : caps.length = vs.size) (h : ∀ i (h : i < caps.length) (h' : i < vs.size), VR w I loc caps[i] vs[i]) :
  (x :: caps).length = (#[v] ++ vs).size ∧ ∀ i (h : i < (x :: caps).length) (h' : i < (#[v] ++ vs).size), VR w I loc (x :: caps)[i] (#[v] ++ vs)[i] := by
 refine ⟨by simp; omega, fun i h1 h2 => ?_⟩
 cases i with
 | zero =>
  have e : (#[v] ++ vs)[0] = v := by simp
  rw [e]; exact h0
 | succ i =>
  have hi : i < vs.size := by simp at h2; omega
  have e : (#[v] ++ vs)[i + 1] = vs[i] := by simp [Array.getElem_append]
  rw [e]; exact h i (by simpa using h1) hi
def rangeK (P : Program) (E : Env) (Q : Exit → AS → Prop) (nx : Nat) (σ : AS) : Prop :=
 ∃ L env p, σ.obj nx = .loopo L env (some p) ∧ (match p with
  | none => Q .normal (σ.setO nx .dead)
  | some c => Hold P E c Q (σ.setO nx .dead))
theorem hold_range {Q : Exit → AS → Prop} {g : Operand} {ps : Array Tmp} {assign body : Code} {f : FuncId} {caps : List AV} (hg : σ.ev g = .fn f caps) (hc : callable P f = true) {nx : Nat} (hnx : σ.obj nx = .unb)
  (h : ∀ fn, ∃ nx', callA P f (.yld nx :: caps) (σ.setO nx (.loopo ⟨fn, ps, assign, body, σ.n⟩ σ.env (some none))).obj nx' (fun _ _ wr => rangeK P E Q nx ((σ.setO nx (.loopo ⟨fn, ps, assign, body, σ.n⟩ σ.env (some none))).writes wr))) :
  Hold P E (.rangeFunc g ps assign body) Q σ := fun a w ⟨I, loc, hs⟩ => by
 refine wpIn_wide.1 (wpIn_rangeFunc (n := 0) (fun fn _ => ?_))
 obtain ⟨nx', hcall⟩ := h fn
 have hs1 := hs.mark
 have hor : OR ((w.alloc (.deferred (some []))).alloc (.loop { state := .ready, pending := none, fn, tmps := a.tmps, params := ps, assign, body, defers := w.heap.size })) I (locSet loc nx (.blk (w.alloc (.deferred (some []))).heap.size 0)) nx (.loopo ⟨fn, ps, assign, body, σ.n⟩ σ.env (some none)) := by
  refine or_loop.2 ⟨_, a.tmps, w.heap.size, by simp only [locSet, if_true], World.alloc_heap_new _ _, hs.size, fun t => ?_⟩
  exact (hs1.tmps t).mono (fun b hb => heap_alloc_lt _ _ _ (hs1.imm b hb)) (fun _ x => x) (fun o ho => by
   unfold locSet; rw [if_neg]; rintro rfl; exact ho (hs.un hnx))
 have hs2 := hs1.born hnx (.loop { state := .ready, pending := none, fn, tmps := a.tmps, params := ps, assign, body, defers := w.heap.size }) hor
 have hsz : (w.alloc (.deferred (some []))).heap.size = w.heap.size + 1 := by simp
 rw [hsz] at hs2
 have henter := run_enterLoop_outer (P := P) (w := w) fn a.tmps ps assign body
 generalize ((w.alloc (.deferred (some []))).alloc (.loop { state := .ready, pending := none, fn, tmps := a.tmps, params := ps, assign, body, defers := w.heap.size })) = W at hs2 henter
 have hgv := hs2.ev g
 have hge : (σ.setO nx (.loopo ⟨fn, ps, assign, body, σ.n⟩ σ.env (some none))).ev g = .fn f caps := by rw [← hg]; cases g <;> rfl
 rw [hge] at hgv
 have hev : (({ a with defers := { target := .collected w.heap.size, args := #[] } :: a.defers } : Act)).eval g = a.eval g := by cases g <;> rfl
 rw [hev] at hgv
 generalize hfv : a.eval g = fv at hgv
 cases hgv with
 | pure hp => cases hp
 | fn _ _ vs q1 q2 =>
  obtain ⟨z1, z2⟩ := VR_cons (x := .yld nx) (v := .func (.yield (w.heap.size + 1)) #[] #[]) (.yld _ _ 0 (by simp only [locSet, if_true])) q1 q2
  obtain ⟨r, rd, wr, hK, hcl⟩ := callA_soundK (vs := #[.func (.yield (w.heap.size + 1)) #[] #[]] ++ vs) hs2 z1 z2 hcall
  refine ⟨w.heap.size + 1, [{ target := .collected w.heap.size, args := #[] }], W, { target := .fn (.func f) vs, args := #[.func (.yield (w.heap.size + 1)) #[] #[]] }, W, f, #[.func (.yield (w.heap.size + 1)) #[] #[]] ++ vs, W, ?_, ?_, fun _ _ => trivial, ?_, ?_, ?_⟩
  ·rw [Fence.wide_round]; exact henter
  ·simp only [resolve, rangeCall, hfv, Deferred.ofValue, Sem.run_pure]
   simp [Act.eval]
  ·simp only [invoke]
   exact run_callFunc hc _
  ·intro h; simp [Fence.wide] at h
  ·refine callsIn_wide.2 (Calls.mono hcl ?_)
   rintro e w' ⟨v, I', loc', rfl, hsr, hvr, hkeep⟩
   obtain ⟨L, env, p, ho, hp⟩ := hK
   obtain ⟨b, rc, g1, g2, g3, g4, g5, g6, g7, g8, g9, g10, _⟩ := hsr.loopSet ho none
   have hb : b = w.heap.size + 1 := by
    have := hkeep nx (by simp [locSet])
    rw [g1] at this
    simp only [locSet, if_true] at this
    cases this; rfl
   subst hb
   refine ⟨rc.pending, _, run_endLoop g2 (by rw [g7]; cases p <;> simp [loopSt]), ?_⟩
   have hsr2 : SR E I' loc' ((((σ.setO nx (.loopo ⟨fn, ps, assign, body, σ.n⟩ σ.env (some none))).writes wr)).setO nx .dead) { a with defers := { target := .collected w.heap.size, args := #[] } :: a.defers } (w'.putObj (w.heap.size + 1) (.loop { rc with state := .exhausted })) :=
    hsr.writeG (w' := w'.putObj (w.heap.size + 1) (.loop { rc with state := .exhausted })) (by rw [ho]; rfl) g1 rfl rfl rfl (by simp) (fun k hk => heap_putObj hk) trivial (by simp)
   generalize (w'.putObj (w.heap.size + 1) (.loop { rc with state := .exhausted })) = W' at hsr2 ⊢
   rw [g8]
   cases p with
   | none => exact ⟨_, hp, I', loc', hsr2⟩
   | some c => exact wpIn_wide.2 (hp _ _ ⟨I', loc', hsr2⟩)
end
end Go.Abs

namespace Go.Abs
open Go
attribute [go_sem] nilCmp nilTest
section
variable {H : Nat → AObj} {m : List (Option Nat)} {ex : List Nat} {f : Nat → Nat} {n : Nat}
@[go_sem] theorem XpF_yld (k o : Nat) : XpF H m ex (.yld k) (.yld o) ↔ m[k]? = some (some o) := by simp only [XpF]
@[go_sem] theorem ren_yld (o : Nat) : AV.ren f (.yld o) = .yld (f o) := by simp only [AV.ren]
@[go_sem] theorem frzV_yld (o : Nat) : frzV H (n + 1) (.yld o) = (.yld o, []) := rfl
end
section
variable {P : Program} {f : FuncId} {args : List AV} {fp : List AObj} {r : AV} {out : List AObj}
theorem VR_nil_list {w : World} {I : Nat → Prop} {loc : Nat → Loc} {v : Value} (h : VR w I loc (.list []) v) : ∃ a c, v = .slice a 0 c := by
 have hp := h.toPR (.list _)
 cases hp with
 | nil a c => exact ⟨a, c, rfl⟩
 | list b off cap sz _ C => exact ⟨_, _, rfl⟩
theorem spec_nil1 (h : ∀ a c, Spec P f (.raw (.slice a 0 c) :: args) fp r out) : Spec P f (.list [] :: args) fp r out := by
 intro w I loc vs hs hl hv
 have h0 : 0 < vs.size := by rw [hl]; simp
 have hv0 := hv 0 (by simp) h0
 simp only [List.getElem_cons_zero] at hv0
 obtain ⟨a, c, e⟩ := VR_nil_list hv0
 refine h a c w I loc vs hs (by simpa using hl) (fun i hi hi' => ?_)
 cases i with
 | zero => simp only [List.getElem_cons_zero]; rw [e]; exact .pure (.raw _ rfl)
 | succ i =>
  have := hv (i + 1) (by simpa using hi) hi'
  simp only [List.getElem_cons_succ] at this ⊢
  exact this
end
end Go.Abs

namespace Go.Proofs
@[go_sem] theorem Tryz.sz3 : Abs.sizeT Tryz.prog 3 = some 1 := by kernel_rfl
@[go_sem] theorem Tryz.by3 : Abs.bytesT Tryz.prog 3 = some 8 := by kernel_rfl
@[go_sem] theorem Tryz.ze3 : Abs.zeroT Tryz.prog 3 = some (.int .i64 0) := by kernel_rfl
@[go_sem] theorem Tryz.sl22 : Abs.sliceT Tryz.prog 22 = some 105 := by kernel_rfl
@[go_sem] theorem Tryz.sz24 : Abs.sizeT Tryz.prog 24 = some 1 := by kernel_rfl
@[go_sem] theorem Tryz.by24 : Abs.bytesT Tryz.prog 24 = some 24 := by kernel_rfl
@[go_sem] theorem Tryz.ze24 : Abs.zeroT Tryz.prog 24 = some (.agg #[.slice none 0 0]) := by kernel_rfl
@[go_sem] theorem Tryz.sz26 : Abs.sizeT Tryz.prog 26 = some 2 := by kernel_rfl
@[go_sem] theorem Tryz.by26 : Abs.bytesT Tryz.prog 26 = some 16 := by kernel_rfl
@[go_sem] theorem Tryz.ze26 : Abs.zeroT Tryz.prog 26 = some (.agg #[.int .i64 0, .int .i64 0]) := by kernel_rfl
@[go_sem] theorem Tryz.sz28 : Abs.sizeT Tryz.prog 28 = some 7 := by kernel_rfl
@[go_sem] theorem Tryz.by28 : Abs.bytesT Tryz.prog 28 = some 56 := by kernel_rfl
@[go_sem] theorem Tryz.ze28 : Abs.zeroT Tryz.prog 28 = some (.agg #[.int .i64 0, .int .i64 0, .int .i64 0, .int .i64 0, .int .i64 0, .int .i64 0, .int .i64 0]) := by kernel_rfl
@[go_sem] theorem Tryz.sz29 : Abs.sizeT Tryz.prog 29 = some 1 := by kernel_rfl
@[go_sem] theorem Tryz.by29 : Abs.bytesT Tryz.prog 29 = some 24 := by kernel_rfl
@[go_sem] theorem Tryz.ze29 : Abs.zeroT Tryz.prog 29 = some (.slice none 0 0) := by kernel_rfl
@[go_sem] theorem Tryz.sl29 : Abs.sliceT Tryz.prog 29 = some 3 := by kernel_rfl
@[go_sem] theorem Tryz.sl35 : Abs.sliceT Tryz.prog 35 = some 24 := by kernel_rfl
@[go_sem] theorem Tryz.sl37 : Abs.sliceT Tryz.prog 37 = some 28 := by kernel_rfl
@[go_sem] theorem Tryz.sz50 : Abs.sizeT Tryz.prog 50 = some 1 := by kernel_rfl
@[go_sem] theorem Tryz.by50 : Abs.bytesT Tryz.prog 50 = some 24 := by kernel_rfl
@[go_sem] theorem Tryz.ze50 : Abs.zeroT Tryz.prog 50 = some (.slice none 0 0) := by kernel_rfl
@[go_sem] theorem Tryz.sl50 : Abs.sliceT Tryz.prog 50 = some 57 := by kernel_rfl
@[go_sem] theorem Tryz.sz57 : Abs.sizeT Tryz.prog 57 = some 3 := by kernel_rfl
@[go_sem] theorem Tryz.by57 : Abs.bytesT Tryz.prog 57 = some 24 := by kernel_rfl
@[go_sem] theorem Tryz.ze57 : Abs.zeroT Tryz.prog 57 = some (.agg #[.int .i64 0, .int .i64 0, .int .i64 0]) := by kernel_rfl
@[go_sem] theorem Tryz.sl59 : Abs.sliceT Tryz.prog 59 = some 135 := by kernel_rfl
@[go_sem] theorem Tryz.sl60 : Abs.sliceT Tryz.prog 60 = some 72 := by kernel_rfl
@[go_sem] theorem Tryz.sz62 : Abs.sizeT Tryz.prog 62 = some 3 := by kernel_rfl
@[go_sem] theorem Tryz.by62 : Abs.bytesT Tryz.prog 62 = some 72 := by kernel_rfl
@[go_sem] theorem Tryz.ze62 : Abs.zeroT Tryz.prog 62 = some (.agg #[.slice none 0 0, .slice none 0 0, .slice none 0 0]) := by kernel_rfl
@[go_sem] theorem Tryz.sl64 : Abs.sliceT Tryz.prog 64 = some 29 := by kernel_rfl
@[go_sem] theorem Tryz.sz72 : Abs.sizeT Tryz.prog 72 = some 6 := by kernel_rfl
@[go_sem] theorem Tryz.by72 : Abs.bytesT Tryz.prog 72 = some 48 := by kernel_rfl
@[go_sem] theorem Tryz.ze72 : Abs.zeroT Tryz.prog 72 = some (.agg #[.int .i64 0, .int .i64 0, .int .i64 0, .int .i64 0, .int .i64 0, .int .i64 0]) := by kernel_rfl
@[go_sem] theorem Tryz.sl78 : Abs.sliceT Tryz.prog 78 = some 50 := by kernel_rfl
@[go_sem] theorem Tryz.sl87 : Abs.sliceT Tryz.prog 87 = some 62 := by kernel_rfl
@[go_sem] theorem Tryz.sz105 : Abs.sizeT Tryz.prog 105 = some 1 := by kernel_rfl
@[go_sem] theorem Tryz.by105 : Abs.bytesT Tryz.prog 105 = some 24 := by kernel_rfl
@[go_sem] theorem Tryz.ze105 : Abs.zeroT Tryz.prog 105 = some (.slice none 0 0) := by kernel_rfl
@[go_sem] theorem Tryz.sl105 : Abs.sliceT Tryz.prog 105 = some 26 := by kernel_rfl
@[go_sem] theorem Tryz.sz135 : Abs.sizeT Tryz.prog 135 = some 1 := by kernel_rfl
@[go_sem] theorem Tryz.by135 : Abs.bytesT Tryz.prog 135 = some 24 := by kernel_rfl
@[go_sem] theorem Tryz.ze135 : Abs.zeroT Tryz.prog 135 = some (.agg #[.slice none 0 0]) := by kernel_rfl
@[go_sem] theorem Tryz.sl137 : Abs.sliceT Tryz.prog 137 = some 141 := by kernel_rfl
@[go_sem] theorem Tryz.sz141 : Abs.sizeT Tryz.prog 141 = some 3 := by kernel_rfl
@[go_sem] theorem Tryz.by141 : Abs.bytesT Tryz.prog 141 = some 56 := by kernel_rfl
@[go_sem] theorem Tryz.ze141 : Abs.zeroT Tryz.prog 141 = some (.agg #[.slice none 0 0, .slice none 0 0, .map none]) := by kernel_rfl
@[go_sem] theorem Tryz.sl147 : Abs.sliceT Tryz.prog 147 = some 149 := by kernel_rfl
@[go_sem] theorem Tryz.sz149 : Abs.sizeT Tryz.prog 149 = some 6 := by kernel_rfl
@[go_sem] theorem Tryz.by149 : Abs.bytesT Tryz.prog 149 = some 48 := by kernel_rfl
@[go_sem] theorem Tryz.ze149 : Abs.zeroT Tryz.prog 149 = some (.agg #[.int .i64 0, .int .i64 0, .int .i64 0, .int .i64 0, .int .i64 0, .int .i64 0]) := by kernel_rfl
@[go_sem] theorem Tryz.sl151 : Abs.sliceT Tryz.prog 151 = some 154 := by kernel_rfl
@[go_sem] theorem Tryz.sz154 : Abs.sizeT Tryz.prog 154 = some 3 := by kernel_rfl
@[go_sem] theorem Tryz.by154 : Abs.bytesT Tryz.prog 154 = some 72 := by kernel_rfl
@[go_sem] theorem Tryz.ze154 : Abs.zeroT Tryz.prog 154 = some (.agg #[.slice none 0 0, .slice none 0 0, .slice none 0 0]) := by kernel_rfl
@[go_sem] theorem Tryz.ze186 : Abs.zeroT Tryz.prog 186 = some (.agg #[.nilFunc, .nilFunc, .nilFunc, .nilFunc, .nilFunc, .nilFunc, .nilFunc, .nilFunc]) := by kernel_rfl
@[go_sem] theorem Tryz.ba186 (ps : List (Nat × Abs.AV)) (K : Abs.Cont) : Abs.buildA Tryz.prog 186 ps K = Abs.baC (.agg #[.nilFunc, .nilFunc, .nilFunc, .nilFunc, .nilFunc, .nilFunc, .nilFunc, .nilFunc]) 1 ps K := Abs.buildA_array (e := 185) (n := 8) (by kernel_rfl) Tryz.ze186 (by kernel_rfl) ps K
@[go_sem] theorem Tryz.sz217 : Abs.sizeT Tryz.prog 217 = some 1 := by kernel_rfl
@[go_sem] theorem Tryz.by217 : Abs.bytesT Tryz.prog 217 = some 8 := by kernel_rfl
@[go_sem] theorem Tryz.ze217 : Abs.zeroT Tryz.prog 217 = some (.nilFunc) := by kernel_rfl
@[go_sem] theorem Tryz.sl220 : Abs.sliceT Tryz.prog 220 = some 217 := by kernel_rfl
@[go_sem] theorem Tryz.ze236 : Abs.zeroT Tryz.prog 236 = some (.agg #[]) := by kernel_rfl
@[go_sem] theorem Tryz.ba236 (ps : List (Nat × Abs.AV)) (K : Abs.Cont) : Abs.buildA Tryz.prog 236 ps K = Abs.baC (.agg #[]) 1 ps K := Abs.buildA_array (e := 16) (n := 0) (by kernel_rfl) Tryz.ze236 (by kernel_rfl) ps K
@[go_sem] theorem Tryz.ap22 (s x : Abs.AV) (H : Nat → Abs.AObj) (nx : Nat) (K : Abs.Cont) : Abs.appendA Tryz.prog 22 s x H nx K = Abs.appC 24 s x H nx K := Abs.appendA_box Tryz.sl22 Tryz.sz105 Tryz.by105 Tryz.ze105 rfl rfl s x H nx K
@[go_sem] theorem Tryz.bs22 (n : Nat) (ps : List (Nat × Abs.AV)) (H : Nat → Abs.AObj) (nx : Nat) (K : Abs.Cont) : Abs.buildSliceA Tryz.prog 22 n ps H nx K = Abs.bsC n ps H nx K := Abs.buildSliceA_box Tryz.sl22 Tryz.sz105 Tryz.ze105 rfl rfl n ps H nx K
@[go_sem] theorem Tryz.bs29 (n : Nat) (ps : List (Nat × Abs.AV)) (H : Nat → Abs.AObj) (nx : Nat) (K : Abs.Cont) : Abs.buildSliceA Tryz.prog 29 n ps H nx K = Abs.bsR 1 n ps H nx K := Abs.buildSliceA_row Tryz.sl29 Tryz.sz3 Tryz.ze3 rfl (by decide) rfl n ps H nx K
@[go_sem] theorem Tryz.ap29 (s x : Abs.AV) (H : Nat → Abs.AObj) (nx : Nat) (K : Abs.Cont) : Abs.appendA Tryz.prog 29 s x H nx K = Abs.appR 1 8 s x H nx K := Abs.appendA_row Tryz.sl29 Tryz.sz3 Tryz.by3 Tryz.ze3 rfl (by decide) rfl s x H nx K
@[go_sem] theorem Tryz.bs35 (n : Nat) (ps : List (Nat × Abs.AV)) (H : Nat → Abs.AObj) (nx : Nat) (K : Abs.Cont) : Abs.buildSliceA Tryz.prog 35 n ps H nx K = Abs.bsR 1 n ps H nx K := Abs.buildSliceA_row Tryz.sl35 Tryz.sz24 Tryz.ze24 rfl (by decide) rfl n ps H nx K
@[go_sem] theorem Tryz.ap35 (s x : Abs.AV) (H : Nat → Abs.AObj) (nx : Nat) (K : Abs.Cont) : Abs.appendA Tryz.prog 35 s x H nx K = Abs.appR 1 24 s x H nx K := Abs.appendA_row Tryz.sl35 Tryz.sz24 Tryz.by24 Tryz.ze24 rfl (by decide) rfl s x H nx K
@[go_sem] theorem Tryz.bs37 (n : Nat) (ps : List (Nat × Abs.AV)) (H : Nat → Abs.AObj) (nx : Nat) (K : Abs.Cont) : Abs.buildSliceA Tryz.prog 37 n ps H nx K = Abs.bsR 7 n ps H nx K := Abs.buildSliceA_row Tryz.sl37 Tryz.sz28 Tryz.ze28 rfl (by decide) rfl n ps H nx K
@[go_sem] theorem Tryz.ap37 (s x : Abs.AV) (H : Nat → Abs.AObj) (nx : Nat) (K : Abs.Cont) : Abs.appendA Tryz.prog 37 s x H nx K = Abs.appR 7 56 s x H nx K := Abs.appendA_row Tryz.sl37 Tryz.sz28 Tryz.by28 Tryz.ze28 rfl (by decide) rfl s x H nx K
@[go_sem] theorem Tryz.bs50 (n : Nat) (ps : List (Nat × Abs.AV)) (H : Nat → Abs.AObj) (nx : Nat) (K : Abs.Cont) : Abs.buildSliceA Tryz.prog 50 n ps H nx K = Abs.bsR 3 n ps H nx K := Abs.buildSliceA_row Tryz.sl50 Tryz.sz57 Tryz.ze57 rfl (by decide) rfl n ps H nx K
@[go_sem] theorem Tryz.ap50 (s x : Abs.AV) (H : Nat → Abs.AObj) (nx : Nat) (K : Abs.Cont) : Abs.appendA Tryz.prog 50 s x H nx K = Abs.appR 3 24 s x H nx K := Abs.appendA_row Tryz.sl50 Tryz.sz57 Tryz.by57 Tryz.ze57 rfl (by decide) rfl s x H nx K
@[go_sem] theorem Tryz.bs59 (n : Nat) (ps : List (Nat × Abs.AV)) (H : Nat → Abs.AObj) (nx : Nat) (K : Abs.Cont) : Abs.buildSliceA Tryz.prog 59 n ps H nx K = Abs.bsR 1 n ps H nx K := Abs.buildSliceA_row Tryz.sl59 Tryz.sz135 Tryz.ze135 rfl (by decide) rfl n ps H nx K
@[go_sem] theorem Tryz.ap59 (s x : Abs.AV) (H : Nat → Abs.AObj) (nx : Nat) (K : Abs.Cont) : Abs.appendA Tryz.prog 59 s x H nx K = Abs.appR 1 24 s x H nx K := Abs.appendA_row Tryz.sl59 Tryz.sz135 Tryz.by135 Tryz.ze135 rfl (by decide) rfl s x H nx K
@[go_sem] theorem Tryz.bs60 (n : Nat) (ps : List (Nat × Abs.AV)) (H : Nat → Abs.AObj) (nx : Nat) (K : Abs.Cont) : Abs.buildSliceA Tryz.prog 60 n ps H nx K = Abs.bsR 6 n ps H nx K := Abs.buildSliceA_row Tryz.sl60 Tryz.sz72 Tryz.ze72 rfl (by decide) rfl n ps H nx K
@[go_sem] theorem Tryz.ap60 (s x : Abs.AV) (H : Nat → Abs.AObj) (nx : Nat) (K : Abs.Cont) : Abs.appendA Tryz.prog 60 s x H nx K = Abs.appR 6 48 s x H nx K := Abs.appendA_row Tryz.sl60 Tryz.sz72 Tryz.by72 Tryz.ze72 rfl (by decide) rfl s x H nx K
@[go_sem] theorem Tryz.ap64 (s x : Abs.AV) (H : Nat → Abs.AObj) (nx : Nat) (K : Abs.Cont) : Abs.appendA Tryz.prog 64 s x H nx K = Abs.appC 24 s x H nx K := Abs.appendA_box Tryz.sl64 Tryz.sz29 Tryz.by29 Tryz.ze29 rfl rfl s x H nx K
@[go_sem] theorem Tryz.bs64 (n : Nat) (ps : List (Nat × Abs.AV)) (H : Nat → Abs.AObj) (nx : Nat) (K : Abs.Cont) : Abs.buildSliceA Tryz.prog 64 n ps H nx K = Abs.bsC n ps H nx K := Abs.buildSliceA_box Tryz.sl64 Tryz.sz29 Tryz.ze29 rfl rfl n ps H nx K
@[go_sem] theorem Tryz.ap78 (s x : Abs.AV) (H : Nat → Abs.AObj) (nx : Nat) (K : Abs.Cont) : Abs.appendA Tryz.prog 78 s x H nx K = Abs.appC 24 s x H nx K := Abs.appendA_box Tryz.sl78 Tryz.sz50 Tryz.by50 Tryz.ze50 rfl rfl s x H nx K
@[go_sem] theorem Tryz.bs78 (n : Nat) (ps : List (Nat × Abs.AV)) (H : Nat → Abs.AObj) (nx : Nat) (K : Abs.Cont) : Abs.buildSliceA Tryz.prog 78 n ps H nx K = Abs.bsC n ps H nx K := Abs.buildSliceA_box Tryz.sl78 Tryz.sz50 Tryz.ze50 rfl rfl n ps H nx K
@[go_sem] theorem Tryz.bs87 (n : Nat) (ps : List (Nat × Abs.AV)) (H : Nat → Abs.AObj) (nx : Nat) (K : Abs.Cont) : Abs.buildSliceA Tryz.prog 87 n ps H nx K = Abs.bsR 3 n ps H nx K := Abs.buildSliceA_row Tryz.sl87 Tryz.sz62 Tryz.ze62 rfl (by decide) rfl n ps H nx K
@[go_sem] theorem Tryz.ap87 (s x : Abs.AV) (H : Nat → Abs.AObj) (nx : Nat) (K : Abs.Cont) : Abs.appendA Tryz.prog 87 s x H nx K = Abs.appR 3 72 s x H nx K := Abs.appendA_row Tryz.sl87 Tryz.sz62 Tryz.by62 Tryz.ze62 rfl (by decide) rfl s x H nx K
@[go_sem] theorem Tryz.bs105 (n : Nat) (ps : List (Nat × Abs.AV)) (H : Nat → Abs.AObj) (nx : Nat) (K : Abs.Cont) : Abs.buildSliceA Tryz.prog 105 n ps H nx K = Abs.bsR 2 n ps H nx K := Abs.buildSliceA_row Tryz.sl105 Tryz.sz26 Tryz.ze26 rfl (by decide) rfl n ps H nx K
@[go_sem] theorem Tryz.ap105 (s x : Abs.AV) (H : Nat → Abs.AObj) (nx : Nat) (K : Abs.Cont) : Abs.appendA Tryz.prog 105 s x H nx K = Abs.appR 2 16 s x H nx K := Abs.appendA_row Tryz.sl105 Tryz.sz26 Tryz.by26 Tryz.ze26 rfl (by decide) rfl s x H nx K
@[go_sem] theorem Tryz.bs137 (n : Nat) (ps : List (Nat × Abs.AV)) (H : Nat → Abs.AObj) (nx : Nat) (K : Abs.Cont) : Abs.buildSliceA Tryz.prog 137 n ps H nx K = Abs.bsR 3 n ps H nx K := Abs.buildSliceA_row Tryz.sl137 Tryz.sz141 Tryz.ze141 rfl (by decide) rfl n ps H nx K
@[go_sem] theorem Tryz.ap137 (s x : Abs.AV) (H : Nat → Abs.AObj) (nx : Nat) (K : Abs.Cont) : Abs.appendA Tryz.prog 137 s x H nx K = Abs.appR 3 56 s x H nx K := Abs.appendA_row Tryz.sl137 Tryz.sz141 Tryz.by141 Tryz.ze141 rfl (by decide) rfl s x H nx K
@[go_sem] theorem Tryz.bs147 (n : Nat) (ps : List (Nat × Abs.AV)) (H : Nat → Abs.AObj) (nx : Nat) (K : Abs.Cont) : Abs.buildSliceA Tryz.prog 147 n ps H nx K = Abs.bsR 6 n ps H nx K := Abs.buildSliceA_row Tryz.sl147 Tryz.sz149 Tryz.ze149 rfl (by decide) rfl n ps H nx K
@[go_sem] theorem Tryz.ap147 (s x : Abs.AV) (H : Nat → Abs.AObj) (nx : Nat) (K : Abs.Cont) : Abs.appendA Tryz.prog 147 s x H nx K = Abs.appR 6 48 s x H nx K := Abs.appendA_row Tryz.sl147 Tryz.sz149 Tryz.by149 Tryz.ze149 rfl (by decide) rfl s x H nx K
@[go_sem] theorem Tryz.bs151 (n : Nat) (ps : List (Nat × Abs.AV)) (H : Nat → Abs.AObj) (nx : Nat) (K : Abs.Cont) : Abs.buildSliceA Tryz.prog 151 n ps H nx K = Abs.bsR 3 n ps H nx K := Abs.buildSliceA_row Tryz.sl151 Tryz.sz154 Tryz.ze154 rfl (by decide) rfl n ps H nx K
@[go_sem] theorem Tryz.ap151 (s x : Abs.AV) (H : Nat → Abs.AObj) (nx : Nat) (K : Abs.Cont) : Abs.appendA Tryz.prog 151 s x H nx K = Abs.appR 3 72 s x H nx K := Abs.appendA_row Tryz.sl151 Tryz.sz154 Tryz.by154 Tryz.ze154 rfl (by decide) rfl s x H nx K
@[go_sem] theorem Tryz.bs220 (n : Nat) (ps : List (Nat × Abs.AV)) (H : Nat → Abs.AObj) (nx : Nat) (K : Abs.Cont) : Abs.buildSliceA Tryz.prog 220 n ps H nx K = Abs.bsR 1 n ps H nx K := Abs.buildSliceA_row Tryz.sl220 Tryz.sz217 Tryz.ze217 rfl (by decide) rfl n ps H nx K
@[go_sem] theorem Tryz.ap220 (s x : Abs.AV) (H : Nat → Abs.AObj) (nx : Nat) (K : Abs.Cont) : Abs.appendA Tryz.prog 220 s x H nx K = Abs.appR 1 8 s x H nx K := Abs.appendA_row Tryz.sl220 Tryz.sz217 Tryz.by217 Tryz.ze217 rfl (by decide) rfl s x H nx K
@[go_sem] theorem Tryz.eq7 (a0 b0 : Int) (a1 b1 : Int) (a2 b2 : Bool) (a3 b3 : Int) : Abs.eqC Tryz.prog 7 [.int .i64 a0, .int .i64 a1, .bool a2, .int .u8 a3] [.int .i64 b0, .int .i64 b1, .bool b2, .int .u8 b3] = some (a0 == b0 && a1 == b1 && a2 == b2 && a3 == b3) := by
 refine Abs.eqC_V (by kernel_rfl) ?_
 have h : Abs.eqV Tryz.prog 5 7 [.int .i64 a0, .int .i64 a1, .bool a2, .int .u8 a3] [.int .i64 b0, .int .i64 b1, .bool b2, .int .u8 b3] = Abs.andO (some (a0 == b0)) (Abs.andO (some (a1 == b1)) (Abs.andO (some (a2 == b2)) (Abs.andO (some (a3 == b3)) (some true)))) := by kernel_rfl
 rw [h]; generalize (a0 == b0) = x0; generalize (a1 == b1) = x1; generalize (a2 == b2) = x2; generalize (a3 == b3) = x3; revert x0 x1 x2 x3; decide
@[go_sem] theorem Tryz.eq8 (a0 b0 : Int) (a1 b1 : Int) (a2 b2 : Bool) (a3 b3 : Int) : Abs.eqC Tryz.prog 8 [.int .i64 a0, .int .i64 a1, .bool a2, .int .u8 a3] [.int .i64 b0, .int .i64 b1, .bool b2, .int .u8 b3] = some (a0 == b0 && a1 == b1 && a2 == b2 && a3 == b3) := by
 refine Abs.eqC_V (by kernel_rfl) ?_
 have h : Abs.eqV Tryz.prog 5 8 [.int .i64 a0, .int .i64 a1, .bool a2, .int .u8 a3] [.int .i64 b0, .int .i64 b1, .bool b2, .int .u8 b3] = Abs.andO (some (a0 == b0)) (Abs.andO (some (a1 == b1)) (Abs.andO (some (a2 == b2)) (Abs.andO (some (a3 == b3)) (some true)))) := by kernel_rfl
 rw [h]; generalize (a0 == b0) = x0; generalize (a1 == b1) = x1; generalize (a2 == b2) = x2; generalize (a3 == b3) = x3; revert x0 x1 x2 x3; decide
@[go_sem] theorem Tryz.eq25 (a0 b0 : Int) (a1 b1 : Int) : Abs.eqC Tryz.prog 25 [.int .i64 a0, .int .i64 a1] [.int .i64 b0, .int .i64 b1] = some (a0 == b0 && a1 == b1) := by
 refine Abs.eqC_V (by kernel_rfl) ?_
 have h : Abs.eqV Tryz.prog 5 25 [.int .i64 a0, .int .i64 a1] [.int .i64 b0, .int .i64 b1] = Abs.andO (some (a0 == b0)) (Abs.andO (some (a1 == b1)) (some true)) := by kernel_rfl
 rw [h]; generalize (a0 == b0) = x0; generalize (a1 == b1) = x1; revert x0 x1; decide
@[go_sem] theorem Tryz.eq26 (a0 b0 : Int) (a1 b1 : Int) : Abs.eqC Tryz.prog 26 [.int .i64 a0, .int .i64 a1] [.int .i64 b0, .int .i64 b1] = some (a0 == b0 && a1 == b1) := by
 refine Abs.eqC_V (by kernel_rfl) ?_
 have h : Abs.eqV Tryz.prog 5 26 [.int .i64 a0, .int .i64 a1] [.int .i64 b0, .int .i64 b1] = Abs.andO (some (a0 == b0)) (Abs.andO (some (a1 == b1)) (some true)) := by kernel_rfl
 rw [h]; generalize (a0 == b0) = x0; generalize (a1 == b1) = x1; revert x0 x1; decide
@[go_sem] theorem Tryz.eq27 (a0 b0 : Int) (a1 b1 : Int) (a2 b2 : Int) (a3 b3 : Int) (a4 b4 : Int) (a5 b5 : Int) (a6 b6 : Int) : Abs.eqC Tryz.prog 27 [.int .i64 a0, .int .i64 a1, .int .i64 a2, .int .i64 a3, .int .i64 a4, .int .i64 a5, .int .i64 a6] [.int .i64 b0, .int .i64 b1, .int .i64 b2, .int .i64 b3, .int .i64 b4, .int .i64 b5, .int .i64 b6] = some (a0 == b0 && a1 == b1 && a2 == b2 && a3 == b3 && a4 == b4 && a5 == b5 && a6 == b6) := by
 refine Abs.eqC_V (by kernel_rfl) ?_
 have h : Abs.eqV Tryz.prog 5 27 [.int .i64 a0, .int .i64 a1, .int .i64 a2, .int .i64 a3, .int .i64 a4, .int .i64 a5, .int .i64 a6] [.int .i64 b0, .int .i64 b1, .int .i64 b2, .int .i64 b3, .int .i64 b4, .int .i64 b5, .int .i64 b6] = Abs.andO (some (a0 == b0)) (Abs.andO (some (a1 == b1)) (Abs.andO (some (a2 == b2)) (Abs.andO (Abs.andO (some (a3 == b3)) (Abs.andO (some (a4 == b4)) (some true))) (Abs.andO (Abs.andO (some (a5 == b5)) (Abs.andO (some (a6 == b6)) (some true))) (some true))))) := by kernel_rfl
 rw [h]; generalize (a0 == b0) = x0; generalize (a1 == b1) = x1; generalize (a2 == b2) = x2; generalize (a3 == b3) = x3; generalize (a4 == b4) = x4; generalize (a5 == b5) = x5; generalize (a6 == b6) = x6; revert x0 x1 x2 x3 x4 x5 x6; decide
@[go_sem] theorem Tryz.eq28 (a0 b0 : Int) (a1 b1 : Int) (a2 b2 : Int) (a3 b3 : Int) (a4 b4 : Int) (a5 b5 : Int) (a6 b6 : Int) : Abs.eqC Tryz.prog 28 [.int .i64 a0, .int .i64 a1, .int .i64 a2, .int .i64 a3, .int .i64 a4, .int .i64 a5, .int .i64 a6] [.int .i64 b0, .int .i64 b1, .int .i64 b2, .int .i64 b3, .int .i64 b4, .int .i64 b5, .int .i64 b6] = some (a0 == b0 && a1 == b1 && a2 == b2 && a3 == b3 && a4 == b4 && a5 == b5 && a6 == b6) := by
 refine Abs.eqC_V (by kernel_rfl) ?_
 have h : Abs.eqV Tryz.prog 5 28 [.int .i64 a0, .int .i64 a1, .int .i64 a2, .int .i64 a3, .int .i64 a4, .int .i64 a5, .int .i64 a6] [.int .i64 b0, .int .i64 b1, .int .i64 b2, .int .i64 b3, .int .i64 b4, .int .i64 b5, .int .i64 b6] = Abs.andO (some (a0 == b0)) (Abs.andO (some (a1 == b1)) (Abs.andO (some (a2 == b2)) (Abs.andO (Abs.andO (some (a3 == b3)) (Abs.andO (some (a4 == b4)) (some true))) (Abs.andO (Abs.andO (some (a5 == b5)) (Abs.andO (some (a6 == b6)) (some true))) (some true))))) := by kernel_rfl
 rw [h]; generalize (a0 == b0) = x0; generalize (a1 == b1) = x1; generalize (a2 == b2) = x2; generalize (a3 == b3) = x3; generalize (a4 == b4) = x4; generalize (a5 == b5) = x5; generalize (a6 == b6) = x6; revert x0 x1 x2 x3 x4 x5 x6; decide
@[go_sem] theorem Tryz.eq56 (a0 b0 : Int) (a1 b1 : Int) (a2 b2 : Int) : Abs.eqC Tryz.prog 56 [.int .i64 a0, .int .i64 a1, .int .i64 a2] [.int .i64 b0, .int .i64 b1, .int .i64 b2] = some (a0 == b0 && a1 == b1 && a2 == b2) := by
 refine Abs.eqC_V (by kernel_rfl) ?_
 have h : Abs.eqV Tryz.prog 5 56 [.int .i64 a0, .int .i64 a1, .int .i64 a2] [.int .i64 b0, .int .i64 b1, .int .i64 b2] = Abs.andO (some (a0 == b0)) (Abs.andO (Abs.andO (some (a1 == b1)) (Abs.andO (some (a2 == b2)) (some true))) (some true)) := by kernel_rfl
 rw [h]; generalize (a0 == b0) = x0; generalize (a1 == b1) = x1; generalize (a2 == b2) = x2; revert x0 x1 x2; decide
@[go_sem] theorem Tryz.eq57 (a0 b0 : Int) (a1 b1 : Int) (a2 b2 : Int) : Abs.eqC Tryz.prog 57 [.int .i64 a0, .int .i64 a1, .int .i64 a2] [.int .i64 b0, .int .i64 b1, .int .i64 b2] = some (a0 == b0 && a1 == b1 && a2 == b2) := by
 refine Abs.eqC_V (by kernel_rfl) ?_
 have h : Abs.eqV Tryz.prog 5 57 [.int .i64 a0, .int .i64 a1, .int .i64 a2] [.int .i64 b0, .int .i64 b1, .int .i64 b2] = Abs.andO (some (a0 == b0)) (Abs.andO (Abs.andO (some (a1 == b1)) (Abs.andO (some (a2 == b2)) (some true))) (some true)) := by kernel_rfl
 rw [h]; generalize (a0 == b0) = x0; generalize (a1 == b1) = x1; generalize (a2 == b2) = x2; revert x0 x1 x2; decide
@[go_sem] theorem Tryz.eq71 (a0 b0 : Int) (a1 b1 : Int) (a2 b2 : Int) (a3 b3 : Int) (a4 b4 : Int) (a5 b5 : Int) : Abs.eqC Tryz.prog 71 [.int .i64 a0, .int .i64 a1, .int .i64 a2, .int .i64 a3, .int .i64 a4, .int .i64 a5] [.int .i64 b0, .int .i64 b1, .int .i64 b2, .int .i64 b3, .int .i64 b4, .int .i64 b5] = some (a0 == b0 && a1 == b1 && a2 == b2 && a3 == b3 && a4 == b4 && a5 == b5) := by
 refine Abs.eqC_V (by kernel_rfl) ?_
 have h : Abs.eqV Tryz.prog 5 71 [.int .i64 a0, .int .i64 a1, .int .i64 a2, .int .i64 a3, .int .i64 a4, .int .i64 a5] [.int .i64 b0, .int .i64 b1, .int .i64 b2, .int .i64 b3, .int .i64 b4, .int .i64 b5] = Abs.andO (Abs.andO (some (a0 == b0)) (Abs.andO (Abs.andO (some (a1 == b1)) (Abs.andO (some (a2 == b2)) (some true))) (some true))) (Abs.andO (Abs.andO (some (a3 == b3)) (Abs.andO (Abs.andO (some (a4 == b4)) (Abs.andO (some (a5 == b5)) (some true))) (some true))) (some true)) := by kernel_rfl
 rw [h]; generalize (a0 == b0) = x0; generalize (a1 == b1) = x1; generalize (a2 == b2) = x2; generalize (a3 == b3) = x3; generalize (a4 == b4) = x4; generalize (a5 == b5) = x5; revert x0 x1 x2 x3 x4 x5; decide
@[go_sem] theorem Tryz.eq72 (a0 b0 : Int) (a1 b1 : Int) (a2 b2 : Int) (a3 b3 : Int) (a4 b4 : Int) (a5 b5 : Int) : Abs.eqC Tryz.prog 72 [.int .i64 a0, .int .i64 a1, .int .i64 a2, .int .i64 a3, .int .i64 a4, .int .i64 a5] [.int .i64 b0, .int .i64 b1, .int .i64 b2, .int .i64 b3, .int .i64 b4, .int .i64 b5] = some (a0 == b0 && a1 == b1 && a2 == b2 && a3 == b3 && a4 == b4 && a5 == b5) := by
 refine Abs.eqC_V (by kernel_rfl) ?_
 have h : Abs.eqV Tryz.prog 5 72 [.int .i64 a0, .int .i64 a1, .int .i64 a2, .int .i64 a3, .int .i64 a4, .int .i64 a5] [.int .i64 b0, .int .i64 b1, .int .i64 b2, .int .i64 b3, .int .i64 b4, .int .i64 b5] = Abs.andO (Abs.andO (some (a0 == b0)) (Abs.andO (Abs.andO (some (a1 == b1)) (Abs.andO (some (a2 == b2)) (some true))) (some true))) (Abs.andO (Abs.andO (some (a3 == b3)) (Abs.andO (Abs.andO (some (a4 == b4)) (Abs.andO (some (a5 == b5)) (some true))) (some true))) (some true)) := by kernel_rfl
 rw [h]; generalize (a0 == b0) = x0; generalize (a1 == b1) = x1; generalize (a2 == b2) = x2; generalize (a3 == b3) = x3; generalize (a4 == b4) = x4; generalize (a5 == b5) = x5; revert x0 x1 x2 x3 x4 x5; decide
@[go_sem] theorem Tryz.eq149 (a0 b0 : Int) (a1 b1 : Int) (a2 b2 : Int) (a3 b3 : Int) (a4 b4 : Int) (a5 b5 : Int) : Abs.eqC Tryz.prog 149 [.int .i64 a0, .int .i64 a1, .int .i64 a2, .int .i64 a3, .int .i64 a4, .int .i64 a5] [.int .i64 b0, .int .i64 b1, .int .i64 b2, .int .i64 b3, .int .i64 b4, .int .i64 b5] = some (a0 == b0 && a1 == b1 && a2 == b2 && a3 == b3 && a4 == b4 && a5 == b5) := by
 refine Abs.eqC_V (by kernel_rfl) ?_
 have h : Abs.eqV Tryz.prog 5 149 [.int .i64 a0, .int .i64 a1, .int .i64 a2, .int .i64 a3, .int .i64 a4, .int .i64 a5] [.int .i64 b0, .int .i64 b1, .int .i64 b2, .int .i64 b3, .int .i64 b4, .int .i64 b5] = Abs.andO (Abs.andO (some (a0 == b0)) (Abs.andO (Abs.andO (some (a1 == b1)) (Abs.andO (some (a2 == b2)) (some true))) (some true))) (Abs.andO (Abs.andO (some (a3 == b3)) (Abs.andO (Abs.andO (some (a4 == b4)) (Abs.andO (some (a5 == b5)) (some true))) (some true))) (some true)) := by kernel_rfl
 rw [h]; generalize (a0 == b0) = x0; generalize (a1 == b1) = x1; generalize (a2 == b2) = x2; generalize (a3 == b3) = x3; generalize (a4 == b4) = x4; generalize (a5 == b5) = x5; revert x0 x1 x2 x3 x4 x5; decide
@[go_sem] theorem Tryz.eq218 (a0 b0 : Int) (a1 b1 : Int) : Abs.eqC Tryz.prog 218 [.int .i64 a0, .int .i64 a1] [.int .i64 b0, .int .i64 b1] = some (a0 == b0 && a1 == b1) := by
 refine Abs.eqC_V (by kernel_rfl) ?_
 have h : Abs.eqV Tryz.prog 5 218 [.int .i64 a0, .int .i64 a1] [.int .i64 b0, .int .i64 b1] = Abs.andO (some (a0 == b0)) (Abs.andO (some (a1 == b1)) (some true)) := by kernel_rfl
 rw [h]; generalize (a0 == b0) = x0; generalize (a1 == b1) = x1; revert x0 x1; decide
theorem Tryz.mixed : Tryz.prog.follows .mixedOrders = true := by kernel_rfl
end Go.Proofs
namespace Go.Abs
open Go Go.Proofs
@[go_sem] theorem Tryz.facts0 : isAggT Tryz.prog 1 = some false ∧ sizeT Tryz.prog 1 = some 1 ∧ bytesT Tryz.prog 1 = some 8 ∧ zeroT Tryz.prog 1 = some (.nilFunc) ∧ sliceT Tryz.prog 1 = none ∧ isAggT Tryz.prog 2 = some false ∧ sizeT Tryz.prog 2 = some 1 ∧ bytesT Tryz.prog 2 = some 8 ∧ zeroT Tryz.prog 2 = some (.int .i64 0) ∧ sliceT Tryz.prog 2 = none ∧ intT Tryz.prog 2 = some .i64 ∧ Tryz.prog.underlying 2 = some (.int .i64) ∧ isAggT Tryz.prog 3 = some false ∧ sliceT Tryz.prog 3 = none ∧ intT Tryz.prog 3 = some .i64 ∧ Tryz.prog.underlying 3 = some (.int .i64) ∧ isAggT Tryz.prog 4 = some false ∧ sizeT Tryz.prog 4 = some 1 ∧ bytesT Tryz.prog 4 = some 1 ∧ zeroT Tryz.prog 4 = some (.bool false) := by (repeat' apply And.intro) <;> kernel_rfl
@[go_sem] theorem Tryz.facts1 : sliceT Tryz.prog 4 = none ∧ Tryz.prog.underlying 4 = some (.bool) ∧ isAggT Tryz.prog 5 = some false ∧ sizeT Tryz.prog 5 = some 1 ∧ bytesT Tryz.prog 5 = some 1 ∧ zeroT Tryz.prog 5 = some (.int .u8 0) ∧ sliceT Tryz.prog 5 = none ∧ intT Tryz.prog 5 = some .u8 ∧ Tryz.prog.underlying 5 = some (.int .u8) ∧ isAggT Tryz.prog 6 = some false ∧ sizeT Tryz.prog 6 = some 1 ∧ bytesT Tryz.prog 6 = some 1 ∧ zeroT Tryz.prog 6 = some (.int .u8 0) ∧ sliceT Tryz.prog 6 = none ∧ intT Tryz.prog 6 = some .u8 ∧ Tryz.prog.underlying 6 = some (.int .u8) ∧ isAggT Tryz.prog 7 = some true ∧ sizeT Tryz.prog 7 = some 4 ∧ bytesT Tryz.prog 7 = some 24 ∧ zeroT Tryz.prog 7 = some (.agg #[.int .i64 0, .int .i64 0, .bool false, .int .u8 0]) := by (repeat' apply And.intro) <;> kernel_rfl
@[go_sem] theorem Tryz.facts2 : sliceT Tryz.prog 7 = none ∧ structB Tryz.prog 7 = true ∧ fieldT Tryz.prog 7 0 = some (2, 0) ∧ fieldT Tryz.prog 7 1 = some (3, 1) ∧ fieldT Tryz.prog 7 2 = some (4, 2) ∧ fieldT Tryz.prog 7 3 = some (6, 3) ∧ isAggT Tryz.prog 8 = some true ∧ sizeT Tryz.prog 8 = some 4 ∧ bytesT Tryz.prog 8 = some 24 ∧ zeroT Tryz.prog 8 = some (.agg #[.int .i64 0, .int .i64 0, .bool false, .int .u8 0]) ∧ sliceT Tryz.prog 8 = none ∧ structB Tryz.prog 8 = true ∧ fieldT Tryz.prog 8 0 = some (2, 0) ∧ fieldT Tryz.prog 8 1 = some (3, 1) ∧ fieldT Tryz.prog 8 2 = some (4, 2) ∧ fieldT Tryz.prog 8 3 = some (6, 3) ∧ isAggT Tryz.prog 9 = some false ∧ sizeT Tryz.prog 9 = some 1 ∧ bytesT Tryz.prog 9 = some 16 ∧ zeroT Tryz.prog 9 = some (.string ⟨#[]⟩) := by (repeat' apply And.intro) <;> kernel_rfl
@[go_sem] theorem Tryz.facts3 : sliceT Tryz.prog 9 = none ∧ stringT Tryz.prog 9 = true ∧ Tryz.prog.underlying 9 = some (.string) ∧ isAggT Tryz.prog 10 = some false ∧ sizeT Tryz.prog 10 = some 1 ∧ bytesT Tryz.prog 10 = some 16 ∧ zeroT Tryz.prog 10 = some (.string ⟨#[]⟩) ∧ sliceT Tryz.prog 10 = none ∧ stringT Tryz.prog 10 = true ∧ Tryz.prog.underlying 10 = some (.string) ∧ isAggT Tryz.prog 11 = some false ∧ sizeT Tryz.prog 11 = some 1 ∧ bytesT Tryz.prog 11 = some 16 ∧ zeroT Tryz.prog 11 = some (.string ⟨#[]⟩) ∧ sliceT Tryz.prog 11 = none ∧ stringT Tryz.prog 11 = true ∧ Tryz.prog.underlying 11 = some (.string) ∧ intT Tryz.prog 12 = some .u64 ∧ structB Tryz.prog 13 = true ∧ structB Tryz.prog 14 = true := by (repeat' apply And.intro) <;> kernel_rfl
@[go_sem] theorem Tryz.facts4 : structB Tryz.prog 18 = true ∧ isAggT Tryz.prog 19 = some true ∧ sizeT Tryz.prog 19 = some 1 ∧ bytesT Tryz.prog 19 = some 8 ∧ zeroT Tryz.prog 19 = some (.agg #[.pointer none]) ∧ sliceT Tryz.prog 19 = none ∧ structB Tryz.prog 19 = true ∧ fieldT Tryz.prog 19 0 = some (17, 0) ∧ isAggT Tryz.prog 20 = some false ∧ sizeT Tryz.prog 20 = some 1 ∧ bytesT Tryz.prog 20 = some 16 ∧ zeroT Tryz.prog 20 = some (.nilIface) ∧ sliceT Tryz.prog 20 = none ∧ isAggT Tryz.prog 21 = some false ∧ sizeT Tryz.prog 21 = some 1 ∧ bytesT Tryz.prog 21 = some 4 ∧ zeroT Tryz.prog 21 = some (.int .i32 0) ∧ sliceT Tryz.prog 21 = none ∧ intT Tryz.prog 21 = some .i32 ∧ Tryz.prog.underlying 21 = some (.int .i32) := by (repeat' apply And.intro) <;> kernel_rfl
@[go_sem] theorem Tryz.facts5 : isAggT Tryz.prog 22 = some false ∧ sizeT Tryz.prog 22 = some 1 ∧ bytesT Tryz.prog 22 = some 24 ∧ zeroT Tryz.prog 22 = some (.slice none 0 0) ∧ Tryz.prog.underlying 22 = some (.slice 105) ∧ isAggT Tryz.prog 23 = some true ∧ sizeT Tryz.prog 23 = some 1 ∧ bytesT Tryz.prog 23 = some 24 ∧ zeroT Tryz.prog 23 = some (.agg #[.slice none 0 0]) ∧ sliceT Tryz.prog 23 = none ∧ structB Tryz.prog 23 = true ∧ fieldT Tryz.prog 23 0 = some (22, 0) ∧ isAggT Tryz.prog 24 = some true ∧ sliceT Tryz.prog 24 = none ∧ structB Tryz.prog 24 = true ∧ fieldT Tryz.prog 24 0 = some (22, 0) ∧ isAggT Tryz.prog 25 = some true ∧ sizeT Tryz.prog 25 = some 2 ∧ bytesT Tryz.prog 25 = some 16 ∧ zeroT Tryz.prog 25 = some (.agg #[.int .i64 0, .int .i64 0]) := by (repeat' apply And.intro) <;> kernel_rfl
@[go_sem] theorem Tryz.facts6 : sliceT Tryz.prog 25 = none ∧ structB Tryz.prog 25 = true ∧ fieldT Tryz.prog 25 0 = some (3, 0) ∧ fieldT Tryz.prog 25 1 = some (3, 1) ∧ isAggT Tryz.prog 26 = some true ∧ sliceT Tryz.prog 26 = none ∧ structB Tryz.prog 26 = true ∧ fieldT Tryz.prog 26 0 = some (3, 0) ∧ fieldT Tryz.prog 26 1 = some (3, 1) ∧ isAggT Tryz.prog 27 = some true ∧ sizeT Tryz.prog 27 = some 7 ∧ bytesT Tryz.prog 27 = some 56 ∧ zeroT Tryz.prog 27 = some (.agg #[.int .i64 0, .int .i64 0, .int .i64 0, .int .i64 0, .int .i64 0, .int .i64 0, .int .i64 0]) ∧ sliceT Tryz.prog 27 = none ∧ structB Tryz.prog 27 = true ∧ fieldT Tryz.prog 27 0 = some (3, 0) ∧ fieldT Tryz.prog 27 1 = some (3, 1) ∧ fieldT Tryz.prog 27 2 = some (3, 2) ∧ fieldT Tryz.prog 27 3 = some (26, 3) ∧ fieldT Tryz.prog 27 4 = some (26, 5) := by (repeat' apply And.intro) <;> kernel_rfl
@[go_sem] theorem Tryz.facts7 : isAggT Tryz.prog 28 = some true ∧ sliceT Tryz.prog 28 = none ∧ structB Tryz.prog 28 = true ∧ fieldT Tryz.prog 28 0 = some (3, 0) ∧ fieldT Tryz.prog 28 1 = some (3, 1) ∧ fieldT Tryz.prog 28 2 = some (3, 2) ∧ fieldT Tryz.prog 28 3 = some (26, 3) ∧ fieldT Tryz.prog 28 4 = some (26, 5) ∧ isAggT Tryz.prog 29 = some false ∧ Tryz.prog.underlying 29 = some (.slice 3) ∧ isAggT Tryz.prog 30 = some false ∧ sizeT Tryz.prog 30 = some 1 ∧ bytesT Tryz.prog 30 = some 8 ∧ zeroT Tryz.prog 30 = some (.nilFunc) ∧ sliceT Tryz.prog 30 = none ∧ isAggT Tryz.prog 31 = some false ∧ sizeT Tryz.prog 31 = some 1 ∧ bytesT Tryz.prog 31 = some 8 ∧ zeroT Tryz.prog 31 = some (.nilFunc) ∧ sliceT Tryz.prog 31 = none := by (repeat' apply And.intro) <;> kernel_rfl
@[go_sem] theorem Tryz.facts8 : isAggT Tryz.prog 32 = some false ∧ sizeT Tryz.prog 32 = some 1 ∧ bytesT Tryz.prog 32 = some 8 ∧ zeroT Tryz.prog 32 = some (.pointer none) ∧ sliceT Tryz.prog 32 = none ∧ isAggT Tryz.prog 33 = some false ∧ sizeT Tryz.prog 33 = some 1 ∧ bytesT Tryz.prog 33 = some 8 ∧ zeroT Tryz.prog 33 = some (.nilFunc) ∧ sliceT Tryz.prog 33 = none ∧ isAggT Tryz.prog 34 = some false ∧ sizeT Tryz.prog 34 = some 1 ∧ bytesT Tryz.prog 34 = some 8 ∧ zeroT Tryz.prog 34 = some (.nilFunc) ∧ sliceT Tryz.prog 34 = none ∧ isAggT Tryz.prog 35 = some false ∧ sizeT Tryz.prog 35 = some 1 ∧ bytesT Tryz.prog 35 = some 24 ∧ zeroT Tryz.prog 35 = some (.slice none 0 0) ∧ Tryz.prog.underlying 35 = some (.slice 24) := by (repeat' apply And.intro) <;> kernel_rfl
@[go_sem] theorem Tryz.facts9 : isAggT Tryz.prog 36 = some false ∧ sizeT Tryz.prog 36 = some 1 ∧ bytesT Tryz.prog 36 = some 8 ∧ zeroT Tryz.prog 36 = some (.nilFunc) ∧ sliceT Tryz.prog 36 = none ∧ isAggT Tryz.prog 37 = some false ∧ sizeT Tryz.prog 37 = some 1 ∧ bytesT Tryz.prog 37 = some 24 ∧ zeroT Tryz.prog 37 = some (.slice none 0 0) ∧ Tryz.prog.underlying 37 = some (.slice 28) ∧ isAggT Tryz.prog 38 = some false ∧ sizeT Tryz.prog 38 = some 1 ∧ bytesT Tryz.prog 38 = some 8 ∧ zeroT Tryz.prog 38 = some (.nilFunc) ∧ sliceT Tryz.prog 38 = none ∧ isAggT Tryz.prog 39 = some false ∧ sizeT Tryz.prog 39 = some 1 ∧ bytesT Tryz.prog 39 = some 8 ∧ zeroT Tryz.prog 39 = some (.int .i64 0) ∧ sliceT Tryz.prog 39 = none := by (repeat' apply And.intro) <;> kernel_rfl
@[go_sem] theorem Tryz.facts10 : intT Tryz.prog 39 = some .i64 ∧ Tryz.prog.underlying 39 = some (.int .i64) ∧ isAggT Tryz.prog 41 = some false ∧ sizeT Tryz.prog 41 = some 1 ∧ bytesT Tryz.prog 41 = some 8 ∧ zeroT Tryz.prog 41 = some (.nilFunc) ∧ sliceT Tryz.prog 41 = none ∧ isAggT Tryz.prog 42 = some false ∧ sizeT Tryz.prog 42 = some 1 ∧ bytesT Tryz.prog 42 = some 8 ∧ zeroT Tryz.prog 42 = some (.nilFunc) ∧ sliceT Tryz.prog 42 = none ∧ isAggT Tryz.prog 43 = some false ∧ sizeT Tryz.prog 43 = some 1 ∧ bytesT Tryz.prog 43 = some 8 ∧ zeroT Tryz.prog 43 = some (.nilFunc) ∧ sliceT Tryz.prog 43 = none ∧ isAggT Tryz.prog 44 = some false ∧ sizeT Tryz.prog 44 = some 1 ∧ bytesT Tryz.prog 44 = some 8 := by (repeat' apply And.intro) <;> kernel_rfl
@[go_sem] theorem Tryz.facts11 : zeroT Tryz.prog 44 = some (.nilFunc) ∧ sliceT Tryz.prog 44 = none ∧ isAggT Tryz.prog 47 = some false ∧ sizeT Tryz.prog 47 = some 1 ∧ bytesT Tryz.prog 47 = some 8 ∧ zeroT Tryz.prog 47 = some (.nilFunc) ∧ sliceT Tryz.prog 47 = none ∧ isAggT Tryz.prog 48 = some false ∧ sizeT Tryz.prog 48 = some 1 ∧ bytesT Tryz.prog 48 = some 8 ∧ zeroT Tryz.prog 48 = some (.nilFunc) ∧ sliceT Tryz.prog 48 = none ∧ isAggT Tryz.prog 49 = some false ∧ sizeT Tryz.prog 49 = some 1 ∧ bytesT Tryz.prog 49 = some 8 ∧ zeroT Tryz.prog 49 = some (.nilFunc) ∧ sliceT Tryz.prog 49 = none ∧ isAggT Tryz.prog 50 = some false ∧ Tryz.prog.underlying 50 = some (.slice 57) ∧ structB Tryz.prog 56 = true := by (repeat' apply And.intro) <;> kernel_rfl
@[go_sem] theorem Tryz.facts12 : isAggT Tryz.prog 57 = some true ∧ sliceT Tryz.prog 57 = none ∧ structB Tryz.prog 57 = true ∧ fieldT Tryz.prog 57 0 = some (3, 0) ∧ fieldT Tryz.prog 57 1 = some (26, 1) ∧ isAggT Tryz.prog 58 = some false ∧ sizeT Tryz.prog 58 = some 1 ∧ bytesT Tryz.prog 58 = some 8 ∧ zeroT Tryz.prog 58 = some (.nilFunc) ∧ sliceT Tryz.prog 58 = none ∧ isAggT Tryz.prog 59 = some false ∧ sizeT Tryz.prog 59 = some 1 ∧ bytesT Tryz.prog 59 = some 24 ∧ zeroT Tryz.prog 59 = some (.slice none 0 0) ∧ Tryz.prog.underlying 59 = some (.slice 135) ∧ isAggT Tryz.prog 60 = some false ∧ sizeT Tryz.prog 60 = some 1 ∧ bytesT Tryz.prog 60 = some 24 ∧ zeroT Tryz.prog 60 = some (.slice none 0 0) ∧ Tryz.prog.underlying 60 = some (.slice 72) := by (repeat' apply And.intro) <;> kernel_rfl
@[go_sem] theorem Tryz.facts13 : isAggT Tryz.prog 61 = some true ∧ sizeT Tryz.prog 61 = some 3 ∧ bytesT Tryz.prog 61 = some 72 ∧ zeroT Tryz.prog 61 = some (.agg #[.slice none 0 0, .slice none 0 0, .slice none 0 0]) ∧ sliceT Tryz.prog 61 = none ∧ structB Tryz.prog 61 = true ∧ fieldT Tryz.prog 61 0 = some (24, 0) ∧ fieldT Tryz.prog 61 1 = some (59, 1) ∧ fieldT Tryz.prog 61 2 = some (60, 2) ∧ isAggT Tryz.prog 62 = some true ∧ sliceT Tryz.prog 62 = none ∧ structB Tryz.prog 62 = true ∧ fieldT Tryz.prog 62 0 = some (24, 0) ∧ fieldT Tryz.prog 62 1 = some (59, 1) ∧ fieldT Tryz.prog 62 2 = some (60, 2) ∧ isAggT Tryz.prog 64 = some false ∧ sizeT Tryz.prog 64 = some 1 ∧ bytesT Tryz.prog 64 = some 24 ∧ zeroT Tryz.prog 64 = some (.slice none 0 0) ∧ Tryz.prog.underlying 64 = some (.slice 29) := by (repeat' apply And.intro) <;> kernel_rfl
@[go_sem] theorem Tryz.facts14 : structB Tryz.prog 71 = true ∧ isAggT Tryz.prog 72 = some true ∧ sliceT Tryz.prog 72 = none ∧ structB Tryz.prog 72 = true ∧ fieldT Tryz.prog 72 0 = some (57, 0) ∧ fieldT Tryz.prog 72 1 = some (57, 3) ∧ isAggT Tryz.prog 77 = some false ∧ sizeT Tryz.prog 77 = some 1 ∧ bytesT Tryz.prog 77 = some 8 ∧ zeroT Tryz.prog 77 = some (.nilFunc) ∧ sliceT Tryz.prog 77 = none ∧ isAggT Tryz.prog 78 = some false ∧ sizeT Tryz.prog 78 = some 1 ∧ bytesT Tryz.prog 78 = some 24 ∧ zeroT Tryz.prog 78 = some (.slice none 0 0) ∧ Tryz.prog.underlying 78 = some (.slice 50) ∧ isAggT Tryz.prog 80 = some false ∧ sizeT Tryz.prog 80 = some 1 ∧ bytesT Tryz.prog 80 = some 8 ∧ zeroT Tryz.prog 80 = some (.nilFunc) := by (repeat' apply And.intro) <;> kernel_rfl
@[go_sem] theorem Tryz.facts15 : sliceT Tryz.prog 80 = none ∧ isAggT Tryz.prog 82 = some false ∧ sizeT Tryz.prog 82 = some 1 ∧ bytesT Tryz.prog 82 = some 8 ∧ zeroT Tryz.prog 82 = some (.nilFunc) ∧ sliceT Tryz.prog 82 = none ∧ isAggT Tryz.prog 83 = some false ∧ sizeT Tryz.prog 83 = some 1 ∧ bytesT Tryz.prog 83 = some 8 ∧ zeroT Tryz.prog 83 = some (.nilFunc) ∧ sliceT Tryz.prog 83 = none ∧ isAggT Tryz.prog 84 = some false ∧ sizeT Tryz.prog 84 = some 1 ∧ bytesT Tryz.prog 84 = some 8 ∧ zeroT Tryz.prog 84 = some (.nilFunc) ∧ sliceT Tryz.prog 84 = none ∧ isAggT Tryz.prog 85 = some false ∧ sizeT Tryz.prog 85 = some 1 ∧ bytesT Tryz.prog 85 = some 8 ∧ zeroT Tryz.prog 85 = some (.nilFunc) := by (repeat' apply And.intro) <;> kernel_rfl
@[go_sem] theorem Tryz.facts16 : sliceT Tryz.prog 85 = none ∧ isAggT Tryz.prog 86 = some false ∧ sizeT Tryz.prog 86 = some 1 ∧ bytesT Tryz.prog 86 = some 8 ∧ zeroT Tryz.prog 86 = some (.nilFunc) ∧ sliceT Tryz.prog 86 = none ∧ isAggT Tryz.prog 87 = some false ∧ sizeT Tryz.prog 87 = some 1 ∧ bytesT Tryz.prog 87 = some 24 ∧ zeroT Tryz.prog 87 = some (.slice none 0 0) ∧ Tryz.prog.underlying 87 = some (.slice 62) ∧ isAggT Tryz.prog 89 = some false ∧ sizeT Tryz.prog 89 = some 1 ∧ bytesT Tryz.prog 89 = some 8 ∧ zeroT Tryz.prog 89 = some (.nilFunc) ∧ sliceT Tryz.prog 89 = none ∧ isAggT Tryz.prog 90 = some false ∧ sizeT Tryz.prog 90 = some 1 ∧ bytesT Tryz.prog 90 = some 8 ∧ zeroT Tryz.prog 90 = some (.nilFunc) := by (repeat' apply And.intro) <;> kernel_rfl
@[go_sem] theorem Tryz.facts17 : sliceT Tryz.prog 90 = none ∧ isAggT Tryz.prog 91 = some false ∧ sizeT Tryz.prog 91 = some 1 ∧ bytesT Tryz.prog 91 = some 8 ∧ zeroT Tryz.prog 91 = some (.nilFunc) ∧ sliceT Tryz.prog 91 = none ∧ isAggT Tryz.prog 92 = some false ∧ sizeT Tryz.prog 92 = some 1 ∧ bytesT Tryz.prog 92 = some 8 ∧ zeroT Tryz.prog 92 = some (.nilFunc) ∧ sliceT Tryz.prog 92 = none ∧ isAggT Tryz.prog 93 = some false ∧ sizeT Tryz.prog 93 = some 1 ∧ bytesT Tryz.prog 93 = some 8 ∧ zeroT Tryz.prog 93 = some (.nilFunc) ∧ sliceT Tryz.prog 93 = none ∧ isAggT Tryz.prog 94 = some false ∧ sizeT Tryz.prog 94 = some 1 ∧ bytesT Tryz.prog 94 = some 8 ∧ zeroT Tryz.prog 94 = some (.nilFunc) := by (repeat' apply And.intro) <;> kernel_rfl
@[go_sem] theorem Tryz.facts18 : sliceT Tryz.prog 94 = none ∧ isAggT Tryz.prog 96 = some false ∧ sizeT Tryz.prog 96 = some 1 ∧ bytesT Tryz.prog 96 = some 8 ∧ zeroT Tryz.prog 96 = some (.nilFunc) ∧ sliceT Tryz.prog 96 = none ∧ isAggT Tryz.prog 97 = some false ∧ sizeT Tryz.prog 97 = some 1 ∧ bytesT Tryz.prog 97 = some 8 ∧ zeroT Tryz.prog 97 = some (.nilFunc) ∧ sliceT Tryz.prog 97 = none ∧ isAggT Tryz.prog 98 = some false ∧ sizeT Tryz.prog 98 = some 1 ∧ bytesT Tryz.prog 98 = some 8 ∧ zeroT Tryz.prog 98 = some (.nilFunc) ∧ sliceT Tryz.prog 98 = none ∧ isAggT Tryz.prog 99 = some false ∧ sizeT Tryz.prog 99 = some 1 ∧ bytesT Tryz.prog 99 = some 8 ∧ zeroT Tryz.prog 99 = some (.nilFunc) := by (repeat' apply And.intro) <;> kernel_rfl
@[go_sem] theorem Tryz.facts19 : sliceT Tryz.prog 99 = none ∧ isAggT Tryz.prog 100 = some false ∧ sizeT Tryz.prog 100 = some 1 ∧ bytesT Tryz.prog 100 = some 8 ∧ zeroT Tryz.prog 100 = some (.nilFunc) ∧ sliceT Tryz.prog 100 = none ∧ isAggT Tryz.prog 101 = some false ∧ sizeT Tryz.prog 101 = some 1 ∧ bytesT Tryz.prog 101 = some 8 ∧ zeroT Tryz.prog 101 = some (.nilFunc) ∧ sliceT Tryz.prog 101 = none ∧ isAggT Tryz.prog 102 = some false ∧ sizeT Tryz.prog 102 = some 1 ∧ bytesT Tryz.prog 102 = some 8 ∧ zeroT Tryz.prog 102 = some (.nilFunc) ∧ sliceT Tryz.prog 102 = none ∧ isAggT Tryz.prog 103 = some false ∧ sizeT Tryz.prog 103 = some 1 ∧ bytesT Tryz.prog 103 = some 8 ∧ zeroT Tryz.prog 103 = some (.nilFunc) := by (repeat' apply And.intro) <;> kernel_rfl
@[go_sem] theorem Tryz.facts20 : sliceT Tryz.prog 103 = none ∧ isAggT Tryz.prog 104 = some false ∧ sizeT Tryz.prog 104 = some 1 ∧ bytesT Tryz.prog 104 = some 8 ∧ zeroT Tryz.prog 104 = some (.nilFunc) ∧ sliceT Tryz.prog 104 = none ∧ isAggT Tryz.prog 105 = some false ∧ Tryz.prog.underlying 105 = some (.slice 26) ∧ isAggT Tryz.prog 106 = some false ∧ sizeT Tryz.prog 106 = some 1 ∧ bytesT Tryz.prog 106 = some 8 ∧ zeroT Tryz.prog 106 = some (.nilFunc) ∧ sliceT Tryz.prog 106 = none ∧ isAggT Tryz.prog 111 = some false ∧ sizeT Tryz.prog 111 = some 1 ∧ bytesT Tryz.prog 111 = some 8 ∧ zeroT Tryz.prog 111 = some (.nilFunc) ∧ sliceT Tryz.prog 111 = none ∧ isAggT Tryz.prog 112 = some false ∧ sizeT Tryz.prog 112 = some 1 := by (repeat' apply And.intro) <;> kernel_rfl
@[go_sem] theorem Tryz.facts21 : bytesT Tryz.prog 112 = some 8 ∧ zeroT Tryz.prog 112 = some (.nilFunc) ∧ sliceT Tryz.prog 112 = none ∧ isAggT Tryz.prog 113 = some false ∧ sizeT Tryz.prog 113 = some 1 ∧ bytesT Tryz.prog 113 = some 8 ∧ zeroT Tryz.prog 113 = some (.int .u64 0) ∧ sliceT Tryz.prog 113 = none ∧ intT Tryz.prog 113 = some .u64 ∧ Tryz.prog.underlying 113 = some (.int .u64) ∧ isAggT Tryz.prog 114 = some true ∧ sizeT Tryz.prog 114 = some 3 ∧ bytesT Tryz.prog 114 = some 40 ∧ zeroT Tryz.prog 114 = some (.agg #[.slice none 0 0, .int .i64 0, .int .u64 0]) ∧ sliceT Tryz.prog 114 = none ∧ structB Tryz.prog 114 = true ∧ fieldT Tryz.prog 114 0 = some (29, 0) ∧ fieldT Tryz.prog 114 1 = some (3, 1) ∧ fieldT Tryz.prog 114 2 = some (113, 2) ∧ isAggT Tryz.prog 115 = some true := by (repeat' apply And.intro) <;> kernel_rfl
@[go_sem] theorem Tryz.facts22 : sizeT Tryz.prog 115 = some 3 ∧ bytesT Tryz.prog 115 = some 40 ∧ zeroT Tryz.prog 115 = some (.agg #[.slice none 0 0, .int .i64 0, .int .u64 0]) ∧ sliceT Tryz.prog 115 = none ∧ structB Tryz.prog 115 = true ∧ fieldT Tryz.prog 115 0 = some (29, 0) ∧ fieldT Tryz.prog 115 1 = some (3, 1) ∧ fieldT Tryz.prog 115 2 = some (113, 2) ∧ isAggT Tryz.prog 116 = some false ∧ sizeT Tryz.prog 116 = some 1 ∧ bytesT Tryz.prog 116 = some 8 ∧ zeroT Tryz.prog 116 = some (.nilFunc) ∧ sliceT Tryz.prog 116 = none ∧ isAggT Tryz.prog 121 = some false ∧ sizeT Tryz.prog 121 = some 1 ∧ bytesT Tryz.prog 121 = some 8 ∧ zeroT Tryz.prog 121 = some (.map none) ∧ sliceT Tryz.prog 121 = none ∧ isAggT Tryz.prog 123 = some false ∧ sizeT Tryz.prog 123 = some 1 := by (repeat' apply And.intro) <;> kernel_rfl
@[go_sem] theorem Tryz.facts23 : bytesT Tryz.prog 123 = some 8 ∧ zeroT Tryz.prog 123 = some (.nilFunc) ∧ sliceT Tryz.prog 123 = none ∧ isAggT Tryz.prog 124 = some false ∧ sizeT Tryz.prog 124 = some 1 ∧ bytesT Tryz.prog 124 = some 8 ∧ zeroT Tryz.prog 124 = some (.nilFunc) ∧ sliceT Tryz.prog 124 = none ∧ isAggT Tryz.prog 125 = some false ∧ sizeT Tryz.prog 125 = some 1 ∧ bytesT Tryz.prog 125 = some 8 ∧ zeroT Tryz.prog 125 = some (.nilFunc) ∧ sliceT Tryz.prog 125 = none ∧ isAggT Tryz.prog 126 = some false ∧ sizeT Tryz.prog 126 = some 1 ∧ bytesT Tryz.prog 126 = some 8 ∧ zeroT Tryz.prog 126 = some (.nilFunc) ∧ sliceT Tryz.prog 126 = none ∧ isAggT Tryz.prog 127 = some false ∧ sizeT Tryz.prog 127 = some 1 := by (repeat' apply And.intro) <;> kernel_rfl
@[go_sem] theorem Tryz.facts24 : bytesT Tryz.prog 127 = some 8 ∧ zeroT Tryz.prog 127 = some (.nilFunc) ∧ sliceT Tryz.prog 127 = none ∧ isAggT Tryz.prog 128 = some false ∧ sizeT Tryz.prog 128 = some 1 ∧ bytesT Tryz.prog 128 = some 8 ∧ zeroT Tryz.prog 128 = some (.nilFunc) ∧ sliceT Tryz.prog 128 = none ∧ isAggT Tryz.prog 129 = some false ∧ sizeT Tryz.prog 129 = some 1 ∧ bytesT Tryz.prog 129 = some 8 ∧ zeroT Tryz.prog 129 = some (.int .u64 0) ∧ sliceT Tryz.prog 129 = none ∧ intT Tryz.prog 129 = some .u64 ∧ Tryz.prog.underlying 129 = some (.int .u64) ∧ isAggT Tryz.prog 131 = some false ∧ sizeT Tryz.prog 131 = some 1 ∧ bytesT Tryz.prog 131 = some 8 ∧ zeroT Tryz.prog 131 = some (.nilFunc) ∧ sliceT Tryz.prog 131 = none := by (repeat' apply And.intro) <;> kernel_rfl
@[go_sem] theorem Tryz.facts25 : isAggT Tryz.prog 133 = some false ∧ sizeT Tryz.prog 133 = some 1 ∧ bytesT Tryz.prog 133 = some 8 ∧ zeroT Tryz.prog 133 = some (.nilFunc) ∧ sliceT Tryz.prog 133 = none ∧ isAggT Tryz.prog 134 = some true ∧ sizeT Tryz.prog 134 = some 1 ∧ bytesT Tryz.prog 134 = some 24 ∧ zeroT Tryz.prog 134 = some (.agg #[.slice none 0 0]) ∧ sliceT Tryz.prog 134 = none ∧ structB Tryz.prog 134 = true ∧ fieldT Tryz.prog 134 0 = some (37, 0) ∧ isAggT Tryz.prog 135 = some true ∧ sliceT Tryz.prog 135 = none ∧ structB Tryz.prog 135 = true ∧ fieldT Tryz.prog 135 0 = some (37, 0) ∧ isAggT Tryz.prog 136 = some false ∧ sizeT Tryz.prog 136 = some 1 ∧ bytesT Tryz.prog 136 = some 8 ∧ zeroT Tryz.prog 136 = some (.pointer none) := by (repeat' apply And.intro) <;> kernel_rfl
@[go_sem] theorem Tryz.facts26 : sliceT Tryz.prog 136 = none ∧ isAggT Tryz.prog 137 = some false ∧ sizeT Tryz.prog 137 = some 1 ∧ bytesT Tryz.prog 137 = some 24 ∧ zeroT Tryz.prog 137 = some (.slice none 0 0) ∧ Tryz.prog.underlying 137 = some (.slice 141) ∧ isAggT Tryz.prog 139 = some false ∧ sizeT Tryz.prog 139 = some 1 ∧ bytesT Tryz.prog 139 = some 8 ∧ zeroT Tryz.prog 139 = some (.nilFunc) ∧ sliceT Tryz.prog 139 = none ∧ isAggT Tryz.prog 140 = some true ∧ sizeT Tryz.prog 140 = some 3 ∧ bytesT Tryz.prog 140 = some 56 ∧ zeroT Tryz.prog 140 = some (.agg #[.slice none 0 0, .slice none 0 0, .map none]) ∧ sliceT Tryz.prog 140 = none ∧ structB Tryz.prog 140 = true ∧ fieldT Tryz.prog 140 0 = some (29, 0) ∧ fieldT Tryz.prog 140 1 = some (24, 1) ∧ fieldT Tryz.prog 140 2 = some (121, 2) := by (repeat' apply And.intro) <;> kernel_rfl
@[go_sem] theorem Tryz.facts27 : isAggT Tryz.prog 141 = some true ∧ sliceT Tryz.prog 141 = none ∧ structB Tryz.prog 141 = true ∧ fieldT Tryz.prog 141 0 = some (29, 0) ∧ fieldT Tryz.prog 141 1 = some (24, 1) ∧ fieldT Tryz.prog 141 2 = some (121, 2) ∧ isAggT Tryz.prog 142 = some true ∧ sizeT Tryz.prog 142 = some 4 ∧ bytesT Tryz.prog 142 = some 96 ∧ zeroT Tryz.prog 142 = some (.agg #[.slice none 0 0, .slice none 0 0, .slice none 0 0, .slice none 0 0]) ∧ sliceT Tryz.prog 142 = none ∧ structB Tryz.prog 142 = true ∧ fieldT Tryz.prog 142 0 = some (62, 0) ∧ fieldT Tryz.prog 142 1 = some (50, 3) ∧ isAggT Tryz.prog 143 = some true ∧ sizeT Tryz.prog 143 = some 4 ∧ bytesT Tryz.prog 143 = some 96 ∧ zeroT Tryz.prog 143 = some (.agg #[.slice none 0 0, .slice none 0 0, .slice none 0 0, .slice none 0 0]) ∧ sliceT Tryz.prog 143 = none ∧ structB Tryz.prog 143 = true := by (repeat' apply And.intro) <;> kernel_rfl
@[go_sem] theorem Tryz.facts28 : fieldT Tryz.prog 143 0 = some (62, 0) ∧ fieldT Tryz.prog 143 1 = some (50, 3) ∧ isAggT Tryz.prog 145 = some false ∧ sizeT Tryz.prog 145 = some 1 ∧ bytesT Tryz.prog 145 = some 8 ∧ zeroT Tryz.prog 145 = some (.nilFunc) ∧ sliceT Tryz.prog 145 = none ∧ isAggT Tryz.prog 146 = some false ∧ sizeT Tryz.prog 146 = some 1 ∧ bytesT Tryz.prog 146 = some 8 ∧ zeroT Tryz.prog 146 = some (.nilFunc) ∧ sliceT Tryz.prog 146 = none ∧ isAggT Tryz.prog 147 = some false ∧ sizeT Tryz.prog 147 = some 1 ∧ bytesT Tryz.prog 147 = some 24 ∧ zeroT Tryz.prog 147 = some (.slice none 0 0) ∧ Tryz.prog.underlying 147 = some (.slice 149) ∧ isAggT Tryz.prog 149 = some true ∧ sliceT Tryz.prog 149 = none ∧ structB Tryz.prog 149 = true := by (repeat' apply And.intro) <;> kernel_rfl
@[go_sem] theorem Tryz.facts29 : fieldT Tryz.prog 149 0 = some (57, 0) ∧ fieldT Tryz.prog 149 1 = some (57, 3) ∧ isAggT Tryz.prog 151 = some false ∧ sizeT Tryz.prog 151 = some 1 ∧ bytesT Tryz.prog 151 = some 24 ∧ zeroT Tryz.prog 151 = some (.slice none 0 0) ∧ Tryz.prog.underlying 151 = some (.slice 154) ∧ isAggT Tryz.prog 152 = some false ∧ sizeT Tryz.prog 152 = some 1 ∧ bytesT Tryz.prog 152 = some 8 ∧ zeroT Tryz.prog 152 = some (.nilFunc) ∧ sliceT Tryz.prog 152 = none ∧ isAggT Tryz.prog 153 = some true ∧ sizeT Tryz.prog 153 = some 3 ∧ bytesT Tryz.prog 153 = some 72 ∧ zeroT Tryz.prog 153 = some (.agg #[.slice none 0 0, .slice none 0 0, .slice none 0 0]) ∧ sliceT Tryz.prog 153 = none ∧ structB Tryz.prog 153 = true ∧ fieldT Tryz.prog 153 0 = some (29, 0) ∧ fieldT Tryz.prog 153 1 = some (24, 1) := by (repeat' apply And.intro) <;> kernel_rfl
@[go_sem] theorem Tryz.facts30 : fieldT Tryz.prog 153 2 = some (78, 2) ∧ isAggT Tryz.prog 154 = some true ∧ sliceT Tryz.prog 154 = none ∧ structB Tryz.prog 154 = true ∧ fieldT Tryz.prog 154 0 = some (29, 0) ∧ fieldT Tryz.prog 154 1 = some (24, 1) ∧ fieldT Tryz.prog 154 2 = some (78, 2) ∧ isAggT Tryz.prog 155 = some false ∧ sizeT Tryz.prog 155 = some 1 ∧ bytesT Tryz.prog 155 = some 8 ∧ zeroT Tryz.prog 155 = some (.nilFunc) ∧ sliceT Tryz.prog 155 = none ∧ isAggT Tryz.prog 156 = some false ∧ sizeT Tryz.prog 156 = some 1 ∧ bytesT Tryz.prog 156 = some 8 ∧ zeroT Tryz.prog 156 = some (.nilFunc) ∧ sliceT Tryz.prog 156 = none ∧ isAggT Tryz.prog 157 = some false ∧ sizeT Tryz.prog 157 = some 1 ∧ bytesT Tryz.prog 157 = some 8 := by (repeat' apply And.intro) <;> kernel_rfl
@[go_sem] theorem Tryz.facts31 : zeroT Tryz.prog 157 = some (.nilFunc) ∧ sliceT Tryz.prog 157 = none ∧ isAggT Tryz.prog 158 = some false ∧ sizeT Tryz.prog 158 = some 1 ∧ bytesT Tryz.prog 158 = some 8 ∧ zeroT Tryz.prog 158 = some (.nilFunc) ∧ sliceT Tryz.prog 158 = none ∧ isAggT Tryz.prog 159 = some false ∧ sizeT Tryz.prog 159 = some 1 ∧ bytesT Tryz.prog 159 = some 8 ∧ zeroT Tryz.prog 159 = some (.nilFunc) ∧ sliceT Tryz.prog 159 = none ∧ isAggT Tryz.prog 160 = some false ∧ sizeT Tryz.prog 160 = some 1 ∧ bytesT Tryz.prog 160 = some 8 ∧ zeroT Tryz.prog 160 = some (.nilFunc) ∧ sliceT Tryz.prog 160 = none ∧ isAggT Tryz.prog 161 = some false ∧ sizeT Tryz.prog 161 = some 1 ∧ bytesT Tryz.prog 161 = some 8 := by (repeat' apply And.intro) <;> kernel_rfl
@[go_sem] theorem Tryz.facts32 : zeroT Tryz.prog 161 = some (.nilFunc) ∧ sliceT Tryz.prog 161 = none ∧ isAggT Tryz.prog 162 = some false ∧ sizeT Tryz.prog 162 = some 1 ∧ bytesT Tryz.prog 162 = some 8 ∧ zeroT Tryz.prog 162 = some (.nilFunc) ∧ sliceT Tryz.prog 162 = none ∧ isAggT Tryz.prog 163 = some false ∧ sizeT Tryz.prog 163 = some 1 ∧ bytesT Tryz.prog 163 = some 8 ∧ zeroT Tryz.prog 163 = some (.nilFunc) ∧ sliceT Tryz.prog 163 = none ∧ isAggT Tryz.prog 164 = some false ∧ sizeT Tryz.prog 164 = some 1 ∧ bytesT Tryz.prog 164 = some 8 ∧ zeroT Tryz.prog 164 = some (.nilFunc) ∧ sliceT Tryz.prog 164 = none ∧ isAggT Tryz.prog 165 = some false ∧ sizeT Tryz.prog 165 = some 1 ∧ bytesT Tryz.prog 165 = some 8 := by (repeat' apply And.intro) <;> kernel_rfl
@[go_sem] theorem Tryz.facts33 : zeroT Tryz.prog 165 = some (.nilFunc) ∧ sliceT Tryz.prog 165 = none ∧ isAggT Tryz.prog 169 = some false ∧ sizeT Tryz.prog 169 = some 1 ∧ bytesT Tryz.prog 169 = some 8 ∧ zeroT Tryz.prog 169 = some (.nilFunc) ∧ sliceT Tryz.prog 169 = none ∧ isAggT Tryz.prog 171 = some false ∧ sizeT Tryz.prog 171 = some 1 ∧ bytesT Tryz.prog 171 = some 8 ∧ zeroT Tryz.prog 171 = some (.nilFunc) ∧ sliceT Tryz.prog 171 = none ∧ isAggT Tryz.prog 172 = some false ∧ sizeT Tryz.prog 172 = some 1 ∧ bytesT Tryz.prog 172 = some 8 ∧ zeroT Tryz.prog 172 = some (.nilFunc) ∧ sliceT Tryz.prog 172 = none ∧ isAggT Tryz.prog 173 = some false ∧ sizeT Tryz.prog 173 = some 1 ∧ bytesT Tryz.prog 173 = some 8 := by (repeat' apply And.intro) <;> kernel_rfl
@[go_sem] theorem Tryz.facts34 : zeroT Tryz.prog 173 = some (.nilFunc) ∧ sliceT Tryz.prog 173 = none ∧ isAggT Tryz.prog 174 = some false ∧ sizeT Tryz.prog 174 = some 1 ∧ bytesT Tryz.prog 174 = some 8 ∧ zeroT Tryz.prog 174 = some (.nilFunc) ∧ sliceT Tryz.prog 174 = none ∧ isAggT Tryz.prog 175 = some false ∧ sizeT Tryz.prog 175 = some 1 ∧ bytesT Tryz.prog 175 = some 8 ∧ zeroT Tryz.prog 175 = some (.nilFunc) ∧ sliceT Tryz.prog 175 = none ∧ isAggT Tryz.prog 176 = some false ∧ sizeT Tryz.prog 176 = some 1 ∧ bytesT Tryz.prog 176 = some 8 ∧ zeroT Tryz.prog 176 = some (.nilFunc) ∧ sliceT Tryz.prog 176 = none ∧ isAggT Tryz.prog 180 = some false ∧ sizeT Tryz.prog 180 = some 1 ∧ bytesT Tryz.prog 180 = some 8 := by (repeat' apply And.intro) <;> kernel_rfl
@[go_sem] theorem Tryz.facts35 : zeroT Tryz.prog 180 = some (.nilFunc) ∧ sliceT Tryz.prog 180 = none ∧ isAggT Tryz.prog 185 = some false ∧ sizeT Tryz.prog 185 = some 1 ∧ bytesT Tryz.prog 185 = some 8 ∧ zeroT Tryz.prog 185 = some (.nilFunc) ∧ sliceT Tryz.prog 185 = none ∧ isAggT Tryz.prog 186 = some true ∧ sizeT Tryz.prog 186 = some 8 ∧ bytesT Tryz.prog 186 = some 64 ∧ sliceT Tryz.prog 186 = none ∧ arrayT Tryz.prog 186 = some (8, 185) ∧ Tryz.prog.underlying 186 = some (.array 8 185) ∧ isAggT Tryz.prog 194 = some false ∧ sizeT Tryz.prog 194 = some 1 ∧ bytesT Tryz.prog 194 = some 8 ∧ zeroT Tryz.prog 194 = some (.nilFunc) ∧ sliceT Tryz.prog 194 = none ∧ isAggT Tryz.prog 195 = some false ∧ sizeT Tryz.prog 195 = some 1 := by (repeat' apply And.intro) <;> kernel_rfl
@[go_sem] theorem Tryz.facts36 : bytesT Tryz.prog 195 = some 8 ∧ zeroT Tryz.prog 195 = some (.nilFunc) ∧ sliceT Tryz.prog 195 = none ∧ isAggT Tryz.prog 196 = some false ∧ sizeT Tryz.prog 196 = some 1 ∧ bytesT Tryz.prog 196 = some 8 ∧ zeroT Tryz.prog 196 = some (.nilFunc) ∧ sliceT Tryz.prog 196 = none ∧ isAggT Tryz.prog 197 = some false ∧ sizeT Tryz.prog 197 = some 1 ∧ bytesT Tryz.prog 197 = some 8 ∧ zeroT Tryz.prog 197 = some (.nilFunc) ∧ sliceT Tryz.prog 197 = none ∧ isAggT Tryz.prog 198 = some false ∧ sizeT Tryz.prog 198 = some 1 ∧ bytesT Tryz.prog 198 = some 8 ∧ zeroT Tryz.prog 198 = some (.nilFunc) ∧ sliceT Tryz.prog 198 = none ∧ isAggT Tryz.prog 199 = some false ∧ sizeT Tryz.prog 199 = some 1 := by (repeat' apply And.intro) <;> kernel_rfl
@[go_sem] theorem Tryz.facts37 : bytesT Tryz.prog 199 = some 8 ∧ zeroT Tryz.prog 199 = some (.nilFunc) ∧ sliceT Tryz.prog 199 = none ∧ isAggT Tryz.prog 201 = some false ∧ sizeT Tryz.prog 201 = some 1 ∧ bytesT Tryz.prog 201 = some 8 ∧ zeroT Tryz.prog 201 = some (.int .i64 0) ∧ sliceT Tryz.prog 201 = none ∧ intT Tryz.prog 201 = some .i64 ∧ Tryz.prog.underlying 201 = some (.int .i64) ∧ isAggT Tryz.prog 209 = some false ∧ sizeT Tryz.prog 209 = some 1 ∧ bytesT Tryz.prog 209 = some 4 ∧ zeroT Tryz.prog 209 = some (.int .u32 0) ∧ sliceT Tryz.prog 209 = none ∧ intT Tryz.prog 209 = some .u32 ∧ Tryz.prog.underlying 209 = some (.int .u32) ∧ isAggT Tryz.prog 217 = some false ∧ sliceT Tryz.prog 217 = none ∧ isAggT Tryz.prog 218 = some true := by (repeat' apply And.intro) <;> kernel_rfl
@[go_sem] theorem Tryz.facts38 : sizeT Tryz.prog 218 = some 2 ∧ bytesT Tryz.prog 218 = some 16 ∧ zeroT Tryz.prog 218 = some (.agg #[.int .i64 0, .int .i64 0]) ∧ sliceT Tryz.prog 218 = none ∧ structB Tryz.prog 218 = true ∧ fieldT Tryz.prog 218 0 = some (3, 0) ∧ fieldT Tryz.prog 218 1 = some (3, 1) ∧ isAggT Tryz.prog 220 = some false ∧ sizeT Tryz.prog 220 = some 1 ∧ bytesT Tryz.prog 220 = some 24 ∧ zeroT Tryz.prog 220 = some (.slice none 0 0) ∧ Tryz.prog.underlying 220 = some (.slice 217) ∧ intT Tryz.prog 222 = some .u64 ∧ structB Tryz.prog 234 = true ∧ structB Tryz.prog 235 = true ∧ arrayT Tryz.prog 236 = some (0, 16) ∧ structB Tryz.prog 237 = true ∧ structB Tryz.prog 238 = true ∧ intT Tryz.prog 240 = some .u8 ∧ intT Tryz.prog 241 = some .u8 := by (repeat' apply And.intro) <;> kernel_rfl
@[go_sem] theorem Tryz.facts39 : intT Tryz.prog 244 = some .i32 ∧ intT Tryz.prog 245 = some .i32 ∧ structB Tryz.prog 246 = true ∧ structB Tryz.prog 247 = true ∧ callable Tryz.prog 3 = true ∧ callable Tryz.prog 4 = true ∧ callable Tryz.prog 5 = true ∧ callable Tryz.prog 6 = true ∧ callable Tryz.prog 7 = true ∧ callable Tryz.prog 8 = true ∧ callable Tryz.prog 10 = true ∧ callable Tryz.prog 11 = true ∧ callable Tryz.prog 19 = true ∧ callable Tryz.prog 20 = true ∧ callable Tryz.prog 21 = true ∧ callable Tryz.prog 22 = true ∧ callable Tryz.prog 23 = true ∧ callable Tryz.prog 24 = true ∧ callable Tryz.prog 25 = true ∧ callable Tryz.prog 26 = true := by (repeat' apply And.intro) <;> kernel_rfl
@[go_sem] theorem Tryz.facts40 : callable Tryz.prog 27 = true ∧ callable Tryz.prog 28 = true ∧ callable Tryz.prog 29 = true ∧ callable Tryz.prog 30 = true ∧ callable Tryz.prog 31 = true ∧ callable Tryz.prog 32 = true ∧ callable Tryz.prog 33 = true ∧ callable Tryz.prog 34 = true ∧ callable Tryz.prog 35 = true ∧ callable Tryz.prog 36 = true ∧ callable Tryz.prog 37 = true ∧ callable Tryz.prog 38 = true ∧ callable Tryz.prog 39 = true ∧ callable Tryz.prog 40 = true ∧ callable Tryz.prog 41 = true ∧ callable Tryz.prog 42 = true ∧ callable Tryz.prog 43 = true ∧ callable Tryz.prog 44 = true ∧ callable Tryz.prog 46 = true ∧ callable Tryz.prog 47 = true := by (repeat' apply And.intro) <;> kernel_rfl
@[go_sem] theorem Tryz.facts41 : callable Tryz.prog 48 = true ∧ callable Tryz.prog 49 = true ∧ callable Tryz.prog 50 = true ∧ callable Tryz.prog 58 = true ∧ callable Tryz.prog 59 = true ∧ callable Tryz.prog 61 = true ∧ callable Tryz.prog 64 = true ∧ callable Tryz.prog 65 = true ∧ callable Tryz.prog 76 = true ∧ callable Tryz.prog 77 = true ∧ callable Tryz.prog 78 = true ∧ callable Tryz.prog 79 = true ∧ callable Tryz.prog 80 = true ∧ callable Tryz.prog 81 = true ∧ callable Tryz.prog 82 = true ∧ callable Tryz.prog 83 = true ∧ callable Tryz.prog 84 = true ∧ callable Tryz.prog 85 = true ∧ callable Tryz.prog 86 = true ∧ callable Tryz.prog 87 = true := by (repeat' apply And.intro) <;> kernel_rfl
@[go_sem] theorem Tryz.facts42 : callable Tryz.prog 88 = true ∧ callable Tryz.prog 89 = true ∧ callable Tryz.prog 90 = true ∧ callable Tryz.prog 91 = true ∧ callable Tryz.prog 92 = true ∧ callable Tryz.prog 93 = true ∧ callable Tryz.prog 94 = true ∧ callable Tryz.prog 95 = true ∧ callable Tryz.prog 96 = true ∧ callable Tryz.prog 97 = true ∧ callable Tryz.prog 98 = true ∧ callable Tryz.prog 99 = true ∧ callable Tryz.prog 100 = true ∧ callable Tryz.prog 101 = true ∧ callable Tryz.prog 102 = true ∧ callable Tryz.prog 103 = true ∧ callable Tryz.prog 104 = true ∧ callable Tryz.prog 105 = true ∧ callable Tryz.prog 106 = true ∧ callable Tryz.prog 111 = true := by (repeat' apply And.intro) <;> kernel_rfl
@[go_sem] theorem Tryz.facts43 : callable Tryz.prog 112 = true ∧ callable Tryz.prog 113 = true ∧ callable Tryz.prog 114 = true ∧ callable Tryz.prog 116 = true ∧ callable Tryz.prog 123 = true ∧ callable Tryz.prog 124 = true ∧ callable Tryz.prog 125 = true ∧ callable Tryz.prog 126 = true ∧ callable Tryz.prog 127 = true ∧ callable Tryz.prog 128 = true ∧ callable Tryz.prog 129 = true ∧ callable Tryz.prog 130 = true ∧ callable Tryz.prog 131 = true ∧ callable Tryz.prog 132 = true ∧ callable Tryz.prog 133 = true ∧ callable Tryz.prog 134 = true ∧ callable Tryz.prog 135 = true ∧ callable Tryz.prog 136 = true ∧ callable Tryz.prog 137 = true ∧ callable Tryz.prog 138 = true := by (repeat' apply And.intro) <;> kernel_rfl
@[go_sem] theorem Tryz.facts44 : callable Tryz.prog 139 = true ∧ callable Tryz.prog 140 = true ∧ callable Tryz.prog 141 = true ∧ callable Tryz.prog 142 = true ∧ callable Tryz.prog 145 = true ∧ callable Tryz.prog 146 = true ∧ callable Tryz.prog 147 = true ∧ callable Tryz.prog 151 = true ∧ callable Tryz.prog 152 = true ∧ callable Tryz.prog 153 = true ∧ callable Tryz.prog 154 = true ∧ callable Tryz.prog 155 = true ∧ callable Tryz.prog 156 = true ∧ callable Tryz.prog 157 = true ∧ callable Tryz.prog 158 = true ∧ callable Tryz.prog 159 = true ∧ callable Tryz.prog 160 = true ∧ callable Tryz.prog 161 = true ∧ callable Tryz.prog 162 = true ∧ callable Tryz.prog 163 = true := by (repeat' apply And.intro) <;> kernel_rfl
@[go_sem] theorem Tryz.facts45 : callable Tryz.prog 164 = true ∧ callable Tryz.prog 165 = true ∧ callable Tryz.prog 166 = true ∧ callable Tryz.prog 169 = true ∧ callable Tryz.prog 170 = true ∧ callable Tryz.prog 171 = true ∧ callable Tryz.prog 172 = true ∧ callable Tryz.prog 173 = true ∧ callable Tryz.prog 174 = true ∧ callable Tryz.prog 175 = true ∧ callable Tryz.prog 176 = true ∧ callable Tryz.prog 177 = true ∧ callable Tryz.prog 178 = true ∧ callable Tryz.prog 179 = true ∧ callable Tryz.prog 180 = true ∧ callable Tryz.prog 181 = true ∧ callable Tryz.prog 182 = true ∧ callable Tryz.prog 183 = true ∧ callable Tryz.prog 184 = true ∧ callable Tryz.prog 185 = true := by (repeat' apply And.intro) <;> kernel_rfl
@[go_sem] theorem Tryz.facts46 : callable Tryz.prog 186 = true ∧ callable Tryz.prog 187 = true ∧ callable Tryz.prog 188 = true ∧ callable Tryz.prog 189 = true ∧ callable Tryz.prog 190 = true ∧ callable Tryz.prog 191 = true ∧ callable Tryz.prog 192 = true ∧ callable Tryz.prog 193 = true ∧ callable Tryz.prog 194 = true ∧ callable Tryz.prog 195 = true ∧ callable Tryz.prog 196 = true ∧ callable Tryz.prog 197 = true ∧ callable Tryz.prog 198 = true ∧ callable Tryz.prog 199 = true := by (repeat' apply And.intro) <;> kernel_rfl
end Go.Abs
namespace Go.Proofs
end Go.Proofs

namespace Go.Abs
open Go
abbrev iV (n : Int) : AV := .raw (.int .i64 n)
abbrev bV (b : Bool) : AV := .raw (.bool b)
abbrev nilV : AV := .raw (.slice none 0 0)
@[go_sem] theorem getD_map_lt {α β : Type} [Inhabited α] {f : α → β} {l : List α} {i : Nat} {d : β} (h : i < l.length) : (l.map f).getD i d = f (l.getD i default) := by
 simp [List.getD, h]
@[go_sem] theorem natCast_nonneg' (n : Nat) : (0 ≤ (n : Int)) = True := by simp
@[go_sem] theorem natCast_lt (m n : Nat) : ((m : Int) < (n : Int)) = (m < n) := by simp
@[go_sem] theorem natCast_le (m n : Nat) : ((m : Int) ≤ (n : Int)) = (m ≤ n) := by simp
attribute [go_sem] Int.toNat_natCast List.length_map List.length_append List.length_take Nat.zero_add Nat.add_zero
theorem wrap_i64 {n : Int} (h0 : -9223372036854775808 ≤ n) (h1 : n ≤ 9223372036854775807) : IntKind.i64.wrap n = n := by
 rw [IntKind.wrap_i64]; omega
theorem wrap_succ {n : Nat} (h : n < 9223372036854775807) : IntKind.i64.wrap ((n : Int) + 1) = ((n + 1 : Nat) : Int) := by
 rw [wrap_i64 (by omega) (by omega)]; omega
structure Plate where
 number : Int
 letter : Int
 deriving DecidableEq, Inhabited
structure House where
 street : Int
 plate : Plate
 deriving DecidableEq, Inhabited
abbrev Plan := List (List Plate)
@[reducible] def Plate.enc (p : Plate) : AV := .agg [iV p.number, iV p.letter]
@[reducible] def House.enc (p : House) : AV := .agg [iV p.street, iV p.plate.number, iV p.plate.letter]
@[reducible] def encStreet (l : List Plate) : AV := .list (l.map Plate.enc)
@[reducible] def encPlan (p : Plan) : AV := .agg [.list (p.map encStreet)]
attribute [go_sem] Plate.enc House.enc encStreet encPlan
def housesFrom : Nat → Plan → List House
 | _, [] => []
 | i, l :: r => l.map (fun x => ⟨i, x⟩) ++ housesFrom (i + 1) r
def housesOf (p : Plan) : List House := housesFrom 0 p
end Go.Abs

namespace Go.Abs
open Go
structure Change where
 kind : Int
 street : Int
 other : Int
 src : Plate
 dst : Plate
 deriving DecidableEq, Inhabited
structure Fact where
 src : House
 dst : House
 deriving DecidableEq, Inhabited
structure Story where
 first : Plan
 steps : List (List Change)
 facts : List Fact
 deriving DecidableEq, Inhabited
@[reducible] def Change.enc (c : Change) : AV := .agg [iV c.kind, iV c.street, iV c.other, iV c.src.number, iV c.src.letter, iV c.dst.number, iV c.dst.letter]
@[reducible] def Fact.enc (f : Fact) : AV := .agg [iV f.src.street, iV f.src.plate.number, iV f.src.plate.letter, iV f.dst.street, iV f.dst.plate.number, iV f.dst.plate.letter]
@[reducible] def encStep (l : List Change) : AV := .agg [.list (l.map Change.enc)]
@[reducible] def Story.enc (s : Story) : AV := .agg [.list (s.first.map encStreet), .list (s.steps.map encStep), .list (s.facts.map Fact.enc)]
@[reducible] def encHouses (l : List House) : AV := .list (l.map House.enc)
attribute [go_sem] Change.enc Fact.enc encStep Story.enc encHouses
theorem drop_cons {α : Type} [Inhabited α] {l : List α} {i : Nat} (h : i < l.length) : l.drop i = l.getD i default :: l.drop (i + 1) := by
 rw [List.drop_eq_getElem_cons h]; simp [List.getD, h]
theorem drop_end {α : Type} {l : List α} {i : Nat} (h : l.length ≤ i) : l.drop i = [] := List.drop_of_length_le h
theorem getD_mem {α : Type} [Inhabited α] {l : List α} {i : Nat} (h : i < l.length) : l.getD i default ∈ l := by simp [List.getD, h]
def betw (n lo hi : Int) : Bool := decide (lo ≤ n) && decide (n ≤ hi)
def Plate.ok (x : Plate) : Bool := betw x.number 1 40 && betw x.letter 0 4
def Plate.lt (a b : Plate) : Bool := decide (a.number < b.number) || (decide (a.number = b.number) && decide (a.letter < b.letter))
def House.lt (a b : House) : Bool := decide (a.street < b.street) || (decide (a.street = b.street) && a.plate.lt b.plate)
def cmpN (a b : Int) : Int := if a < b then -1 else if b < a then 1 else 0
def orI (a b : Int) : Int := if a = 0 then b else a
def cmpP (a b : Plate) : Int := orI (cmpN a.number b.number) (cmpN a.letter b.letter)
def cmpH (a b : House) : Int := orI (cmpN a.street b.street) (cmpP a.plate b.plate)
def checkRow : Option Plate → List Plate → Int
 | _, [] => 0
 | none, x :: r => if x.ok = true then checkRow (some x) r else 1
 | some y, x :: r => if x.ok = true then (if y.lt x = true then checkRow (some x) r else 5) else 1
def checkRows : Plan → Int
 | [] => 0
 | l :: r => if 8 < l.length then 6 else if checkRow none l = 0 then checkRows r else checkRow none l
def check (p : Plan) : Int := if p.length = 0 then 7 else if 3 < p.length then 6 else checkRows p
structure Sound (l : List Plate) : Prop where
 len : l.length ≤ 8
 ok : ∀ x, x ∈ l → x.ok = true
 sorted : l.Pairwise (fun x y => x.lt y = true)
structure Valid (p : Plan) : Prop where
 ne : 0 < p.length
 len : p.length ≤ 3
 rows : ∀ l, l ∈ p → Sound l
def rowAt (p : Plan) (s : Int) : List Plate := p.getD s.toNat default
def oddB (x : Plate) : Bool := decide (x.number % 2 = 1)
def base (l : List Plate) : Int := let n := l.foldl (fun n x => max n x.number) 0; n + n % 2
def idxP (l : List Plate) (x : Plate) : Int := if x ∈ l then (l.idxOf x : Nat) else -1
def letter (l : List Plate) (n : Int) : Int :=
 if ⟨n, 1⟩ ∉ l then 1 else if ⟨n, 2⟩ ∉ l then 2 else if ⟨n, 3⟩ ∉ l then 3 else if ⟨n, 4⟩ ∉ l then 4 else 0
def fitsE (p : Plan) (c : Change) : Int :=
 let l := rowAt p c.street
 if c.kind = 4 then
  let o := rowAt p c.other
  if 8 < l.length + o.length then 6 else if l.any (fun x => decide (40 < x.number + base o)) = true then 1 else 0
 else if c.kind = 5 then if c.src ∉ l then 3 else if l.length = 8 ∨ letter l c.src.number = 0 then 6 else 0
 else if c.kind = 6 then if c.src ∉ l then 3 else 0
 else if c.kind = 7 then if c.src ∉ l ∨ c.dst ∉ l then 3 else if c.dst.lt c.src = true then 5 else if 0 < (rowAt p c.other).length then 12 else 0
 else 0
def zeroPlate : Plate := ⟨0, 0⟩
def can (p : Plan) (c : Change) : Int :=
 if betw c.kind 1 7 = false then 8
 else if betw c.street 0 (p.length - 1) = false then 3
 else if (c.kind = 4 ∨ c.kind = 7) ∧ betw c.other 0 (p.length - 1) = false then 3
 else if (c.kind = 4 ∨ c.kind = 7) ∧ c.other = c.street then 4
 else if (¬ (c.kind = 4 ∨ c.kind = 7) ∧ c.other ≠ 0) ∨ (¬ 5 ≤ c.kind ∧ c.src ≠ zeroPlate) ∨ (¬ c.kind = 7 ∧ c.dst ≠ zeroPlate) then 1
 else fitsE p c
def toP (p : Plan) (c : Change) (x : Plate) : List House :=
 let l := rowAt p c.street
 let own := l.filter (fun y => oddB y == oddB x)
 let k := own.idxOf x
 if c.kind = 1 then [⟨c.street, own.getD (own.length - 1 - k) default⟩]
 else if c.kind = 2 then [⟨c.street, ⟨if oddB x = true then x.number + 1 else x.number - 1, x.letter⟩⟩]
 else if c.kind = 3 then [⟨c.street, ⟨2 * (k : Nat) + 2 - x.number % 2, 0⟩⟩]
 else if c.kind = 4 then [⟨c.other, ⟨x.number + base (rowAt p c.other), x.letter⟩⟩]
 else if c.kind = 5 then if x = c.src then [⟨c.street, x⟩, ⟨c.street, ⟨x.number, letter l x.number⟩⟩] else [⟨c.street, x⟩]
 else if c.kind = 6 then if x = c.src then [] else [⟨c.street, x⟩]
 else if c.kind = 7 then if x.lt c.src = false ∧ c.dst.lt x = false then [⟨c.other, ⟨idxP l x - idxP l c.src + 1, 0⟩⟩] else [⟨c.street, x⟩]
 else [⟨c.street, x⟩]
def mv (p : Plan) (c : Change) (h : House) : List House := if h.street = c.street then toP p c h.plate else [h]
def insH (x : House) : List House → List House
 | [] => [x]
 | y :: r => if y.lt x = true then y :: insH x r else if y = x then y :: r else x :: y :: r
def sortH (l : List House) : List House := l.foldl (fun out x => insH x out) []
def laid (l : List House) (n : Nat) : Plan := (List.range n).map fun (s : Nat) => ((sortH l).filter (fun h => h.street == (s : Int))).map House.plate
def flatMv (p : Plan) (c : Change) : List House := (housesOf p).flatMap (mv p c)
def afterOf (p : Plan) (c : Change) : Plan := laid (flatMv p c) p.length
def errOf (p : Plan) (c : Change) : Int := if check p = 0 then can p c else check p
def changesAt (kind : Int) (p : Plan) (s : Nat) : List Change :=
 if kind = 4 then (List.range p.length).map fun o => ⟨4, s, (o : Nat), zeroPlate, zeroPlate⟩
 else if kind = 5 ∨ kind = 6 then (p.getD s default).map fun x => ⟨kind, s, 0, x, zeroPlate⟩
 else [⟨kind, s, 0, zeroPlate, zeroPlate⟩]
def changesOf (p : Plan) : List Change := ([1, 2, 3, 4, 5, 6] : List Int).flatMap fun k => (List.range p.length).flatMap fun s => (changesAt k p s).filter fun c => decide (can p c = 0)
def firstSome {α β : Type} (f : α → Option β) : List α → Option β
 | [] => none
 | x :: r => match f x with
  | some y => some y
  | none => firstSome f r
def guessN : Nat → Plan → Plan → Option (List Change)
 | 0, p, q => if p = q then some [] else none
 | n + 1, p, q => firstSome (fun c => (guessN n (afterOf p c) q).map (c :: ·)) (changesOf p)
def guessOf (p q : Plan) : Option (List Change) := firstSome (fun n => guessN n p q) [0, 1, 2]
end Go.Abs

namespace Go.Abs
open Go
theorem Plate.lt_iff (a b : Plate) : a.lt b = true ↔ a.number < b.number ∨ (a.number = b.number ∧ a.letter < b.letter) := by simp [Plate.lt]
theorem House.lt_iff (a b : House) : a.lt b = true ↔ a.street < b.street ∨ (a.street = b.street ∧ (a.plate.number < b.plate.number ∨ (a.plate.number = b.plate.number ∧ a.plate.letter < b.plate.letter))) := by simp [House.lt, Plate.lt]
theorem Plate.eq_iff (a b : Plate) : a = b ↔ a.number = b.number ∧ a.letter = b.letter := by cases a; cases b; simp
theorem House.eq_iff (a b : House) : a = b ↔ a.street = b.street ∧ a.plate.number = b.plate.number ∧ a.plate.letter = b.plate.letter := by
 cases a with | mk s p => cases b with | mk t q => cases p; cases q; simp
theorem Plate.lt_trans {a b c : Plate} (h1 : a.lt b = true) (h2 : b.lt c = true) : a.lt c = true := by rw [Plate.lt_iff] at *; omega
theorem House.lt_trans {a b c : House} (h1 : a.lt b = true) (h2 : b.lt c = true) : a.lt c = true := by rw [House.lt_iff] at *; omega
theorem Plate.lt_irrefl (a : Plate) : ¬ a.lt a = true := by rw [Plate.lt_iff]; omega
theorem House.lt_irrefl (a : House) : ¬ a.lt a = true := by rw [House.lt_iff]; omega
theorem House.lt_tri (a b : House) : a.lt b = true ∨ a = b ∨ b.lt a = true := by rw [House.lt_iff, House.lt_iff, House.eq_iff]; omega
theorem Plate.lt_tri (a b : Plate) : a.lt b = true ∨ a = b ∨ b.lt a = true := by rw [Plate.lt_iff, Plate.lt_iff, Plate.eq_iff]; omega
theorem cmpP_lt (a b : Plate) : cmpP a b < 0 ↔ a.lt b = true := by
 rw [Plate.lt_iff]; unfold cmpP orI cmpN; repeat' split
 all_goals omega
theorem cmpH_lt (a b : House) : cmpH a b < 0 ↔ a.lt b = true := by
 rw [House.lt_iff]; unfold cmpH cmpP orI cmpN; repeat' split
 all_goals omega
theorem mem_insH {x z : House} : ∀ {l : List House}, z ∈ insH x l ↔ z = x ∨ z ∈ l
 | [] => by simp [insH]
 | y :: r => by
  simp only [insH]
  split
  ·simp only [List.mem_cons, mem_insH (l := r)]
   constructor
   ·rintro (h | h | h) <;> simp [h]
   ·rintro (h | h | h) <;> simp [h]
  ·split
   ·rename_i e; subst e; simp
   ·simp
abbrev Strict (l : List House) : Prop := l.Pairwise (fun a b => a.lt b = true)
theorem strict_insH {x : House} : ∀ {l : List House}, Strict l → Strict (insH x l)
 | [], _ => by simp [insH, Strict]
 | y :: r, h => by
  obtain ⟨h1, h2⟩ := List.pairwise_cons.1 h
  simp only [insH]
  split
  ·rename_i hy
   refine List.pairwise_cons.2 ⟨fun z hz => ?_, strict_insH h2⟩
   rcases mem_insH.1 hz with rfl | hz
   ·exact hy
   ·exact h1 z hz
  ·rename_i hy
   split
   ·exact h
   ·rename_i hne
    have hxy : x.lt y = true := by
     rcases House.lt_tri x y with h | h | h
     ·exact h
     ·exact absurd h.symm hne
     ·exact absurd h hy
    refine List.pairwise_cons.2 ⟨fun z hz => ?_, h⟩
    rcases List.mem_cons.1 hz with rfl | hz
    ·exact hxy
    ·exact House.lt_trans hxy (h1 z hz)
theorem sortH_aux (l : List House) : ∀ out : List House, Strict out → Strict (l.foldl (fun out x => insH x out) out) ∧ ∀ z, z ∈ l.foldl (fun out x => insH x out) out ↔ z ∈ out ∨ z ∈ l := by
 induction l with
 | nil => intro out h; exact ⟨h, fun z => by simp⟩
 | cons x r ih =>
  intro out h
  obtain ⟨h1, h2⟩ := ih (insH x out) (strict_insH h)
  refine ⟨h1, fun z => ?_⟩
  simp only [List.foldl_cons]
  rw [h2, mem_insH, List.mem_cons]
  constructor
  ·rintro ((h | h) | h) <;> simp [h]
  ·rintro (h | h | h) <;> simp [h]
theorem strict_sortH (l : List House) : Strict (sortH l) := (sortH_aux l [] List.Pairwise.nil).1
theorem mem_sortH {l : List House} {z : House} : z ∈ sortH l ↔ z ∈ l := by
 have := (sortH_aux l [] List.Pairwise.nil).2 z
 simpa [sortH] using this
theorem strict_uniq : ∀ {a b : List House}, Strict a → Strict b → (∀ z, z ∈ a ↔ z ∈ b) → a = b
 | [], [], _, _, _ => rfl
 | [], y :: b, _, _, h => absurd ((h y).2 (by simp)) (by simp)
 | x :: a, [], _, _, h => absurd ((h x).1 (by simp)) (by simp)
 | x :: a, y :: b, ha, hb, h => by
  obtain ⟨a1, a2⟩ := List.pairwise_cons.1 ha
  obtain ⟨b1, b2⟩ := List.pairwise_cons.1 hb
  have hxy : x = y := by
   rcases List.mem_cons.1 ((h x).1 (by simp)) with e | h1
   ·exact e
   ·rcases List.mem_cons.1 ((h y).2 (by simp)) with e | h2
    ·exact e.symm
    ·exact absurd (House.lt_trans (b1 x h1) (a1 y h2)) (House.lt_irrefl _)
  subst hxy
  have : a = b := strict_uniq a2 b2 (fun z => by
   have hz := h z
   simp only [List.mem_cons] at hz
   constructor
   ·intro hm
    rcases hz.1 (.inr hm) with e | hm'
    ·subst e; exact absurd (a1 z hm) (House.lt_irrefl _)
    ·exact hm'
   ·intro hm
    rcases hz.2 (.inr hm) with e | hm'
    ·subst e; exact absurd (b1 z hm) (House.lt_irrefl _)
    ·exact hm')
  rw [this]
theorem sortH_congr {a b : List House} (h : ∀ z, z ∈ a ↔ z ∈ b) : sortH a = sortH b := strict_uniq (strict_sortH _) (strict_sortH _) (fun z => by rw [mem_sortH, mem_sortH, h])
theorem Strict.nodup {l : List House} (h : Strict l) : l.Nodup := h.imp (fun {a b} hab e => by subst e; exact House.lt_irrefl _ hab)
theorem checkRow_zero : ∀ (l : List Plate) (o : Option Plate), checkRow o l = 0 ↔ (∀ x, x ∈ l → x.ok = true) ∧ l.Pairwise (fun x y => x.lt y = true) ∧ ∀ y, o = some y → ∀ x, x ∈ l → y.lt x = true
 | [], o => by cases o <;> simp [checkRow]
 | x :: r, o => by
  have key : checkRow o (x :: r) = 0 ↔ x.ok = true ∧ (∀ y, o = some y → y.lt x = true) ∧ checkRow (some x) r = 0 := by
   cases o with
   | none => simp only [checkRow]; by_cases h : x.ok = true <;> simp [h]
   | some y => simp only [checkRow]; by_cases h : x.ok = true <;> by_cases h' : y.lt x = true <;> simp [h, h']
  rw [key, checkRow_zero r (some x)]
  constructor
  ·rintro ⟨h1, h2, h3, h4, h5⟩
   refine ⟨fun z hz => ?_, List.pairwise_cons.2 ⟨fun z hz => h5 x rfl z hz, h4⟩, fun y e z hz => ?_⟩
   ·rcases List.mem_cons.1 hz with rfl | hz
    ·exact h1
    ·exact h3 z hz
   ·rcases List.mem_cons.1 hz with rfl | hz
    ·exact h2 y e
    ·exact Plate.lt_trans (h2 y e) (h5 x rfl z hz)
  ·rintro ⟨h1, h2, h3⟩
   obtain ⟨h4, h5⟩ := List.pairwise_cons.1 h2
   exact ⟨h1 x (by simp), fun y e => h3 y e x (by simp), fun z hz => h1 z (by simp [hz]), h5, fun y e z hz => by cases e; exact h4 z hz⟩
theorem checkRows_zero : ∀ (p : Plan), checkRows p = 0 ↔ ∀ l, l ∈ p → Sound l
 | [] => by simp [checkRows]
 | l :: r => by
  have key : checkRows (l :: r) = 0 ↔ l.length ≤ 8 ∧ checkRow none l = 0 ∧ checkRows r = 0 := by
   simp only [checkRows]
   by_cases h : 8 < l.length
   ·rw [if_pos h]; exact ⟨fun e => by omega, fun e => by omega⟩
   ·rw [if_neg h]
    by_cases h' : checkRow none l = 0
    ·rw [if_pos h']; exact ⟨fun e => ⟨by omega, h', e⟩, fun e => e.2.2⟩
    ·rw [if_neg h']; exact ⟨fun e => absurd e h', fun e => absurd e.2.1 h'⟩
  rw [key, checkRows_zero r, checkRow_zero]
  constructor
  ·rintro ⟨h1, ⟨h2, h3, _⟩, h4⟩ m hm
   rcases List.mem_cons.1 hm with rfl | hm
   ·exact ⟨h1, h2, h3⟩
   ·exact h4 m hm
  ·intro h
   have hl := h l (by simp)
   exact ⟨hl.len, ⟨hl.ok, hl.sorted, fun y e => by cases e⟩, fun m hm => h m (by simp [hm])⟩
theorem check_zero (p : Plan) : check p = 0 ↔ Valid p := by
 unfold check
 by_cases h : p.length = 0
 ·simp only [h, if_true]; exact ⟨fun e => by omega, fun v => absurd v.ne (by omega)⟩
 ·by_cases h' : 3 < p.length
  ·simp only [h, h', if_true, if_false]; exact ⟨fun e => by omega, fun v => absurd v.len (by omega)⟩
  ·simp only [h, h', if_false, checkRows_zero]
   exact ⟨fun hr => ⟨by omega, by omega, hr⟩, fun v => v.rows⟩
theorem housesFrom_eq (k : Nat) (p : Plan) : housesFrom k p = (List.range p.length).flatMap fun s => (p.getD s default).map fun x => (⟨((k + s : Nat) : Int), x⟩ : House) := by
 induction p generalizing k with
 | nil => simp [housesFrom]
 | cons l r ih =>
  simp only [housesFrom, List.length_cons, List.range_succ_eq_map, List.flatMap_cons, List.flatMap_map, ih]
  simp [Nat.add_assoc, Nat.add_comm 1]
theorem housesOf_eq (p : Plan) : housesOf p = (List.range p.length).flatMap fun s => (p.getD s default).map fun x => (⟨(s : Nat), x⟩ : House) := by
 have := housesFrom_eq 0 p
 simpa [housesOf] using this
theorem mem_houses {p : Plan} {h : House} : h ∈ housesOf p ↔ 0 ≤ h.street ∧ h.street < p.length ∧ h.plate ∈ rowAt p h.street := by
 rw [housesOf_eq]
 simp only [List.mem_flatMap, List.mem_range, List.mem_map, rowAt]
 constructor
 ·rintro ⟨s, hs, x, hx, rfl⟩
  exact ⟨by simp, by simp; exact hs, by simpa using hx⟩
 ·rintro ⟨h0, h1, h2⟩
  refine ⟨h.street.toNat, by omega, h.plate, h2, ?_⟩
  cases h; simp at *; omega
theorem rowAt_mem {p : Plan} {s : Int} (h0 : 0 ≤ s) (h1 : s < p.length) : rowAt p s ∈ p := getD_mem (by omega)
theorem Valid.row {p : Plan} (v : Valid p) (s : Int) : Sound (rowAt p s) := by
 unfold rowAt
 by_cases h : s.toNat < p.length
 ·exact v.rows _ (getD_mem h)
 ·simp only [List.getD_eq_getElem?_getD, List.getElem?_eq_none (Nat.le_of_not_lt h), Option.getD_none]
  show Sound []
  exact ⟨by simp, fun x hx => by simp at hx, List.Pairwise.nil⟩
theorem strict_houses {p : Plan} (v : Valid p) : Strict (housesOf p) := by
 rw [housesOf_eq]
 have key : ∀ n, n ≤ p.length → Strict ((List.range n).flatMap fun s => (p.getD s default).map fun x => (⟨(s : Nat), x⟩ : House)) := by
  intro n
  induction n with
  | zero => intro _; simp [Strict]
  | succ n ih =>
   intro hn
   rw [List.range_succ, List.flatMap_append]
   refine List.pairwise_append.2 ⟨ih (by omega), ?_, fun a ha b hb => ?_⟩
   ·simp only [List.flatMap_cons, List.flatMap_nil, List.append_nil]
    rw [List.pairwise_map]
    exact (v.rows _ (getD_mem (by omega))).sorted.imp (fun {x y} h => by rw [House.lt_iff]; rw [Plate.lt_iff] at h; exact .inr ⟨rfl, h⟩)
   ·simp only [List.mem_flatMap, List.mem_range, List.mem_map, List.flatMap_cons, List.flatMap_nil, List.append_nil] at ha hb
    obtain ⟨s, hs, x, _, rfl⟩ := ha
    obtain ⟨y, _, rfl⟩ := hb
    rw [House.lt_iff]; left; simp; omega
 exact key _ (Nat.le_refl _)
end Go.Abs

namespace Go.Abs
open Go
theorem nodup_len {α : Type} [DecidableEq α] : ∀ {a b : List α}, a.Nodup → (∀ x, x ∈ a → x ∈ b) → a.length ≤ b.length
 | [], _, _, _ => by simp
 | y :: r, b, hn, hs => by
  obtain ⟨hy, hr⟩ := List.nodup_cons.1 hn
  have hyb := hs y (by simp)
  have hlen := List.length_erase_of_mem hyb
  have hpos : 0 < b.length := List.length_pos_of_mem hyb
  have := nodup_len (b := b.erase y) hr (fun z hz => (List.mem_erase_of_ne (fun e => by subst e; exact hy hz)).2 (hs z (by simp [hz])))
  simp; omega
theorem strict_houses' {p : Plan} (v : ∀ l, l ∈ p → l.Pairwise (fun x y : Plate => x.lt y = true)) : Strict (housesOf p) := by
 rw [housesOf_eq]
 have key : ∀ n, n ≤ p.length → Strict ((List.range n).flatMap fun s => (p.getD s default).map fun x => (⟨(s : Nat), x⟩ : House)) := by
  intro n
  induction n with
  | zero => intro _; simp [Strict]
  | succ n ih =>
   intro hn
   rw [List.range_succ, List.flatMap_append]
   refine List.pairwise_append.2 ⟨ih (by omega), ?_, fun a ha b hb => ?_⟩
   ·simp only [List.flatMap_cons, List.flatMap_nil, List.append_nil]
    rw [List.pairwise_map]
    exact (v _ (getD_mem (by omega))).imp (fun {x y} h => by rw [House.lt_iff]; rw [Plate.lt_iff] at h; exact .inr ⟨rfl, h⟩)
   ·simp only [List.mem_flatMap, List.mem_range, List.mem_map, List.flatMap_cons, List.flatMap_nil, List.append_nil] at ha hb
    obtain ⟨s, hs, x, _, rfl⟩ := ha
    obtain ⟨y, _, rfl⟩ := hb
    rw [House.lt_iff]; left; simp; omega
 exact key _ (Nat.le_refl _)
theorem laid_length (l : List House) (n : Nat) : (laid l n).length = n := by simp [laid]
theorem laid_row (l : List House) (n : Nat) {s : Int} (h0 : 0 ≤ s) (h1 : s < n) : rowAt (laid l n) s = ((sortH l).filter (fun h => h.street == s)).map House.plate := by
 unfold rowAt laid
 have : s.toNat < n := by omega
 simp only [List.getD_eq_getElem?_getD, List.getElem?_map, List.getElem?_range this, Option.map_some, Option.getD_some]
 congr 1
 refine List.filter_congr (fun h _ => ?_)
 rw [Int.toNat_of_nonneg h0]
theorem mem_laid_row {l : List House} {n : Nat} {s : Int} (h0 : 0 ≤ s) (h1 : s < n) {x : Plate} : x ∈ rowAt (laid l n) s ↔ (⟨s, x⟩ : House) ∈ l := by
 rw [laid_row l n h0 h1]
 simp only [List.mem_map, List.mem_filter, mem_sortH, beq_iff_eq]
 constructor
 ·rintro ⟨h, ⟨hm, rfl⟩, rfl⟩; exact hm
 ·intro h; exact ⟨_, ⟨h, rfl⟩, rfl⟩
theorem sorted_laid_row {l : List House} {n : Nat} {s : Int} (h0 : 0 ≤ s) (h1 : s < n) : (rowAt (laid l n) s).Pairwise (fun x y => x.lt y = true) := by
 rw [laid_row l n h0 h1, List.pairwise_map]
 refine ((strict_sortH l).filter _).imp_of_mem (fun {a b} ha hb hab => ?_)
 have e1 : a.street = s := by simpa using (List.mem_filter.1 ha).2
 have e2 : b.street = s := by simpa using (List.mem_filter.1 hb).2
 rw [House.lt_iff] at hab; rw [Plate.lt_iff]; omega
theorem mem_rowAt {p : Plan} {l : List Plate} (h : l ∈ p) : ∃ s : Int, 0 ≤ s ∧ s < p.length ∧ rowAt p s = l := by
 obtain ⟨i, hi, rfl⟩ := List.getElem_of_mem h
 exact ⟨i, by omega, by omega, by simp [rowAt, hi]⟩
theorem houses_laid {l : List House} {n : Nat} (h : ∀ z, z ∈ l → 0 ≤ z.street ∧ z.street < n) : housesOf (laid l n) = sortH l := by
 refine strict_uniq (strict_houses' (fun r hr => ?_)) (strict_sortH l) (fun z => ?_)
 ·obtain ⟨s, h0, h1, rfl⟩ := mem_rowAt hr
  rw [laid_length] at h1
  exact sorted_laid_row h0 h1
 ·rw [mem_houses, mem_sortH, laid_length]
  constructor
  ·rintro ⟨h0, h1, h2⟩; exact (mem_laid_row h0 h1).1 h2
  ·intro hz
   obtain ⟨h0, h1⟩ := h z hz
   exact ⟨h0, h1, (mem_laid_row h0 h1).2 hz⟩
theorem plan_ext {p q : Plan} (h : p.length = q.length) (hr : ∀ s : Int, 0 ≤ s → s < p.length → rowAt p s = rowAt q s) : p = q := by
 apply List.ext_getElem h
 intro i h1 h2
 have := hr i (by omega) (by omega)
 simpa [rowAt, h1, h2] using this
theorem plates_uniq : ∀ {a b : List Plate}, a.Pairwise (fun x y => x.lt y = true) → b.Pairwise (fun x y => x.lt y = true) → (∀ z, z ∈ a ↔ z ∈ b) → a = b := by
 intro a b ha hb h
 have key : ∀ {l : List Plate}, l.Pairwise (fun x y => x.lt y = true) → Strict (l.map fun x => (⟨0, x⟩ : House)) := fun {l} hl => by
  rw [Strict, List.pairwise_map]
  exact hl.imp (fun {x y} h => by rw [House.lt_iff]; rw [Plate.lt_iff] at h; exact .inr ⟨rfl, h⟩)
 have := strict_uniq (key ha) (key hb) (fun z => by
  simp only [List.mem_map]
  constructor
  ·rintro ⟨x, hx, rfl⟩; exact ⟨x, (h x).1 hx, rfl⟩
  ·rintro ⟨x, hx, rfl⟩; exact ⟨x, (h x).2 hx, rfl⟩)
 have h2 := congrArg (List.map House.plate) this
 simpa [List.map_map, Function.comp_def] using h2
theorem laid_houses {p : Plan} (v : Valid p) : laid (housesOf p) p.length = p := by
 refine plan_ext (laid_length _ _) (fun s h0 h1 => ?_)
 rw [laid_length] at h1
 refine plates_uniq (sorted_laid_row h0 h1) (v.row s).sorted (fun z => ?_)
 rw [mem_laid_row h0 h1, mem_houses]
 exact ⟨fun h => h.2.2, fun h => ⟨h0, h1, h⟩⟩
structure Fit (p : Plan) (c : Change) : Prop where
 kind : 1 ≤ c.kind ∧ c.kind ≤ 7
 street : 0 ≤ c.street ∧ c.street < p.length
 other : c.kind = 4 ∨ c.kind = 7 → 0 ≤ c.other ∧ c.other < p.length ∧ c.other ≠ c.street
 fits : fitsE p c = 0
theorem betw_iff {n a b : Int} : betw n a b = true ↔ a ≤ n ∧ n ≤ b := by simp [betw]
theorem betw_no {n a b : Int} : betw n a b = false ↔ ¬ (a ≤ n ∧ n ≤ b) := by rw [← betw_iff]; simp
theorem Fit.of_can {p : Plan} {c : Change} (h : can p c = 0) : Fit p c := by
 unfold can at h
 split at h
 ·omega
 rename_i h1
 split at h
 ·omega
 rename_i h2
 split at h
 ·omega
 rename_i h3
 split at h
 ·omega
 rename_i h4
 split at h
 ·omega
 simp only [Bool.not_eq_false, betw_iff, betw_no] at h1 h2 h3
 exact ⟨by omega, by omega, fun hk => by omega, h⟩
theorem idx_lt {l : List Plate} {x : Plate} (h : x ∈ l) : l.idxOf x < l.length := List.idxOf_lt_length_of_mem h
theorem idx_get {l : List Plate} {x : Plate} (h : x ∈ l) : l[l.idxOf x]'(idx_lt h) = x := by simp [List.getElem_idxOf]
theorem idx_inj {l : List Plate} {x y : Plate} (hx : x ∈ l) (hy : y ∈ l) (h : l.idxOf x = l.idxOf y) : x = y := by
 rw [← idx_get hx, ← idx_get hy]; congr 1
theorem Sound.nodup {l : List Plate} (h : Sound l) : l.Nodup := h.sorted.imp (fun {a b} hab e => by subst e; exact Plate.lt_irrefl _ hab)
theorem ok_iff (x : Plate) : x.ok = true ↔ (1 ≤ x.number ∧ x.number ≤ 40) ∧ 0 ≤ x.letter ∧ x.letter ≤ 4 := by simp [Plate.ok, betw]
theorem base_ge {l : List Plate} {x : Plate} (h : x ∈ l) : x.number ≤ base l := by
  have key : ∀ (l : List Plate) (n : Int), n ≤ l.foldl (fun n x => max n x.number) n ∧ ∀ x, x ∈ l → x.number ≤ l.foldl (fun n x => max n x.number) n := by
    intro l
    induction l with
    | nil => intro n; simp
    | cons y r ih =>
      intro n
      obtain ⟨h1, h2⟩ := ih (max n y.number)
      simp only [List.foldl_cons]
      exact ⟨by omega, fun x hx => by rcases List.mem_cons.1 hx with rfl | hx; · omega
                                      · exact h2 x hx⟩
  have := (key l 0).2 x h
  unfold base; simp only; omega
theorem base_nonneg (l : List Plate) : 0 ≤ base l := by
 have key : ∀ (l : List Plate) (n : Int), n ≤ l.foldl (fun n x => max n x.number) n := by
  intro l
  induction l with
  | nil => intro n; simp
  | cons y r ih => intro n; have := ih (max n y.number); simp only [List.foldl_cons]; omega
 have := key l 0
 unfold base; simp only; omega
theorem letter_spec {l : List Plate} {n : Int} (h : letter l n ≠ 0) : 1 ≤ letter l n ∧ letter l n ≤ 4 ∧ (⟨n, letter l n⟩ : Plate) ∉ l := by
 unfold letter at *
 repeat' split
 all_goals simp_all
section
variable {p : Plan} {c : Change} {x : Plate}
theorem to_turn (h : c.kind = 1) : toP p c x = [⟨c.street, ((rowAt p c.street).filter (fun y => oddB y == oddB x)).getD (((rowAt p c.street).filter (fun y => oddB y == oddB x)).length - 1 - ((rowAt p c.street).filter (fun y => oddB y == oddB x)).idxOf x) default⟩] := by simp [toP, h]
theorem to_swap (h : c.kind = 2) : toP p c x = [⟨c.street, ⟨if oddB x = true then x.number + 1 else x.number - 1, x.letter⟩⟩] := by simp [toP, h]
theorem to_count (h : c.kind = 3) : toP p c x = [⟨c.street, ⟨2 * (((rowAt p c.street).filter (fun y => oddB y == oddB x)).idxOf x : Nat) + 2 - x.number % 2, 0⟩⟩] := by simp [toP, h]
theorem to_join (h : c.kind = 4) : toP p c x = [⟨c.other, ⟨x.number + base (rowAt p c.other), x.letter⟩⟩] := by simp [toP, h]
theorem to_divide (h : c.kind = 5) : toP p c x = if x = c.src then [⟨c.street, x⟩, ⟨c.street, ⟨x.number, letter (rowAt p c.street) x.number⟩⟩] else [⟨c.street, x⟩] := by simp [toP, h]
theorem to_fell (h : c.kind = 6) : toP p c x = if x = c.src then [] else [⟨c.street, x⟩] := by simp [toP, h]
theorem to_court (h : c.kind = 7) : toP p c x = if x.lt c.src = false ∧ c.dst.lt x = false then [⟨c.other, ⟨idxP (rowAt p c.street) x - idxP (rowAt p c.street) c.src + 1, 0⟩⟩] else [⟨c.street, x⟩] := by simp [toP, h]
end
theorem mem_own {l : List Plate} {x : Plate} (h : x ∈ l) : x ∈ l.filter (fun y => oddB y == oddB x) := List.mem_filter.2 ⟨h, by simp⟩
theorem fits_join {p : Plan} {c : Change} (h : c.kind = 4) (hf : fitsE p c = 0) : (rowAt p c.street).length + (rowAt p c.other).length ≤ 8 ∧ ∀ x, x ∈ rowAt p c.street → x.number + base (rowAt p c.other) ≤ 40 := by
 unfold fitsE at hf
 simp only [h, if_true] at hf
 split at hf
 ·omega
 ·split at hf
  ·omega
  ·rename_i h1 h2
   refine ⟨by omega, fun x hx => ?_⟩
   simp only [List.any_eq_true, decide_eq_true_eq, not_exists, not_and] at h2
   have := h2 x hx; omega
theorem fitsE_divide {p : Plan} {c : Change} (h : c.kind = 5) : fitsE p c = if c.src ∉ rowAt p c.street then 3 else if (rowAt p c.street).length = 8 ∨ letter (rowAt p c.street) c.src.number = 0 then 6 else 0 := by
 unfold fitsE; rw [if_neg (by omega), if_pos h]
theorem fitsE_fell {p : Plan} {c : Change} (h : c.kind = 6) : fitsE p c = if c.src ∉ rowAt p c.street then 3 else 0 := by
 unfold fitsE; rw [if_neg (by omega), if_neg (by omega), if_pos h]
theorem fitsE_court {p : Plan} {c : Change} (h : c.kind = 7) : fitsE p c = if c.src ∉ rowAt p c.street ∨ c.dst ∉ rowAt p c.street then 3 else if c.dst.lt c.src = true then 5 else if 0 < (rowAt p c.other).length then 12 else 0 := by
 unfold fitsE; rw [if_neg (by omega), if_neg (by omega), if_neg (by omega), if_pos h]
theorem fits_divide {p : Plan} {c : Change} (h : c.kind = 5) (hf : fitsE p c = 0) : c.src ∈ rowAt p c.street ∧ (rowAt p c.street).length ≠ 8 ∧ letter (rowAt p c.street) c.src.number ≠ 0 := by
 rw [fitsE_divide h] at hf
 split at hf
 ·exact absurd hf (by omega)
 ·split at hf
  ·exact absurd hf (by omega)
  ·rename_i h1 h2
   exact ⟨Decidable.not_not.1 h1, fun e => h2 (.inl e), fun e => h2 (.inr e)⟩
theorem fits_fell {p : Plan} {c : Change} (h : c.kind = 6) (hf : fitsE p c = 0) : c.src ∈ rowAt p c.street := by
 rw [fitsE_fell h] at hf
 split at hf
 ·exact absurd hf (by omega)
 ·rename_i h1; exact Decidable.not_not.1 h1
theorem fits_court {p : Plan} {c : Change} (h : c.kind = 7) (hf : fitsE p c = 0) : c.src ∈ rowAt p c.street ∧ c.dst ∈ rowAt p c.street ∧ ¬ c.dst.lt c.src = true ∧ rowAt p c.other = [] := by
 rw [fitsE_court h] at hf
 split at hf
 ·exact absurd hf (by omega)
 ·split at hf
  ·exact absurd hf (by omega)
  ·split at hf
   ·exact absurd hf (by omega)
   ·rename_i h1 h2 h3
    exact ⟨Decidable.not_not.1 fun e => h1 (.inl e), Decidable.not_not.1 fun e => h1 (.inr e), h2, List.eq_nil_of_length_eq_zero (by omega)⟩
end Go.Abs

