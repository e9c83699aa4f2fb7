/-
  WHAT THE PROOF STANDS ON, PART 2: contracts of the program's functions and the logic that they are proved in. No condition.
-/
import Derived.Orders
import Derived.RangeFuncLeaves
import Derived.RangeFuncRecord
import Derived.RangeFuncCalls
import Derived.Test.YtmhleaopjcfjnaaGreatProg
import Derived.KernelRfl
import Derived.Test.YtmhleaopjcfjnaaGreatQ1
set_option maxRecDepth 100000
set_option maxHeartbeats 4000000
set_option linter.unusedVariables false
set_option linter.unusedSimpArgs false
set_option linter.unusedSectionVars false
namespace Go.Abs
open Go
def Fix (F : (Nat → AObj) → Cont → Prop) : Prop := ∀ H K, F H K → ∃ v rd wr, K v rd wr ∧ ∀ H', (∀ o, o ∈ rd → H' o = H o) → ∀ K' : Cont, K' v rd wr → F H' K'
theorem Fix.out (v : AV) (rd : List Nat) (wr : List (Nat × AObj)) : Fix (fun _ K => K v rd wr) := fun _ _ h => ⟨v, rd, wr, h, fun _ _ _ h' => h'⟩
theorem Fix.no : Fix (fun _ _ => False) := fun _ _ h => h.elim
theorem Fix.and {A : Prop} {F : (Nat → AObj) → Cont → Prop} (h : Fix F) : Fix (fun H K => A ∧ F H K) := fun H K ⟨ha, hf⟩ =>
 let ⟨v, rd, wr, h1, h2⟩ := h H K hf
 ⟨v, rd, wr, h1, fun H' hh K' hk => ⟨ha, h2 H' hh K' hk⟩⟩
theorem Fix.ite {c : Prop} [Decidable c] {F G : (Nat → AObj) → Cont → Prop} (hf : Fix F) (hg : Fix G) : Fix (fun H K => if c then F H K else G H K) := fun H K h => by
 by_cases hc : c
 ·simp only [hc, if_true] at h ⊢; exact hf H K h
 ·simp only [hc, if_false] at h ⊢; exact hg H K h
theorem zE9 (c a b : AV) : Fix (fun _ K => N6 c a b K) := by
 unfold N6
 split
 ·exact Fix.out _ _ _
 ·exact Fix.no
theorem zEm (P : Program) (t : TypeId) (nx : Nat) : Fix (fun H K => P1 P t H nx K) := by
 intro H K h
 unfold P1 at h ⊢
 cases hz : zeroT P t with
 | none => simp only [hz] at h
 | some z =>
  simp only [hz] at h ⊢
  exact ⟨_, _, _, h.2.2, fun H' hh K' hk => ⟨h.1, by rw [hh nx (by simp)]; exact h.2.1, hk⟩⟩
theorem zEp (x : AV) (nx : Nat) : Fix (fun H K => zMl x H nx K) := fun H K h =>
 ⟨_, _, _, h.2.2, fun H' hh K' hk => ⟨h.1, by rw [hh nx (by simp)]; exact h.2.1, hk⟩⟩
theorem zE4 (P : Program) (t : TypeId) (x : AV) : Fix (fun H K => Q7 P t x H K) := by
 intro H K h
 unfold Q7 at h ⊢
 cases x with
 | ptr o off =>
  simp only at h ⊢
  cases hA : H o with
  | box cs =>
   simp only [hA] at h
   cases hg : s5 P t with
   | none => simp only [hg] at h
   | some ag =>
    cases hs : sizeT P t with
    | none => cases ag <;> simp only [hg, hs] at h
    | some n =>
     cases ag <;> simp only [hg, hs] at h
     ·exact ⟨_, _, _, h.2, fun H' hh K' hk => by simp only [hh o (by simp), hA]; exact ⟨h.1, hk⟩⟩
     ·exact ⟨_, _, _, h.2, fun H' hh K' hk => by simp only [hh o (by simp), hA]; exact ⟨h.1, hk⟩⟩
  | _ => simp only [hA] at h
 | eptr o sz i off =>
  simp only at h ⊢
  cases hA : H o with
  | row sz' xs =>
   simp only [hA] at h
   obtain ⟨h1, h2, h⟩ := h
   cases hg : s5 P t with
   | none => simp only [hg] at h
   | some ag =>
    cases hs : sizeT P t with
    | none => cases ag <;> simp only [hg, hs] at h
    | some n =>
     cases ag <;> simp only [hg, hs] at h
     ·exact ⟨_, _, _, h.2, fun H' hh K' hk => by simp only [hh o (by simp), hA]; exact ⟨h1, h2, h.1, hk⟩⟩
     ·exact ⟨_, _, _, h.2, fun H' hh K' hk => by simp only [hh o (by simp), hA]; exact ⟨h1, h2, h.1, hk⟩⟩
  | box cs =>
   simp only [hA] at h
   cases hg : s5 P t with
   | none => simp only [hg] at h
   | some ag =>
    cases hs : sizeT P t with
    | none => cases ag <;> simp only [hg, hs] at h
    | some n =>
     cases ag <;> simp only [hg, hs] at h
     ·exact ⟨_, _, _, h.2, fun H' hh K' hk => by simp only [hh o (by simp), hA]; exact ⟨h.1, hk⟩⟩
     ·exact ⟨_, _, _, h.2, fun H' hh K' hk => by simp only [hh o (by simp), hA]; exact ⟨h.1, hk⟩⟩
  | _ => simp only [hA] at h
 | elt x =>
  simp only at h ⊢
  cases hg : s5 P t with
  | none => simp only [hg] at h
  | some ag =>
   cases hs : sizeT P t with
   | none => cases ag <;> simp only [hg, hs] at h
   | some n =>
    cases ag <;> simp only [hg, hs] at h
    ·exact ⟨_, _, _, h.2, fun H' hh K' hk => ⟨h.1, hk⟩⟩
    ·exact ⟨_, _, _, h.2, fun H' hh K' hk => ⟨h.1, hk⟩⟩
 | _ => exact h.elim
theorem zFC (P : Program) (t : TypeId) (a x : AV) : Fix (fun H K => U5 P t a x H K) := by
 intro H K h
 unfold U5 at h ⊢
 cases a with
 | ptr o off =>
  simp only at h ⊢
  cases hA : H o with
  | box cs =>
   simp only [hA] at h
   exact ⟨_, _, _, h.2.2.2, fun H' hh K' hk => by simp only [hh o (by simp), hA]; exact ⟨h.1, h.2.1, h.2.2.1, hk⟩⟩
  | _ => simp only [hA] at h
 | eptr o sz i off =>
  simp only at h ⊢
  cases hA : H o with
  | row sz' xs =>
   simp only [hA] at h
   obtain ⟨h1, h2, h3, h4, h5, h⟩ := h
   by_cases hc : off = 0 ∧ x.cells.length = sz
   ·rw [if_pos hc] at h
    exact ⟨_, _, _, h, fun H' hh K' hk => by simp only [hh o (by simp), hA]; exact ⟨h1, h2, h3, h4, h5, by rw [if_pos hc]; exact hk⟩⟩
   ·rw [if_neg hc] at h
    exact ⟨_, _, _, h.2, fun H' hh K' hk => by simp only [hh o (by simp), hA]; exact ⟨h1, h2, h3, h4, h5, by rw [if_neg hc]; exact ⟨h.1, hk⟩⟩⟩
  | box cs =>
   simp only [hA] at h
   exact ⟨_, _, _, h.2.2.2, fun H' hh K' hk => by simp only [hh o (by simp), hA]; exact ⟨h.1, h.2.1, h.2.2.1, hk⟩⟩
  | _ => simp only [hA] at h
 | _ => exact h.elim
theorem zE8 (x : AV) : Fix (fun _ K => zMg x K) := by
 unfold zMg
 split <;> first | exact Fix.out _ _ _ | exact Fix.no
theorem zE3 (op : BinOp) (k : IntKind) (a b : Int) : Fix (fun _ K => zMZ op k a b K) := by
 unfold zMZ
 split
 case h_10 =>
  split <;> first | exact Fix.out _ _ _ | exact Fix.no
 all_goals first | exact Fix.out _ _ _ | exact Fix.and (Fix.out _ _ _)
theorem zFD (op : BinOp) (a b : ByteArray) : Fix (fun _ K => zMh op a b K) := by
 unfold zMh
 split <;> first | exact Fix.out _ _ _ | exact Fix.and (Fix.out _ _ _) | exact Fix.no
theorem zEo (P : Program) (op : BinOp) (t : TypeId) (x y : AV) : Fix (fun _ K => zMR P op t x y K) := by
 unfold zMR
 split
 ·split
  ·exact Fix.and (Fix.out _ _ _)
  ·exact Fix.and (Fix.out _ _ _)
  ·exact Fix.and (zE3 _ _ _ _)
 ·exact zFD _ _ _
 ·split
  ·split <;> first | exact Fix.out _ _ _ | exact Fix.no
  ·exact Fix.no
 ·unfold H2
  split
  ·split
   ·split <;> first | exact Fix.out _ _ _ | exact Fix.no
   ·exact Fix.no
  ·exact Fix.no
 ·unfold F4
  split
  ·split <;> first | exact Fix.out _ _ _ | exact Fix.no
  ·exact Fix.no
 ·exact Fix.no
theorem zFE (op : UnOp) (x : AV) : Fix (fun _ K => unA op x K) := by
 unfold unA
 split <;> first | exact Fix.out _ _ _ | exact Fix.no
theorem zEv (P : Program) (d : TypeId) (x : AV) : Fix (fun _ K => P5 P d x K) := by
 unfold P5
 split <;> first | exact Fix.out _ _ _ | exact Fix.no
theorem zE0 (P : Program) (s : TypeId) (x : AV) (f : Nat) : Fix (fun _ K => W8 P s x f K) := by
 unfold W8
 split
 ·split
  ·refine Fix.and ?_
   split
   ·exact Fix.out _ _ _
   ·exact Fix.out _ _ _
   ·exact Fix.and (Fix.ite (Fix.out _ _ _) (Fix.and (Fix.and (Fix.and (Fix.out _ _ _)))))
   ·exact Fix.no
  ·exact Fix.no
 ·exact Fix.no
theorem zBi (P : Program) (u : TypeId) (cs : List AV) (off : Nat) : Fix (fun _ K => S5 P u cs off K) := by
 unfold S5
 split <;> first | exact Fix.out _ _ _ | exact Fix.and (Fix.out _ _ _) | exact Fix.no
theorem zEz (P : Program) (s : TypeId) (x : AV) (f : Nat) : Fix (fun _ K => P9 P s x f K) := by
 unfold P9
 split
 ·exact zBi _ _ _ _
 ·exact Fix.no
theorem zE2 (P : Program) (t : TypeId) (x i : AV) : Fix (fun _ K => V3 P t x i K) := by
 unfold V3
 split
 ·split
  ·exact Fix.and (Fix.and (Fix.out _ _ _))
  ·exact Fix.and (Fix.and (Fix.out _ _ _))
  ·split
   ·split
    ·exact Fix.and (Fix.out _ _ _)
    ·exact Fix.no
   ·exact Fix.no
  ·exact Fix.no
 ·exact Fix.no
theorem zE1 (P : Program) (t : TypeId) (x i : AV) : Fix (fun _ K => O2 P t x i K) := by
 unfold O2
 split
 ·exact Fix.and (Fix.and (Fix.out _ _ _))
 ·split
  ·split
   ·exact Fix.and (zBi _ _ _ _)
   ·exact Fix.no
  ·exact Fix.no
 ·exact Fix.no
theorem zFB (P : Program) (t : TypeId) (x : AV) (lo hi mx : Option AV) : Fix (fun _ K => M1 P t x lo hi mx K) := by
 unfold M1
 split
 ·exact Fix.no
 ·split
  ·refine Fix.and ?_
   split
   ·exact Fix.and (Fix.out _ _ _)
   ·exact Fix.no
  ·split
   ·split
    ·exact Fix.and (Fix.and (Fix.out _ _ _))
    ·exact Fix.no
   ·exact Fix.no
  ·split
   ·exact Fix.and (Fix.and (Fix.out _ _ _))
   ·exact Fix.no
  ·exact Fix.no
theorem zEy (x : AV) (i : Nat) : Fix (fun _ K => P8 x i K) := by
 unfold P8
 split
 ·exact Fix.and (Fix.out _ _ _)
 ·exact Fix.no
theorem zEq (P : Program) (t : TypeId) (ps : List (Nat × AV)) : Fix (fun _ K => buildA P t ps K) := by
 unfold buildA
 split
 ·refine Fix.and (Fix.and (Fix.and ?_))
  split
  ·exact Fix.out _ _ _
  ·exact Fix.no
 ·refine Fix.and (Fix.and ?_)
  split
  ·split
   ·exact Fix.out _ _ _
   ·exact Fix.no
  ·exact Fix.no
 ·exact Fix.no
theorem zAA {H H' : Nat → AObj} : ∀ (n : Nat) (x : AV), Pure (zLq H n x).1 → (∀ o, o ∈ (zLq H n x).2 → H' o = H o) → zLq H' n x = zLq H n x
 | 0, x, _, _ => rfl
 | n + 1, x, hp, hh => by
  have each : ∀ cs : List AV, (∀ c, c ∈ cs → Pure (zLq H n c).1) → (∀ c, c ∈ cs → ∀ o, o ∈ (zLq H n c).2 → H' o = H o) → ∀ c, c ∈ cs → zLq H' n c = zLq H n c := fun cs h1 h2 c hc => zAA n c (h1 c hc) (h2 c hc)
  unfold zLq at hp hh ⊢
  cases x with
  | own o sz off len =>
   simp only at hp hh ⊢
   cases hA : H o with
   | row sz' xs =>
    simp only [hA] at hp hh
    by_cases hc : sz' = sz ∧ off + len ≤ xs.length
    ·rw [if_pos hc] at hp hh
     rw [hh o (by simp), hA]
    ·rw [if_neg hc] at hp; cases hp
   | box cs =>
    simp only [hA] at hp hh
    by_cases hc : sz = 1 ∧ off = 0 ∧ len = cs.length ∧ cs.all (fun c => b7 (zLq H n c).1) = true
    ·rw [if_pos hc] at hp hh
     rw [hh o (by simp), hA]
     simp only
     have hall := hc.2.2.2
     rw [List.all_eq_true] at hall
     have heq := each cs (fun c hm => (K2 (hall c hm)).1) (fun c hm q hq => hh q (by simp; exact .inr ⟨_, ⟨c, hm, rfl⟩, hq⟩))
     have e1 : cs.map (fun c => (zLq H' n c).1) = cs.map (fun c => (zLq H n c).1) := List.map_congr_left (fun c hm => by rw [heq c hm])
     have e2 : cs.map (fun c => (zLq H' n c).2) = cs.map (fun c => (zLq H n c).2) := List.map_congr_left (fun c hm => by rw [heq c hm])
     have e3 : cs.all (fun c => b7 (zLq H' n c).1) = cs.all (fun c => b7 (zLq H n c).1) := by
      rw [Bool.eq_iff_iff, List.all_eq_true, List.all_eq_true]
      exact ⟨fun g c hm => by rw [← heq c hm]; exact g c hm, fun g c hm => by rw [heq c hm]; exact g c hm⟩
     rw [e1, e2, e3]
    ·rw [if_neg hc] at hp; cases hp
   | _ => simp only [hA] at hp; cases hp
  | mp o =>
   simp only at hp hh ⊢
   cases hA : H o with
   | mapo ks xs => simp only [hA] at hh; rw [hh o (by simp), hA]
   | _ => simp only [hA] at hp; cases hp
  | agg cs =>
   simp only at hp hh ⊢
   have hps : ∀ c, c ∈ cs → Pure (zLq H n c).1 := fun c hm => by
    cases hp with
    | agg _ hp => exact hp _ (List.mem_map.2 ⟨c, hm, rfl⟩)
   have heq := each cs hps (fun c hm q hq => hh q (by simp; exact ⟨_, ⟨c, hm, rfl⟩, hq⟩))
   have e1 : cs.map (fun c => (zLq H' n c).1) = cs.map (fun c => (zLq H n c).1) := List.map_congr_left (fun c hm => by rw [heq c hm])
   have e2 : cs.map (fun c => (zLq H' n c).2) = cs.map (fun c => (zLq H n c).2) := List.map_congr_left (fun c hm => by rw [heq c hm])
   rw [e1, e2]
  | raw v =>
   clear hp hh
   cases v with
   | slice a m c => cases a <;> cases m <;> cases c <;> rfl
   | _ => rfl
  | _ => rfl
theorem zEr (P : Program) (t : TypeId) (n : Nat) (ps : List (Nat × AV)) (nx : Nat) : Fix (fun H K => buildSliceA P t n ps H nx K) := by
 intro H K h
 unfold buildSliceA at h ⊢
 cases ht : sliceT P t with
 | none => simp only [ht] at h
 | some e =>
  simp only [ht] at h ⊢
  cases hs : sizeT P e with
  | none => simp only [hs] at h
  | some sz =>
   cases hz : zeroT P e with
   | none => simp only [hs, hz] at h
   | some z =>
    simp only [hs, hz] at h ⊢
    obtain ⟨h1, h2, h3, h4, h6, h⟩ := h
    by_cases hr : zMC z = true
    ·rw [if_pos hr] at h
     obtain ⟨g1, g2, h⟩ := h
     exact ⟨_, _, _, h, fun H' hh K' hk => ⟨h1, h2, h3, h4, by rw [hh nx (by simp)]; exact h6, by rw [if_pos hr]; exact ⟨g1, g2, hk⟩⟩⟩
    ·rw [if_neg hr] at h
     obtain ⟨g, h⟩ := h
     refine ⟨_, _, _, h, fun H' hh K' hk => ⟨h1, h2, h3, h4, by rw [hh nx (by simp)]; exact h6, ?_⟩⟩
     rw [if_neg hr]
     have heq : ∀ p, p ∈ ps → zLq H' 3 p.2 = zLq H 3 p.2 := fun p hm => zAA 3 p.2 (g p hm).1 (fun o ho => hh o (by
      rw [List.mem_append]
      exact .inl (List.mem_flatten.2 ⟨_, List.mem_map.2 ⟨p, hm, rfl⟩, ho⟩)))
     have e1 : ps.map (fun p => (zLq H' 3 p.2).2) = ps.map (fun p => (zLq H 3 p.2).2) := List.map_congr_left (fun p hm => by rw [heq p hm])
     have e2 : ps.map (fun p => (zLq H' 3 p.2).1) = ps.map (fun p => (zLq H 3 p.2).1) := List.map_congr_left (fun p hm => by rw [heq p hm])
     rw [e1, e2]
     exact ⟨fun p hm => by rw [heq p hm]; exact g p hm, hk⟩
theorem zE7 (P : Program) (t : TypeId) (l c : AV) (nx : Nat) : Fix (fun H K => O8 P t l c H nx K) := by
 intro H K h
 unfold O8 at h ⊢
 split at h
 ·rename_i e k n k' m ht
  cases hs : sizeT P e with
  | none => simp only [hs] at h
  | some sz =>
   cases hb : bytesT P e with
   | none => simp only [hs, hb] at h
   | some b =>
    cases hz : zeroT P e with
    | none => simp only [hs, hb, hz] at h
    | some z =>
     simp only [hs, hb, hz] at h
     obtain ⟨h1, h2, h3, h4, h5, h6, h7, h⟩ := h
     by_cases hr : zMC z = true
     ·rw [if_pos hr] at h
      exact ⟨_, _, _, h.2, fun H' hh K' hk => by simp only [ht, hs, hb, hz]; exact ⟨h1, h2, h3, h4, h5, h6, by rw [hh nx (by simp)]; exact h7, by rw [if_pos hr]; exact ⟨h.1, hk⟩⟩⟩
     ·rw [if_neg hr] at h
      exact ⟨_, _, _, h, fun H' hh K' hk => by simp only [ht, hs, hb, hz]; exact ⟨h1, h2, h3, h4, h5, h6, by rw [hh nx (by simp)]; exact h7, by rw [if_neg hr]; exact hk⟩⟩
 ·exact h.elim
theorem E5 {H H' : Nat → AObj} {sz : Nat} {x : AV} {ys : List AV} {rd : List Nat} (h : i6 H sz x = some (ys, rd)) (hh : ∀ o, o ∈ rd → H' o = H o) : i6 H' sz x = some (ys, rd) := by
 unfold i6 at h ⊢
 split at h
 ·exact h
 ·rename_i o sz' off len
  cases hA : H o with
  | row s xs =>
   simp only [hA] at h
   split at h
   ·rename_i hc
    simp at h
    rw [hh o (by rw [← h.2]; simp), hA]
    simp only
    rw [if_pos hc, h.1, h.2]
   ·cases h
  | box cs =>
   simp only [hA] at h
   split at h
   ·rename_i hc
    simp only [Option.some.injEq, Prod.mk.injEq] at h
    rw [hh o (by rw [← h.2]; simp), hA]
    simp only
    rw [if_pos hc, h.1, h.2]
   ·cases h
  | _ => simp [hA] at h
 ·exact h
 ·cases h
theorem zEn (P : Program) (t : TypeId) (s x : AV) (nx : Nat) : Fix (fun H K => appendA P t s x H nx K) := by
 intro H K h
 unfold appendA at h ⊢
 cases ht : sliceT P t with
 | none => simp only [ht] at h
 | some e =>
  simp only [ht] at h ⊢
  cases hs : sizeT P e with
  | none => simp only [hs] at h
  | some sz =>
   cases hb : bytesT P e with
   | none => simp only [hs, hb] at h
   | some b =>
    cases hz : zeroT P e with
    | none => simp only [hs, hb, hz] at h
    | some z =>
     cases hr : i6 H ((some sz).getD 0) x with
     | none => simp only [hs, hb, hz, hr] at h
     | some yr =>
      obtain ⟨ys, rd⟩ := yr
      simp only [hs, hb, hz, hr] at h
      obtain ⟨h1, h2, h3, h⟩ := h
      by_cases hz' : zMC z = true
      ·rw [if_pos hz'] at h
       split at h
       ·rename_i o sz' len
        generalize hA : H o = A at h
        cases A with
        | box cs =>
         obtain ⟨g1, g2, g3, g4, g5, g6, g7, g⟩ := h
         refine ⟨_, _, _, g, fun H' hh K' hk => ?_⟩
         have hr' := E5 (H' := H') hr (fun o ho => hh o (by simp [ho]))
         simp only [hs, hb, hz, hr', if_pos hz', hh o (by simp), hA]
         exact ⟨h1, h2, h3, g1, g2, g3, g4, by rw [hh nx (by simp)]; exact g5, g6, g7, hk⟩
        | _ => exact h.elim
       ·obtain ⟨g1, g2, g3, g4, g5, g⟩ := h
        refine ⟨_, _, _, g, fun H' hh K' hk => ?_⟩
        have hr' := E5 (H' := H') hr (fun o ho => hh o (by simp [ho]))
        simp only [hs, hb, hz, hr', if_pos hz']
        exact ⟨h1, h2, h3, g1, g2, by rw [hh nx (by simp)]; exact g3, g4, g5, hk⟩
       ·exact h.elim
      ·rw [if_neg hz'] at h
       obtain ⟨hpu, h⟩ := h
       split at h
       ·rename_i o sz' len
        generalize hA : H o = A at h
        cases A with
        | row sz'' xs =>
         obtain ⟨g1, g2, g3, g4, g5, g6, g⟩ := h
         refine ⟨_, _, _, g, fun H' hh K' hk => ?_⟩
         have hr' := E5 (H' := H') hr (fun o ho => hh o (by simp [ho]))
         simp only [hs, hb, hz, hr', if_neg hz', hh o (by simp), hA]
         exact ⟨h1, h2, h3, hpu, g1, g2, g3, by rw [hh nx (by simp)]; exact g4, g5, g6, hk⟩
        | _ => exact h.elim
       ·obtain ⟨g1, g2, g3, g⟩ := h
        refine ⟨_, _, _, g, fun H' hh K' hk => ?_⟩
        have hr' := E5 (H' := H') hr (fun o ho => hh o (by simp [ho]))
        simp only [hs, hb, hz, hr', if_neg hz']
        exact ⟨h1, h2, h3, hpu, by rw [hh nx (by simp)]; exact g1, g2, g3, hk⟩
       ·exact h.elim
theorem zEs (P : Program) (b : Builtin) (ts : Array TypeId) (xs : List AV) (nx : Nat) : Fix (fun H K => L4 P b ts xs H nx K) := by
 unfold L4
 split
 ·refine Fix.and ?_
  split
  ·exact Fix.out _ _ _
  ·exact Fix.no
 ·exact Fix.and (zEn _ _ _ _ _)
 ·exact Fix.out _ _ _
 ·exact Fix.out _ _ _
 ·exact Fix.no
theorem Xp.congr {H H' : Nat → AObj} {ρ : Nat → Option (Option Nat)} {F : Nat → Prop} (hh : ∀ o, F o → H' o = H o) {x y : AV} (h : Xp H ρ F x y) : Xp H' ρ F x y := by
 induction h with
 | any x => exact .any x
 | same x h => exact .same x h
 | ptr k o off h => exact .ptr k o off h
 | eptr k o sz i off h => exact .eptr k o sz i off h
 | own k o sz off len h => exact .own k o sz off len h
 | mp k o h => exact .mp k o h
 | yld k o h => exact .yld k o h
 | nil k sz h => exact .nil k sz h
 | nill => exact .nill
 | nmapl => exact .nmapl
 | froz o sz off len xs h1 h2 h3 => exact .froz o sz off len xs ((hh o h2).trans h1) h2 h3
 | frozm o ks ks' xs xs' h1 h2 h3 => exact .frozm o ks ks' xs xs' ((hh o h2).trans h1) h2 h3
 | frozb o off len cs xs h1 h2 h3 h4 h5 h6 _ ih => exact .frozb o off len cs xs ((hh o h2).trans h1) h2 h3 h4 h5 h6 ih
 | agg cs ds hl _ ih => exact .agg cs ds hl ih
 | tup cs ds hl _ ih => exact .tup cs ds hl ih
 | fn f cs ds hl _ ih => exact .fn f cs ds hl ih
theorem All2.imp {R S : AV → AV → Prop} (h : ∀ x y, R x y → S x y) {xs ys : List AV} (ha : All2 R xs ys) : All2 S xs ys := by
 induction ha with
 | nil => exact .nil
 | cons h1 _ ih => exact .cons (h _ _ h1) ih
theorem OXp.congr {H H' : Nat → AObj} {ρ : Nat → Option (Option Nat)} {F : Nat → Prop} (hh : ∀ o, F o → H' o = H o) {A B : AObj} (h : OXp H ρ F A B) : OXp H' ρ F A B := by
 cases A <;> cases B <;> first | exact h | exact h.elim | exact ⟨h.1, fun i h1 h2 => (h.2 i h1 h2).congr hh⟩ | exact ⟨h.1, h.2.1, fun t => (h.2.2 t).congr hh⟩
theorem zEt (P : Program) (f : FuncId) (avs : List AV) (nx : Nat) : Fix (fun H K => H5 P f avs H nx K) := by
 intro H K h
 obtain ⟨ids, ex, args, fp, r, out, hm, hK⟩ := h
 refine ⟨_, _, _, hK, fun H' hh K' hk => ⟨ids, ex, args, fp, r, out, ?_, hk⟩⟩
 have hex : ∀ o, o ∈ ex → H' o = H o := fun o ho => hh o (by simp [ho])
 refine ⟨hm.spec, hm.nodup, hm.apart, hm.args.imp (fun _ _ h => h.congr hex), hm.fpl, fun k hk' => ?_, hm.scal, fun j hj => ?_, hm.unb⟩
 ·obtain ⟨h1, h2⟩ := hm.fps k hk'
  have hid : ids.getD k 0 ∈ ids := by
   have : k < ids.length := by rw [← hm.fpl]; exact hk'
   rw [u5 this]; exact List.getElem_mem this
  rw [hh _ (by simp only [List.mem_append]; exact .inl (.inl hid))]
  exact ⟨h1, h2.congr hex⟩
 ·rw [hh _ (by simp only [List.mem_append, i4, List.mem_map, List.mem_range]; exact .inr ⟨j, hj, rfl⟩)]
  exact hm.fresh j hj
theorem zBg (P : Program) (f : FuncId) (avs : List AV) (nx : Nat) : Fix (fun H K => x8 P f avs H nx K) := by
 intro H K h
 obtain ⟨gone, as', hx, h⟩ := h
 obtain ⟨v, rd, wr, hK, hfix⟩ := zEt P f as' nx _ _ h
 refine ⟨_, _, _, hK, fun H' hh K' hk => ⟨gone, as', hx.imp (fun _ _ h => h.congr (fun o ho => hh o (by simp [ho]))), hfix _ (fun o ho => ?_) _ hk⟩⟩
 by_cases hg : o ∈ gone
 ·simp only [hg, if_true]
 ·simp only [hg, if_false]; exact hh o (by simp [ho])
theorem zE6 (P : Program) (t : TypeId) (r : Option AV) (nx : Nat) : Fix (fun H K => O7 P t r H nx K) := by
 intro H K h
 unfold O7 at h ⊢
 split at h
 ·exact ⟨_, _, _, h.2, fun H' hh K' hk => ⟨by rw [hh nx (by simp)]; exact h.1, hk⟩⟩
 ·exact ⟨_, _, _, h.2.2, fun H' hh K' hk => ⟨h.1, by rw [hh nx (by simp)]; exact h.2.1, hk⟩⟩
 ·exact h.elim
theorem zBh (P : Program) (t : TypeId) (m k x : AV) : Fix (fun H K => j6 P t m k x H K) := by
 intro H K h
 unfold j6 at h ⊢
 split at h
 ·rename_i kt et o kv hmt hkv
  generalize hA : H o = A at h
  cases A with
  | mapo ks xs =>
   obtain ⟨h1, h2, h3, h4, h5, h⟩ := h
   refine ⟨_, _, _, h, fun H' hh K' hk => ?_⟩
   have he := zAA 3 x h4 (fun q hq => hh q (by simp [hq]))
   simp only [hmt, hkv, hh o (by simp), hA, he]
   exact ⟨h1, h2, h3, h4, h5, hk⟩
  | _ => exact h.elim
 ·exact h.elim
theorem zE5 (P : Program) (t : TypeId) (m k : AV) (ok : Bool) : Fix (fun H K => X2 P t m k ok H K) := by
 intro H K h
 unfold X2 at h ⊢
 split at h
 ·rename_i kt et kv hmt hkv
  cases hz : zeroT P et with
  | none => simp only [hz] at h
  | some z =>
   simp only [hz] at h
   obtain ⟨h1, h2, h3, h⟩ := h
   split at h
   ·exact ⟨_, _, _, h.2, fun H' hh K' hk => by simp only [hmt, hkv, hz]; exact ⟨h1, h2, h3, h.1, hk⟩⟩
   ·rename_i o
    generalize hA : H o = A at h
    cases A with
    | mapo ks xs => exact ⟨_, _, _, h.2, fun H' hh K' hk => by simp only [hmt, hkv, hz, hh o (by simp), hA]; exact ⟨h1, h2, h3, h.1, hk⟩⟩
    | _ => exact h.elim
   ·exact h.elim
 ·exact h.elim
theorem zFA (P : Program) (t : TypeId) (x : AV) (nx : Nat) : Fix (fun H K => N9 P t x H nx K) := by
 intro H K h
 unfold N9 at h ⊢
 split at h
 ·exact ⟨_, _, _, h.2.2, fun H' hh K' hk => ⟨h.1, by rw [hh nx (by simp)]; exact h.2.1, hk⟩⟩
 ·exact h.elim
theorem zEw (x : AV) : Fix (fun H K => P6 x H K) := by
 intro H K h
 unfold P6 at h ⊢
 split at h
 ·rename_i o
  generalize hA : H o = A at h
  cases A with
  | iter cur ks xs =>
   cases cur with
   | none => exact h.elim
   | some p => exact ⟨_, _, _, h, fun H' hh K' hk => by simp only [hh o (by simp), hA]; exact hk⟩
  | _ => exact h.elim
 ·exact h.elim
theorem zEu (P : Program) (x : AV) (avs : List AV) (nx : Nat) : Fix (fun H K => L5 P x avs H nx K) := by
 unfold L5
 split
 ·exact Fix.and (Fix.and (Fix.and (zBg _ _ _ _)))
 ·exact Fix.and (zBg _ _ _ _)
 ·exact Fix.no
theorem zEx (P : Program) (o : Oper) (ev : Operand → AV) (nx : Nat) : Fix (fun H K => zL4 P o ev H nx K) := by
 unfold zL4
 split
 ·exact Fix.out _ _ _
 ·exact Fix.out _ _ _
 ·exact zE9 _ _ _
 ·exact zEm _ _ _
 ·exact zEp _ _
 ·exact zEq _ _ _
 ·exact zEr _ _ _ _ _
 ·exact zE4 _ _ _
 ·exact zFC _ _ _ _
 ·exact zE8 _
 ·exact zEo _ _ _ _ _
 ·exact zFE _ _
 ·exact Fix.and (zEv _ _ _)
 ·unfold zAX
  split
  ·exact Fix.and (Fix.out _ _ _)
  ·exact Fix.no
 ·exact zE7 _ _ _ _ _
 ·exact zFB _ _ _ _ _ _
 ·exact zE0 _ _ _ _
 ·exact zEz _ _ _ _
 ·exact zE2 _ _ _ _
 ·exact zE1 _ _ _ _
 ·exact zEy _ _
 ·exact zE6 _ _ _ _
 ·exact zBh _ _ _ _ _
 ·exact zBh _ _ _ _ _
 ·exact zE5 _ _ _ _ _
 ·exact zFA _ _ _ _
 ·exact zEw _
 ·unfold P3
  split
  ·exact zEs _ _ _ _ _
  ·exact zEu _ _ _ _
  ·exact Fix.no
 ·exact Fix.no
theorem zEe {P : Program} {o : Oper} {ev ev' : Operand → AV} {H : Nat → AObj} {nx : Nat} {K : Cont} (h : ∀ x, x ∈ o.op.operands → ev' x = ev x) (he : zL4 P o ev H nx K) : zL4 P o ev' H nx K := by
 unfold zL4 at he ⊢
 cases hop : o.op <;> rw [hop] at he h <;> simp only at he ⊢ <;> try (first | exact he.elim | skip)
 case build t ps =>
  have e : (ps.toList.map fun p => (p.1, ev' p.2)) = ps.toList.map fun p => (p.1, ev p.2) := List.map_congr_left (fun p hp => by rw [h p.2 (by simp [Op.operands]; exact ⟨p.1, by simpa using hp⟩)])
  rw [e]; exact he
 case buildSlice t n ps =>
  have e : (ps.toList.map fun p => (p.1, ev' p.2)) = ps.toList.map fun p => (p.1, ev p.2) := List.map_congr_left (fun p hp => by rw [h p.2 (by simp [Op.operands]; exact ⟨p.1, by simpa using hp⟩)])
  rw [e]; exact he
 case makeFunc fn first cs =>
  have e : cs.toList.map ev' = cs.toList.map ev := List.map_congr_left (fun p hp => h p (by simp [Op.operands]; exact .inr (by simpa using hp)))
  rw [e]; exact he
 case slice t x lo hi mx =>
  have e0 := h x (by simp [Op.operands])
  have e1 : lo.map ev' = lo.map ev := by cases lo with
   | none => rfl
   | some y => simp only [Option.map_some]; rw [h y (by simp [Op.operands])]
  have e2 : hi.map ev' = hi.map ev := by cases hi with
   | none => rfl
   | some y => simp only [Option.map_some]; rw [h y (by simp [Op.operands])]
  have e3 : mx.map ev' = mx.map ev := by cases mx with
   | none => rfl
   | some y => simp only [Option.map_some]; rw [h y (by simp [Op.operands])]
  rw [e0, e1, e2, e3]; exact he
 case makeMap t r =>
  have e1 : r.map ev' = r.map ev := by cases r with
   | none => rfl
   | some y => simp only [Option.map_some]; rw [h y (by simp [Op.operands])]
  rw [e1]; exact he
 case mapUpdate t m k x =>
  rw [h m (by simp [Op.operands]), h k (by simp [Op.operands]), h x (by simp [Op.operands])]; exact he
 case insert t m k x =>
  rw [h m (by simp [Op.operands]), h k (by simp [Op.operands]), h x (by simp [Op.operands])]; exact he
 case lookup t m k ok =>
  rw [h m (by simp [Op.operands]), h k (by simp [Op.operands])]; exact he
 case call c =>
  have e : c.args.toList.map ev' = c.args.toList.map ev := List.map_congr_left (fun p hp => h p (by simp [Op.operands, Go.Call.operands]; exact .inr (by simpa using hp)))
  rw [e]
  obtain ⟨callee, args, ts⟩ := c
  cases callee with
  | value f =>
   have e2 := h f (by simp [Op.operands, Go.Call.operands])
   simp only [P3] at he ⊢
   rw [e2]; exact he
  | _ => exact he
 all_goals
  first
  | (rw [h _ (by simp [Op.operands])]; exact he)
  | (rw [h _ (by simp [Op.operands]), h _ (by simp [Op.operands])]; exact he)
  | (rw [h _ (by simp [Op.operands]), h _ (by simp [Op.operands]), h _ (by simp [Op.operands])]; exact he)
  | exact he
  | (simp only [h _ (by simp [Op.operands])]; exact he)
end Go.Abs

namespace Go.Abs
open Go
def nxF : Nat → List (Nat × AObj) → Nat
 | m, [] => m
 | m, (k, _) :: r => nxF (if k < m then m else k + 1) r
def AS.nx (σ : AS) : Nat := nxF 0 σ.objs
def gIf (b want : Bool) (Y N : Prop) : Prop := (b = want → Y) ∧ (b = !want → N)
def l8 (all : List Oper) (σ : AS) (o : Oper) (Y N : Prop) : Prop := match o.guard with
 | none => Y
 | some (j, want) => match (all[j]?).bind (·.dst) with
  | some d => (match σ.get d with
   | .raw (.bool b) => gIf b want Y N
   | .tup [] => N
   | _ => False)
  | none => False
structure Touch where
 rd : List Nat
 wr : List Nat
def ltN (a b : Nat) : Prop := a < b
def y6 (P : Program) (all : List Oper) (K : AS → List Touch → Prop) : List Oper → AS → List Touch → Prop
  | [], σ, ts => K σ ts
  | o :: rest, σ, ts => l8 all σ o
      ((match o.dst with | some d => ltN d σ.n | none => True) ∧
        zL4 P o σ.ev σ.obj σ.nx (fun v rd wr => y6 P all K rest ((σ.writes wr).putD o.dst v) (ts ++ [⟨rd, wr.map (·.1)⟩])))
      ((match o.dst with | some d => ltN d σ.n | none => True) ∧ y6 P all K rest (σ.putD o.dst (.tup [])) (ts ++ [⟨[], []⟩]))
section
variable {P : Program} {E : Env}
theorem zFI {a : Act} {d : Nat} {b : Bool} (h : a.tmps.getD d undef = .bool b) : a.tmps[d]? = some (.bool b) := by
 by_cases hd : d < a.tmps.size
 ·simp [hd] at h ⊢; exact h
 ·simp [hd, undef] at h
theorem K4 {I : Nat → Prop} {loc : Nat → Loc} {σ : AS} {a : Act} {w : World} (hs : SR E I loc σ a w) {all : List Oper} {o : Oper} {Y N : Prop} (h : l8 all σ o Y N) :
    (Region.wanted o (yielded all.toArray a.tmps) = true ∧ Y) ∨ (Region.wanted o (yielded all.toArray a.tmps) = false ∧ N) := by
  unfold l8 at h
  unfold Region.wanted
  cases hg : o.guard with
  | none => rw [hg] at h; exact .inl ⟨rfl, h⟩
  | some jw =>
    obtain ⟨j, want⟩ := jw
    rw [hg] at h
    simp only at h ⊢
    cases hd : (all[j]?).bind (·.dst) with
    | none => simp only [hd] at h
    | some d =>
      simp only [hd] at h
      have hy : ∀ v, a.tmps.getD d undef = v → yielded all.toArray a.tmps j = (match a.tmps[d]? with | some (.bool b) => some b | _ => none) := fun v _ => by
        unfold yielded
        have : (all.toArray[j]?).bind (·.dst) = some d := by simpa using hd
        rw [this]; rfl
      have hv := hs.tmps d
      split at h
      · rename_i b hb
        rw [hb] at hv
        have e := hv.raw_eq
        rw [hy _ e, zFI e]
        cases b <;> cases want <;> simp_all [gIf]
      · rename_i hb
        rw [hb] at hv
        have e : a.tmps.getD d undef = undef := by
          generalize a.tmps.getD d undef = u at hv
          cases hv with
          | pure hv => cases hv
          | tup _ vs h1 _ => simp at h1; have : vs = #[] := Array.eq_empty_of_size_eq_zero h1.symm
                             rw [this]; rfl
        right
        refine ⟨?_, h⟩
        rw [hy _ e]
        have : ∀ b, a.tmps[d]? ≠ some (.bool b) := fun b hb' => by
          have : a.tmps.getD d undef = .bool b := by simp only [Array.getD_eq_getD_getElem?, hb', Option.getD_some]
          rw [e] at this; simp [undef] at this
        cases hq : a.tmps[d]? with
        | none => simp
        | some v => cases v <;> simp <;> exact absurd hq (this _)
      · exact h.elim
theorem zAi {all : List Oper} {K : AS → List Touch → Prop} {Q : Exit → Act → World → Prop} (hK : ∀ σ ts a w, K σ ts → St E σ a w → Q .normal a w) :
  ∀ (l : List Oper) (σ : AS) (ts : List Touch) (a : Act) (w : World), y6 P all K l σ ts → St E σ a w → wpList P all.toArray Q l a w
 | [], σ, ts, a, w, h, hs => hK σ ts a w h hs
 | o :: rest, σ, ts, a, w, h, ⟨I, loc, hs⟩ => by
  unfold wpList
  rcases K4 hs h with ⟨hw, hd, he⟩ | ⟨hw, hd, hr⟩
  ·rw [if_pos hw]
   refine .inl (H6 hs he (fun d e => by rw [e] at hd; exact hd) (fun v rd wr a' w' hk hst => zAi hK rest _ _ a' w' hk hst))
  ·rw [hw, if_neg (by simp)]
   exact zAi hK rest _ _ _ _ hr ⟨I, loc, hs.putD U8 (fun d e => by rw [e] at hd; exact hd)⟩
structure Evt where
 want : Bool
 v : AV
 rd : List Nat
 wr : List (Nat × AObj)
 nx : Nat
def Evt.touch (e : Evt) : Touch := ⟨e.rd, e.wr.map (·.1)⟩
structure Fits (P : Program) (all : List Oper) (o : Oper) (σ : AS) (e : Evt) : Prop where
 guard : match o.guard with
  | none => e.want = true
  | some (j, want) => ∃ d, (all[j]?).bind (·.dst) = some d ∧ ((∃ b, σ.get d = .raw (.bool b) ∧ e.want = (b == want)) ∨ (σ.get d = .tup [] ∧ e.want = false))
 dst : ∀ d, o.dst = some d → d < σ.n
 run : e.want = true → ∀ ev H (K : Cont), (∀ x, x ∈ o.op.operands → ev x = σ.ev x) → (∀ k, k ∈ e.rd → H k = σ.obj k) → K e.v e.rd e.wr → zL4 P o ev H e.nx K
 skip : e.want = false → e.v = .tup [] ∧ e.rd = [] ∧ e.wr = []
def Evt.app (e : Evt) (o : Oper) (σ : AS) : AS := (σ.writes e.wr).putD o.dst e.v
inductive Chain (P : Program) (all : List Oper) : List Oper → AS → List Evt → AS → Prop
 | nil (σ : AS) : Chain P all [] σ [] σ
 | cons {o : Oper} {l : List Oper} {σ σ' : AS} {e : Evt} {es : List Evt} : Fits P all o σ e → Chain P all l (e.app o σ) es σ' → Chain P all (o :: l) σ (e :: es) σ'
theorem B7 {all : List Oper} {K : AS → List Touch → Prop} : ∀ (l : List Oper) (σ : AS) (ts : List Touch), y6 P all K l σ ts → ∃ es σ', Chain P all l σ es σ' ∧ K σ' (ts ++ es.map Evt.touch)
  | [], σ, ts, h => ⟨[], σ, .nil σ, by simpa [y6] using h⟩
  | o :: rest, σ, ts, h => by
    have yes : ((match o.dst with | some d => ltN d σ.n | none => True) ∧ zL4 P o σ.ev σ.obj σ.nx (fun v rd wr => y6 P all K rest ((σ.writes wr).putD o.dst v) (ts ++ [⟨rd, wr.map (·.1)⟩]))) →
        (match o.guard with | none => True | some (j, want) => ∃ d, (all[j]?).bind (·.dst) = some d ∧ ∃ b, σ.get d = .raw (.bool b) ∧ true = (b == want)) → ∃ es σ', Chain P all (o :: rest) σ es σ' ∧ K σ' (ts ++ es.map Evt.touch) := by
      rintro ⟨hd, he⟩ hg
      obtain ⟨v, rd, wr, hk, hf⟩ := zEx P o σ.ev σ.nx σ.obj _ he
      obtain ⟨es, σ', hc, hK⟩ := B7 rest _ _ hk
      refine ⟨⟨true, v, rd, wr, σ.nx⟩ :: es, σ', .cons ⟨?_, (by intro d e; rw [e] at hd; exact hd), fun _ ev H K hev hH hK => zEe hev (hf H hH K hK), (by intro h; cases h)⟩ hc, by simpa [Evt.touch] using hK⟩
      cases hgo : o.guard with
      | none => rfl
      | some jw =>
        rw [hgo] at hg
        obtain ⟨d, h1, b, h2, h3⟩ := hg
        exact ⟨d, h1, .inl ⟨b, h2, h3⟩⟩
    have no : ((match o.dst with | some d => ltN d σ.n | none => True) ∧ y6 P all K rest (σ.putD o.dst (.tup [])) (ts ++ [⟨[], []⟩])) →
        (match o.guard with | none => False | some (j, want) => ∃ d, (all[j]?).bind (·.dst) = some d ∧ ((∃ b, σ.get d = .raw (.bool b) ∧ false = (b == want)) ∨ σ.get d = .tup [])) → ∃ es σ', Chain P all (o :: rest) σ es σ' ∧ K σ' (ts ++ es.map Evt.touch) := by
      rintro ⟨hd, hr⟩ hg
      obtain ⟨es, σ', hc, hK⟩ := B7 rest _ _ hr
      refine ⟨⟨false, .tup [], [], [], σ.nx⟩ :: es, σ', .cons ⟨?_, (by intro d e; rw [e] at hd; exact hd), (by intro h; cases h), fun _ => ⟨rfl, rfl, rfl⟩⟩ hc, by simpa [Evt.touch] using hK⟩
      cases hgo : o.guard with
      | none => rw [hgo] at hg; exact hg.elim
      | some jw =>
        rw [hgo] at hg
        obtain ⟨d, h1, h2⟩ := hg
        exact ⟨d, h1, h2.imp id (fun h => ⟨h, rfl⟩)⟩
    unfold y6 l8 at h
    cases hg : o.guard with
    | none => rw [hg] at h; exact yes h (by rw [hg]; trivial)
    | some jw =>
      obtain ⟨j, want⟩ := jw
      rw [hg] at h
      simp only at h
      cases hd : (all[j]?).bind (·.dst) with
      | none => simp only [hd] at h
      | some d =>
        simp only [hd] at h
        split at h
        · rename_i b hb
          by_cases hbw : b = want
          · exact yes (h.1 hbw) (by rw [hg]; exact ⟨d, hd, b, hb, by simp [hbw]⟩)
          · have : b = !want := by cases b <;> cases want <;> simp_all
            exact no (h.2 this) (by rw [hg]; exact ⟨d, hd, .inl ⟨b, hb, by simp [hbw]⟩⟩)
        · rename_i hb
          exact no h (by rw [hg]; exact ⟨d, hd, .inr hb⟩)
        · exact h.elim
def stL (L : Nat → Bool) : Nat → List Oper → List Evt → AS → AS
 | k, o :: l, e :: es, σ => stL L (k + 1) l es (if L k then e.app o σ else σ)
 | _, _, _, σ => σ
theorem L1 (e : Evt) (o : Oper) (σ : AS) (t : Nat) : (e.app o σ).get t = if o.dst = some t then e.v else σ.get t := by
 unfold Evt.app AS.putD
 cases hd : o.dst with
 | none => simp [(e7 e.wr σ).2]
 | some d =>
  simp only [AS.get_put, Option.some.injEq]
  split
  ·rfl
  ·exact (e7 e.wr σ).2 t
theorem zBD (e : Evt) (o : Oper) (σ : AS) : (e.app o σ).n = σ.n := by
 unfold Evt.app AS.putD
 cases o.dst with
 | none => exact (e7 e.wr σ).1
 | some d => exact (e7 e.wr σ).1
theorem zA3 : ∀ (wr : List (Nat × AObj)) (σ σ' : AS) (o : Nat), (o ∈ wr.map (·.1) ∨ σ.obj o = σ'.obj o) → (σ.writes wr).obj o = (σ'.writes wr).obj o
 | [], σ, σ', o, h => by simpa [AS.writes] using h
 | q :: wr, σ, σ', o, h => by
  refine zA3 wr (σ.setO q.1 q.2) (σ'.setO q.1 q.2) o ?_
  by_cases hq : q.1 = o
  ·right; rw [AS.obj_setO, AS.obj_setO, if_pos hq, if_pos hq]
  ·rcases h with h | h
   ·left
    simp only [List.map_cons, List.mem_cons] at h
    exact h.resolve_left (fun e => hq e.symm)
   ·right; rw [AS.obj_setO, AS.obj_setO, if_neg hq, if_neg hq]; exact h
theorem zA5 : ∀ (wr : List (Nat × AObj)) (σ : AS) (o : Nat), o ∉ wr.map (·.1) → (σ.writes wr).obj o = σ.obj o
 | [], _, _, _ => rfl
 | q :: wr, σ, o, h => by
  have h' : q.1 ≠ o ∧ o ∉ wr.map (·.1) := by
   simp only [List.map_cons, List.mem_cons] at h
   exact ⟨fun e => h (.inl e.symm), fun e => h (.inr e)⟩
  have := zA5 wr (σ.setO q.1 q.2) o h'.2
  rw [AS.obj_setO, if_neg h'.1] at this
  exact this
theorem L3 (e : Evt) (o : Oper) (σ : AS) (k : Nat) : (e.app o σ).obj k = (σ.writes e.wr).obj k := by
 unfold Evt.app AS.putD
 cases o.dst <;> rfl
theorem W0 (L : Nat → Bool) : ∀ (k : Nat) (l : List Oper) (es : List Evt) (σ : AS), (stL L k l es σ).n = σ.n
 | k, o :: l, e :: es, σ => by
  simp only [stL]
  rw [W0 L (k + 1) l es]
  split
  ·exact zBD e o σ
  ·rfl
 | _, [], _, _ => rfl
 | _, _ :: _, [], _ => rfl
theorem I5 {L L' : Nat → Bool} {t : Nat} : ∀ (k : Nat) (l : List Oper) (es : List Evt) (σ σ' : AS), σ.get t = σ'.get t → (∀ i (h : i < l.length), (l[i]).dst = some t → L (k + i) = L' (k + i)) →
    (stL L k l es σ).get t = (stL L' k l es σ').get t
  | k, o :: l, e :: es, σ, σ', h, hL => by
    simp only [stL]
    refine I5 (k + 1) l es _ _ ?_ (fun i hi hd => by have := hL (i + 1) (by simpa using hi) (by simpa using hd); rwa [Nat.add_assoc, Nat.add_comm 1 i])
    by_cases hd : o.dst = some t
    · have := hL 0 (by simp) (by simpa using hd)
      simp only [Nat.add_zero] at this
      rw [this]
      cases L' k
      · exact h
      · rw [if_pos rfl, if_pos rfl, L1, L1, if_pos hd, if_pos hd]
    · have e1 : ∀ (b : Bool) (τ : AS), (if b = true then e.app o τ else τ).get t = τ.get t := fun b τ => by
        cases b
        · rfl
        · rw [if_pos rfl, L1, if_neg hd]
      rw [e1, e1]; exact h
  | _, [], _, _, _, h, _ => h
  | _, _ :: _, [], _, _, h, _ => h
theorem I6 {L L' : Nat → Bool} {q : Nat} : ∀ (k : Nat) (l : List Oper) (es : List Evt) (σ σ' : AS), σ.obj q = σ'.obj q → (∀ i (h : i < es.length), q ∈ (es[i]).wr.map (·.1) → L (k + i) = L' (k + i)) →
    (stL L k l es σ).obj q = (stL L' k l es σ').obj q
  | k, o :: l, e :: es, σ, σ', h, hL => by
    simp only [stL]
    refine I6 (k + 1) l es _ _ ?_ (fun i hi hd => by have := hL (i + 1) (by simpa using hi) (by simpa using hd); rwa [Nat.add_assoc, Nat.add_comm 1 i])
    by_cases hd : q ∈ e.wr.map (·.1)
    · have := hL 0 (by simp) (by simpa using hd)
      simp only [Nat.add_zero] at this
      rw [this]
      cases L' k
      · exact h
      · rw [if_pos rfl, if_pos rfl, L3, L3]; exact zA3 e.wr _ _ q (.inl hd)
    · have e1 : ∀ (b : Bool) (τ : AS), (if b = true then e.app o τ else τ).obj q = τ.obj q := fun b τ => by
        cases b
        · rfl
        · rw [if_pos rfl, L3, zA5 _ _ _ hd]
      rw [e1, e1]; exact h
  | _, [], _, _, _, h, _ => h
  | _, _ :: _, [], _, _, h, _ => h
theorem zDA {L : Nat → Bool} {t j : Nat} : ∀ (k : Nat) (l : List Oper) (es : List Evt) (σ : AS) (hj : j < l.length) (hj' : j < es.length), l.length = es.length → (l[j]).dst = some t → L (k + j) = true →
    (∀ i (h : i < l.length), j < i → (l[i]).dst = some t → L (k + i) = false) → (stL L k l es σ).get t = (es[j]).v
  | k, o :: l, e :: es, σ, hj, hj', hlen, hd, hL, hno => by
    simp only [stL]
    cases j with
    | zero =>
      simp only [Nat.add_zero] at hL
      rw [hL, if_pos rfl]
      have : (stL L (k + 1) l es (e.app o σ)).get t = (stL (fun _ => false) (k + 1) l es (e.app o σ)).get t :=
        I5 (k + 1) l es _ _ rfl (fun i hi hdi => by have := hno (i + 1) (by simpa using hi) (by omega) (by simpa using hdi); rwa [Nat.add_assoc, Nat.add_comm 1 i])
      rw [this]
      have hnone : ∀ (k : Nat) (l : List Oper) (es : List Evt) (τ : AS), (stL (fun _ => false) k l es τ) = τ := fun k l => by
        induction l generalizing k with
        | nil => exact fun es τ => by cases es <;> rfl
        | cons o l ih => exact fun es τ => by
                           cases es with
                           | nil => rfl
                           | cons e es => simp only [stL]; exact ih _ _ _
      rw [hnone, L1, if_pos (by simpa using hd)]; rfl
    | succ j =>
      have := zDA (j := j) (t := t) (L := L) (k + 1) l es (if L k then e.app o σ else σ) (by simpa using hj) (by simpa using hj') (by simpa using hlen) (by simpa using hd) (by rw [Nat.add_assoc, Nat.add_comm 1 j]; exact hL)
        (fun i hi hij hdi => by have := hno (i + 1) (by simpa using hi) (by omega) (by simpa using hdi); rwa [Nat.add_assoc, Nat.add_comm 1 i])
      simpa using this
theorem zDB {L : Nat → Bool} {q j : Nat} : ∀ (k : Nat) (l : List Oper) (es : List Evt) (σ τ : AS) (hj : j < es.length), l.length = es.length → q ∈ (es[j]).wr.map (·.1) → L (k + j) = true →
    (∀ i (h : i < es.length), j < i → q ∈ (es[i]).wr.map (·.1) → L (k + i) = false) → (stL L k l es σ).obj q = (τ.writes (es[j]).wr).obj q
  | k, o :: l, e :: es, σ, τ, hj, hlen, hd, hL, hno => by
    simp only [stL]
    cases j with
    | zero =>
      simp only [Nat.add_zero] at hL
      rw [hL, if_pos rfl]
      have : (stL L (k + 1) l es (e.app o σ)).obj q = (stL (fun _ => false) (k + 1) l es (e.app o σ)).obj q :=
        I6 (k + 1) l es _ _ rfl (fun i hi hdi => by have := hno (i + 1) (by simpa using hi) (by omega) (by simpa using hdi); rwa [Nat.add_assoc, Nat.add_comm 1 i])
      rw [this]
      have hnone : ∀ (k : Nat) (l : List Oper) (es : List Evt) (τ : AS), (stL (fun _ => false) k l es τ) = τ := fun k l => by
        induction l generalizing k with
        | nil => exact fun es τ => by cases es <;> rfl
        | cons o l ih => exact fun es τ => by
                           cases es with
                           | nil => rfl
                           | cons e es => simp only [stL]; exact ih _ _ _
      rw [hnone, L3]
      exact zA3 _ _ _ _ (.inl (by simpa using hd))
    | succ j =>
      have := zDB (j := j) (q := q) (L := L) (k + 1) l es (if L k then e.app o σ else σ) τ (by simpa using hj) (by simpa using hlen) (by simpa using hd) (by rw [Nat.add_assoc, Nat.add_comm 1 j]; exact hL)
        (fun i hi hij hdi => by have := hno (i + 1) (by simpa using hi) (by omega) (by simpa using hdi); rwa [Nat.add_assoc, Nat.add_comm 1 i])
      simpa using this
  | _, [], e :: es, _, _, _, hlen, _, _, _ => by simp at hlen
  | _, _, [], _, _, hj, _, _, _, _ => by simp at hj
theorem Chain.fits {all : List Oper} : ∀ {l : List Oper} {σ σ' : AS} {es : List Evt} (k : Nat), Chain P all l σ es σ' → l.length = es.length ∧ σ' = stL (fun _ => true) k l es σ ∧
    ∀ j (hj : j < l.length) (hj' : j < es.length), Fits P all (l[j]) (stL (fun i => decide (i < k + j)) k l es σ) (es[j])
  | _, _, _, _, k, .nil σ => ⟨rfl, rfl, fun j hj => by simp at hj⟩
  | _, _, _, _, k, .cons (o := o) (l := l) (σ := σ) (e := e) (es := es) hf hc => by
    obtain ⟨h1, h2, h3⟩ := Chain.fits (k + 1) hc
    refine ⟨by simp [h1], by simp only [stL, if_true]; exact h2, fun j hj hj' => ?_⟩
    cases j with
    | zero =>
      have hnone : ∀ (k' : Nat), k ≤ k' → ∀ (l : List Oper) (es : List Evt) (τ : AS), (stL (fun i => decide (i < k + 0)) k' l es τ) = τ := fun k' hk l => by
        induction l generalizing k' with
        | nil => exact fun es τ => by cases es <;> rfl
        | cons o l ih => exact fun es τ => by
                           cases es with
                           | nil => rfl
                           | cons e es => simp only [stL]; rw [if_neg (by simp; omega)]; exact ih _ (by omega) _ _
      simp only [List.getElem_cons_zero]
      rw [hnone k (Nat.le_refl _)]; exact hf
    | succ j =>
      simp only [stL, List.getElem_cons_succ]
      rw [if_pos (by simp)]
      have := h3 j (by simpa using hj) (by simpa using hj')
      have e1 : (fun i => decide (i < k + 1 + j)) = (fun i => decide (i < k + (j + 1))) := by funext i; congr 1; rw [Nat.add_assoc, Nat.add_comm 1 j]
      rw [e1] at this; exact this
def J0 (acc : List Nat) (o : Oper) : Nat := o.after.toList.foldl (fun s e => if Region.binds .any e = true then s ||| (2 ^ e.on ||| acc.getD e.on 0) else s) 0
def O9 : List Oper → List Nat → List Nat
 | [], acc => acc
 | o :: r, acc => O9 r (acc ++ [J0 acc o])
def N5 (a b : List Nat) : Bool := a.any (fun x => b.contains x)
def P2 (ops : Array Oper) (o1 o2 : Oper) (t1 t2 : Touch) : Bool := o1.apart ops o2 && (!N5 t1.wr (t2.rd ++ t2.wr) && !N5 t2.wr t1.rd)
def S1 (ops : List Oper) (ts : List Touch) : Bool :=
 (List.range ops.length).all (fun j => (List.range j).all fun i => ((O9 ops []).getD j 0).testBit i || P2 ops.toArray (ops.getD i default) (ops.getD j default) (ts.getD i ⟨[], []⟩) (ts.getD j ⟨[], []⟩))
def L7 (ops : List Oper) : Bool := (List.range ops.length).all fun j => (ops.getD j default).after.all fun e => !Region.binds .any e || decide (e.on < j)
def H1 (ops : List Oper) (L : Nat → Bool) : Prop := ∀ i (h : i < ops.length), L i = true → ∀ e, e ∈ (ops[i]).after → Region.binds .any e = true → L e.on = true
def zMo (ops : List Oper) (acc : List Nat) : Prop := ∀ j (h : j < acc.length) (h' : j < ops.length) (L : Nat → Bool), H1 ops L → (∀ e, e ∈ (ops[j]).after → Region.binds .any e = true → L e.on = true) → ∀ i, (acc[j]).testBit i = true → L i = true
theorem zGK {acc : List Nat} {o : Oper} {i : Nat} (h : (J0 acc o).testBit i = true) : ∃ e, e ∈ o.after ∧ Region.binds .any e = true ∧ (i = e.on ∨ (acc.getD e.on 0).testBit i = true) := by
 unfold J0 at h
 have key : ∀ (l : List Edge) (s : Nat), (l.foldl (fun s e => if Region.binds .any e = true then s ||| (2 ^ e.on ||| acc.getD e.on 0) else s) s).testBit i = true → s.testBit i = true ∨ ∃ e, e ∈ l ∧ Region.binds .any e = true ∧ (i = e.on ∨ (acc.getD e.on 0).testBit i = true) := by
  intro l
  induction l with
  | nil => exact fun s h => .inl h
  | cons e l ih =>
   intro s h
   simp only [List.foldl_cons] at h
   rcases ih _ h with h | ⟨e', h1, h2⟩
   ·by_cases hb : Region.binds .any e = true
    ·rw [if_pos hb, Nat.testBit_or, Nat.testBit_or, Bool.or_eq_true, Bool.or_eq_true] at h
     rcases h with h | h | h
     ·exact .inl h
     ·refine .inr ⟨e, by simp, hb, .inl ?_⟩
      rw [Nat.testBit_two_pow] at h
      exact (of_decide_eq_true h).symm
     ·exact .inr ⟨e, by simp, hb, .inr h⟩
    ·rw [if_neg hb] at h; exact .inl h
   ·exact .inr ⟨e', by simp [h1], h2⟩
 rcases key _ 0 h with h | ⟨e, h1, h2⟩
 ·simp at h
 ·exact ⟨e, by simpa using h1, h2⟩
theorem zCO (ops : List Oper) : ∀ (l : List Oper) (acc : List Nat), ops.drop acc.length = l → zMo ops acc → zMo ops (O9 l acc) ∧ (O9 l acc).length = acc.length + l.length
 | [], acc, _, h => ⟨h, rfl⟩
 | o :: r, acc, hd, h => by
  have hlt : acc.length < ops.length := by
   have := congrArg List.length hd
   simp at this; omega
  have ho : ops[acc.length] = o := by
   have h0 := congrArg (fun l => l[0]?) hd
   simp only [List.getElem?_drop, Nat.add_zero, List.getElem?_cons_zero, List.getElem?_eq_getElem hlt, Option.some.injEq] at h0
   exact h0
  have hg : zMo ops (acc ++ [J0 acc o]) := by
   intro j hj hj' L hL hed i hi
   by_cases hlt' : j < acc.length
   ·rw [List.getElem_append_left hlt'] at hi
    exact h j hlt' hj' L hL hed i hi
   ·have e : j = acc.length := by simp at hj; omega
    subst e
    simp only [List.getElem_append_right (Nat.le_refl _), Nat.sub_self, List.getElem_cons_zero] at hi
    obtain ⟨e, h1, h2, h3⟩ := zGK hi
    rw [← ho] at h1
    have hLe := hed e h1 h2
    rcases h3 with rfl | h3
    ·exact hLe
    ·by_cases hel : e.on < acc.length
     ·rw [u5 hel] at h3
      exact h e.on hel (by omega) L hL (fun e' he' hb' => hL e.on (by omega) hLe e' he' hb') i h3
     ·rw [List.getD, List.getElem?_eq_none (by omega)] at h3
      simp at h3
  obtain ⟨g1, g2⟩ := zCO ops r (acc ++ [J0 acc o]) (by
   have := congrArg (List.drop 1) hd
   simpa [List.drop_drop] using this) hg
  exact ⟨g1, by rw [O9, g2]; simp; omega⟩
theorem zGF {ops : Array Oper} {o : Oper} {j d : Nat} {want : Bool} (hg : o.guard = some (j, want)) (hd : (ops[j]?).bind (·.dst) = some d) : d ∈ o.looksAt ops := by
 unfold Oper.looksAt; rw [hg]; simp [hd]
theorem zGG {ops : Array Oper} {o : Oper} {t : Nat} (h : Operand.tmp t ∈ o.op.operands) : t ∈ o.looksAt ops := by
 unfold Oper.looksAt
 simp only [List.mem_append, List.mem_filterMap]
 exact .inl ⟨.tmp t, by simpa using h, rfl⟩
theorem zAd {a b : List Nat} (h : N5 a b = false) {x : Nat} (ha : x ∈ a) : x ∉ b := by
 unfold N5 at h
 rw [List.any_eq_false] at h
 have := h x ha
 simpa using this
theorem zEG {all : List Oper} {es : List Evt} {σ0 σ1 : AS} (hind : S1 all (es.map Evt.touch) = true) (hed : L7 all = true) (hc : Chain P all all σ0 es σ1) {Q : Exit → Act → World → Prop} (hQ : ∀ a w, St E σ1 a w → Q .normal a w) :
    ∀ (fuel : Nat) (listed : Array Bool) (a : Act) (w : World), listed.size = all.length → H1 all (fun i => listed.getD i false) → ((List.range all.length).filter fun i => !listed.getD i true).length ≤ fuel →
      St E (stL (fun i => listed.getD i false) 0 all es σ0) a w → wpAny P .any all.toArray Q fuel listed a w := by
  obtain ⟨hlen, hfin, hfits⟩ := hc.fits 0
  have hgood := zCO all all [] (by simp) (fun j h => by simp at h)
  have hord : ∀ i j (hi : i < all.length) (hj : j < all.length), i < j → ((∀ L, H1 all L → (∀ e, e ∈ (all[j]).after → Region.binds .any e = true → L e.on = true) → L i = true) ∨ P2 all.toArray (all[i]) (all[j]) ((es[i]'(by omega)).touch) ((es[j]'(by omega)).touch) = true) := by
    intro i j hi hj hij
    unfold S1 at hind
    rw [List.all_eq_true] at hind
    have h1 := hind j (by simpa using hj)
    rw [List.all_eq_true] at h1
    have h2 := h1 i (by simpa using hij)
    rw [Bool.or_eq_true] at h2
    rcases h2 with h2 | h2
    · have hjm : j < (O9 all []).length := by rw [hgood.2]; simpa using hj
      rw [u5 hjm] at h2
      exact .inl (fun L hL he => hgood.1 j hjm hj L hL he i h2)
    · rw [u5 hi, u5 hj, u5 (by simpa using (by omega : i < es.length)), u5 (by simpa using (by omega : j < es.length))] at h2
      simp only [List.getElem_map] at h2
      exact .inr h2
  have hedge : ∀ j (hj : j < all.length) e, e ∈ (all[j]).after → Region.binds .any e = true → e.on < j := by
    intro j hj e he hb
    unfold L7 at hed
    rw [List.all_eq_true] at hed
    have h1 := hed j (by simpa using hj)
    rw [u5 hj, Array.all_eq_true_iff_forall_mem] at h1
    have h2 := h1 e he
    rw [hb] at h2
    simpa using h2
  have hdone : ∀ (listed : Array Bool), listed.size = all.length → Region.ready .any all.toArray listed = [] → ∀ i, i < all.length → listed.getD i false = true := by
    intro listed hsz hr i
    induction i using Nat.strongRecOn with
    | _ i ih =>
      intro hi
      by_cases hn : listed.getD i false = true
      · exact hn
      · exfalso
        have hmem : i ∈ Region.ready .any all.toArray listed := by
          rw [mem_ready]
          refine ⟨?_, all[i], by simp [hi], fun e he hb => ih e.on (hedge i hi e he hb) (by have := hedge i hi e he hb; omega)⟩
          have : i < listed.size := by omega
          simp [this] at hn ⊢; exact hn
        rw [hr] at hmem; cases hmem
  have hend : ∀ (listed : Array Bool) a w, listed.size = all.length → Region.ready .any all.toArray listed = [] → St E (stL (fun i => listed.getD i false) 0 all es σ0) a w → Q .normal a w := by
    intro listed a w hsz hr ⟨I, loc, hs⟩
    refine hQ a w ⟨I, loc, hs.congr ?_ (fun t => ?_) (fun o => ?_)⟩
    · rw [hfin, W0, W0]
    · rw [hfin]
      exact I5 0 all es σ0 σ0 rfl (fun i hi _ => by rw [Nat.zero_add, hdone listed hsz hr i hi])
    · rw [hfin]
      exact I6 0 all es σ0 σ0 rfl (fun i hi _ => by rw [Nat.zero_add, hdone listed hsz hr i (by omega)])
  intro fuel
  induction fuel with
  | zero =>
    intro listed a w hsz hcl hun hst
    have hr : Region.ready .any all.toArray listed = [] := by
      have hnil := List.eq_nil_of_length_eq_zero (Nat.le_zero.1 hun)
      cases hrr : Region.ready .any all.toArray listed with
      | nil => rfl
      | cons x xs =>
        exfalso
        have hx : x ∈ Region.ready .any all.toArray listed := by rw [hrr]; simp
        obtain ⟨h0, o, ho, _⟩ := mem_ready.1 hx
        have hxl : x < all.length := by simpa using (Array.getElem?_eq_some_iff.1 ho).1
        have : x ∈ (List.range all.length).filter fun i => !listed.getD i true := List.mem_filter.2 ⟨by simpa using hxl, by rw [h0]; rfl⟩
        rw [hnil] at this; cases this
    exact ⟨hr, hend listed a w hsz hr hst⟩
  | succ fuel ih =>
    intro listed a w hsz hcl hun hst
    refine ⟨fun hr => hend listed a w hsz hr hst, fun j hj => ?_⟩
    obtain ⟨hj0, o, ho, hedg⟩ := mem_ready.1 hj
    have hjl : j < all.length := by simpa using (Array.getElem?_eq_some_iff.1 ho).1
    have hoe : all[j] = o := by simpa [hjl] using ho
    have hje : j < es.length := by omega
    have hjs : j < listed.size := by omega
    have hLj : listed.getD j false = false := by simp [hjs] at hj0 ⊢; exact hj0
    have hedg' : ∀ e, e ∈ (all[j]).after → Region.binds .any e = true → listed.getD e.on false = true := fun e he hb => hedg e (by rw [← hoe]; exact he) hb
    have hfj := hfits j hjl hje
    simp only [Nat.zero_add] at hfj
    -- one that was listed and stands behind j is apart from it
    have hbehind : ∀ i (hi : i < all.length), j < i → listed.getD i false = true → P2 all.toArray (all[j]) (all[i]) ((es[j]).touch) ((es[i]'(by omega)).touch) = true := by
      intro i hi hji hLi
      rcases hord j i hjl hi hji with h | h
      · have := h (fun k => listed.getD k false) hcl (fun e he hb => hcl i hi hLi e he hb)
        rw [hLj] at this; cases this
      · exact h
    have hahead : ∀ i (hi : i < all.length), i < j → listed.getD i false = true ∨ P2 all.toArray (all[i]) (all[j]) ((es[i]'(by omega)).touch) ((es[j]).touch) = true := by
      intro i hi hij
      rcases hord i j hi hjl hij with h | h
      · exact .inl (h (fun k => listed.getD k false) hcl hedg')
      · exact .inr h
    have happ : ∀ {ops : Array Oper} {o1 o2 : Oper} {t1 t2 : Touch}, P2 ops o1 o2 t1 t2 = true → o1.apart ops o2 = true ∧ N5 t1.wr (t2.rd ++ t2.wr) = false ∧ N5 t2.wr t1.rd = false := fun {ops o1 o2 t1 t2} h => by
      unfold P2 at h
      simp only [Bool.and_eq_true, Bool.not_eq_true'] at h
      exact h
    have hreadT : ∀ t, t ∈ (all[j]).looksAt all.toArray → (stL (fun i => listed.getD i false) 0 all es σ0).get t = (stL (fun i => decide (i < j)) 0 all es σ0).get t := by
      intro t ht
      refine I5 0 all es σ0 σ0 rfl (fun i hi hd => ?_)
      rw [Nat.zero_add]
      rcases Nat.lt_trichotomy i j with h | h | h
      · simp only [h, decide_true]
        rcases hahead i hi h with h' | h'
        · exact h'
        · exact absurd ht ((Oper.apart_spec (happ h').1).1 t hd)
      · subst h; simp only [Nat.lt_irrefl, decide_false]; exact hLj
      · simp only [show ¬ i < j by omega, decide_false]
        by_cases hLi : listed.getD i false = true
        · exact absurd ht ((Oper.apart_spec (happ (hbehind i hi h hLi)).1).2.2 t hd)
        · simpa using hLi
    have hreadO : ∀ q, q ∈ (es[j]).rd → (stL (fun i => listed.getD i false) 0 all es σ0).obj q = (stL (fun i => decide (i < j)) 0 all es σ0).obj q := by
      intro q hq
      refine I6 0 all es σ0 σ0 rfl (fun i hi hd => ?_)
      rw [Nat.zero_add]
      have hil : i < all.length := by omega
      rcases Nat.lt_trichotomy i j with h | h | h
      · simp only [h, decide_true]
        rcases hahead i hil h with h' | h'
        · exact h'
        · exact absurd (List.mem_append.2 (.inl hq)) (zAd (happ h').2.1 hd)
      · subst h; simp only [Nat.lt_irrefl, decide_false]; exact hLj
      · simp only [show ¬ i < j by omega, decide_false]
        by_cases hLi : listed.getD i false = true
        · exact absurd hq (zAd (happ (hbehind i hil h hLi)).2.2 hd)
        · simpa using hLi
    obtain ⟨I, loc, hs⟩ := hst
    have hsetL : ∀ i, (listed.setIfInBounds j true).getD i false = if i = j then true else listed.getD i false := fun i => by
      by_cases e : i = j
      · subst e; simp [hjs]
      · rw [if_neg e, getD_set_ne false (fun h => e h.symm)]
    have hnext : ∀ a' w', St E ((es[j]).app o (stL (fun i => listed.getD i false) 0 all es σ0)) a' w' → wpAny P .any all.toArray Q fuel (listed.setIfInBounds j true) a' w' := by
      intro a' w' ⟨I', loc', hs'⟩
      refine ih _ a' w' (by simpa using hsz) ?_ ?_ ⟨I', loc', hs'.congr ?_ (fun t => ?_) (fun q => ?_)⟩
      · intro i hi hLi e he hb
        have hLi : (listed.setIfInBounds j true).getD i false = true := hLi
        show (listed.setIfInBounds j true).getD e.on false = true
        rw [hsetL] at hLi
        rw [hsetL]
        split
        · rfl
        · by_cases e1 : i = j
          · subst e1; exact hedg' e he hb
          · rw [if_neg e1] at hLi; exact hcl i hi hLi e he hb
      · have hlt : ((List.range all.length).filter fun i => !(listed.setIfInBounds j true).getD i true).length < ((List.range all.length).filter fun i => !listed.getD i true).length := by
          have hsub : ((List.range all.length).filter fun i => !(listed.setIfInBounds j true).getD i true) = ((List.range all.length).filter fun i => !listed.getD i true).filter (fun i => decide (i ≠ j)) := by
            rw [List.filter_filter]
            apply List.filter_congr
            intro i _
            by_cases e : i = j
            · subst e; simp [hjs]
            · rw [getD_set_ne true (fun h => e h.symm)]; simp [e]
          rw [hsub]
          have hmem : j ∈ (List.range all.length).filter fun i => !listed.getD i true := List.mem_filter.2 ⟨by simpa using hjl, by rw [hj0]; rfl⟩
          refine Nat.lt_of_le_of_ne (List.length_filter_le _ _) (fun e => ?_)
          have := (List.length_filter_eq_length_iff.1 e) j hmem
          simp at this
        omega
      · rw [zBD, W0, W0]
      · rw [L1]
        by_cases hd : o.dst = some t
        · rw [if_pos hd]
          refine zDA 0 all es σ0 hjl hje hlen (by rw [hoe]; exact hd) (by rw [Nat.zero_add, hsetL, if_pos rfl]) (fun i hi hji hdi => ?_)
          rw [Nat.zero_add, hsetL, if_neg (by omega)]
          by_cases hLi : listed.getD i false = true
          · have hap := Oper.apart_spec (happ (hbehind i hi hji hLi)).1
            exact absurd hdi (hap.2.1 t (by rw [hoe]; exact hd))
          · simpa using hLi
        · rw [if_neg hd]
          refine I5 0 all es σ0 σ0 rfl (fun i hi hdi => ?_)
          rw [Nat.zero_add, hsetL, if_neg]
          intro e; subst e; rw [hoe] at hdi; exact hd hdi
      · rw [L3]
        by_cases hq : q ∈ (es[j]).wr.map (·.1)
        · refine (zDB 0 all es σ0 (stL (fun i => listed.getD i false) 0 all es σ0) hje hlen hq (by rw [Nat.zero_add, hsetL, if_pos rfl]) (fun i hi hji hdi => ?_))
          rw [Nat.zero_add, hsetL, if_neg (by omega)]
          by_cases hLi : listed.getD i false = true
          · exact absurd (List.mem_append.2 (.inr hdi)) (zAd (happ (hbehind i (by omega) hji hLi)).2.1 hq)
          · simpa using hLi
        · rw [zA5 _ _ _ hq]
          refine I6 0 all es σ0 σ0 rfl (fun i hi hdi => ?_)
          rw [Nat.zero_add, hsetL, if_neg]
          intro e; subst e; exact hq hdi
    unfold wpOp
    rw [ho]
    simp only
    have hguard : l8 all (stL (fun i => listed.getD i false) 0 all es σ0) o ((es[j]).want = true) ((es[j]).want = false) := by
      have hg := hfj.guard
      rw [hoe] at hg
      unfold l8
      cases hgo : o.guard with
      | none => rw [hgo] at hg; exact hg
      | some jw =>
        obtain ⟨j', want⟩ := jw
        rw [hgo] at hg
        obtain ⟨d, h1, h2⟩ := hg
        simp only [h1]
        have hlk : d ∈ (all[j]).looksAt all.toArray := by
          rw [hoe]
          exact zGF hgo (by simpa using h1)
        rw [hreadT d hlk]
        rcases h2 with ⟨b, h2, h3⟩ | ⟨h2, h3⟩
        · rw [h2]; simp only
          exact ⟨fun e => by rw [h3, e]; simp, fun e => by rw [h3, e]; cases want <;> rfl⟩
        · rw [h2]; exact h3
    rcases K4 hs hguard with ⟨hw, hwant⟩ | ⟨hw, hwant⟩
    · rw [if_pos hw]
      refine .inl (H6 (nx := (es[j]).nx) (K := fun v rd wr => v = (es[j]).v ∧ wr = (es[j]).wr) hs ?_ (fun d hd => ?_) ?_)
      · have := hfj.run hwant (stL (fun i => listed.getD i false) 0 all es σ0).ev (stL (fun i => listed.getD i false) 0 all es σ0).obj (fun v rd wr => v = (es[j]).v ∧ wr = (es[j]).wr) (fun x hx => ?_) hreadO ⟨rfl, rfl⟩
        · rw [hoe] at this; exact this
        · cases x with
          | tmp t => exact hreadT t (zGG hx)
          | _ => rfl
      · rw [W0]; have := hfj.dst d (by rw [hoe]; exact hd); rw [W0] at this; exact this
      · rintro v rd wr a' w' ⟨rfl, rfl⟩ hst
        exact hnext a' w' hst
    · rw [hw, if_neg (by simp)]
      obtain ⟨hv, _, hwr⟩ := hfj.skip hwant
      refine hnext _ _ ⟨I, loc, ?_⟩
      unfold Evt.app
      rw [hv, hwr]
      exact hs.putD U8 (fun d hd => by rw [W0]; have := hfj.dst d (by rw [hoe]; exact hd); rw [W0] at this; exact this)
end
end Go.Abs

namespace Go.Abs
open Go
def I9 (P : Program) (t : TypeId) : Bool := match P.underlying t with
 | some (.struct fs) => fs.all (fun f => (sizeT P f.type).isSome)
 | _ => false
def baC (z : Value) (sz : Nat) (ps : List (Nat × AV)) (K : Cont) : Prop := z.cells.all (·.oneCell') = true ∧ (∀ p, p ∈ ps → p.2.sized = true) ∧ (match V0 sz (z.cells.toList.map .raw) ps with
 | some cs => K (.agg cs) [] []
 | none => False)
theorem buildA_array {P : Program} {t n e : TypeId} {z : Value} {sz : Nat} (h : P.underlying t = some (.array n e)) (hz : zeroT P t = some z) (hs : sizeT P e = some sz) (ps : List (Nat × AV)) (K : Cont) : buildA P t ps K = baC z sz ps K := by
 unfold buildA baC
 simp only [h, hz, hs]
 rfl
theorem zD1 {P : Program} {t : TypeId} (h : I9 P t = true) (ps : List (Nat × AV)) (K : Cont) : buildA P t ps K = (match zeroT P t with
  | some z => z.cells.all (·.oneCell') = true ∧ (∀ p, p ∈ ps → p.2.sized = true) ∧ (match W9 P t (z.cells.toList.map .raw) ps with
   | some cs => K (.agg cs) [] []
   | none => False)
  | none => False) := by
 unfold I9 at h
 unfold buildA
 split at h
 ·rename_i fs hf
  simp only [hf]
  have h' : ∀ f, f ∈ fs → (sizeT P f.type).isSome = true := fun f hf' => by
   obtain ⟨i, hi, rfl⟩ := Array.mem_iff_getElem.1 hf'
   exact (Array.all_eq_true.1 h) i hi
  cases zeroT P t with
  | none => rfl
  | some z =>
   simp only [eq_iff_iff]
   constructor
   ·rintro ⟨h1, h2, h3, h4⟩; exact ⟨h1, h3, h4⟩
   ·rintro ⟨h1, h3, h4⟩; exact ⟨h1, h', h3, h4⟩
 ·cases h
def zMP (E : Env) (Q : Exit → AS → Prop) : Exit → Act → World → Prop := fun e a w => ∃ σ, Q e σ ∧ St E σ a w
def Hold (P : Program) (E : Env) (c : Code) (Q : Exit → AS → Prop) (σ : AS) : Prop := ∀ a w, St E σ a w → c.wp P (zMP E Q) a w
def z6 (next : AS → Prop) (Q : Exit → AS → Prop) : Exit → AS → Prop
 | .normal, σ => next σ
 | e, σ => Q e σ
def z7 (id : Nat) (Q : Exit → AS → Prop) : Exit → AS → Prop
 | .exit j, σ => if j = id then Q .normal σ else Q (.exit j) σ
 | e, σ => Q e σ
section
variable {P : Program} {E : Env} {Q : Exit → AS → Prop} {σ : AS}
theorem Hold.mono {c : Code} {Q' : Exit → AS → Prop} (h : Hold P E c Q σ) (hq : ∀ e σ, Q e σ → Q' e σ) : Hold P E c Q' σ :=
 fun a w hs => wp_mono (h a w hs) (fun e _ _ ⟨σ', h1, h2⟩ => ⟨σ', hq e σ' h1, h2⟩)
theorem zFk {x y : Code} (h : Hold P E x (z6 (Hold P E y Q) Q) σ) : Hold P E (.seq x y) Q σ := fun a w hs =>
 wp_seq (wp_mono (h a w hs) (fun e a w ⟨σ', h1, h2⟩ => by
  cases e with
  | normal => exact h1 a w h2
  | _ => exact ⟨σ', h1, h2⟩))
theorem zFl (h : Q .normal σ) : Hold P E .skip Q σ := fun _ _ hs => wp_skip ⟨σ, h, hs⟩
theorem zFf {l : Nat} (h : Q .normal σ) : Hold P E (.label l) Q σ := fun _ _ hs => wp_label ⟨σ, h, hs⟩
theorem zFe {id : Nat} (h : Q (.exit id) σ) : Hold P E (.exit id) Q σ := fun _ _ hs => wp_exit ⟨σ, h, hs⟩
theorem zFj (h : Q .ret σ) : Hold P E .ret Q σ := fun _ _ hs => wp_ret ⟨σ, h, hs⟩
theorem zFb {id : Nat} {c : Code} (h : Hold P E c (z7 id Q) σ) : Hold P E (.block id c) Q σ := fun a w hs =>
 wp_block (wp_mono (h a w hs) (fun e a w ⟨σ', h1, h2⟩ => by
  cases e with
  | exit j =>
   simp only [z7] at h1
   simp only [Exit.inBlock]
   split
   ·rename_i hj; rw [if_pos hj] at h1; exact ⟨σ', h1, h2⟩
   ·rename_i hj; rw [if_neg hj] at h1; exact ⟨σ', h1, h2⟩
  | _ => exact ⟨σ', h1, h2⟩))
theorem zFc {c : Operand} {x y : Code} {b : Bool} (hc : σ.ev c = .raw (.bool b)) (ht : b = true → Hold P E x Q σ) (hf : b = false → Hold P E y Q σ) : Hold P E (.cond c x y) Q σ := fun a w hs => by
 obtain ⟨I, loc, hs'⟩ := hs
 have hv := hs'.ev c
 rw [hc] at hv
 exact wp_cond_split hv.raw_eq (fun e => ht e a w ⟨I, loc, hs'⟩) (fun e => hf e a w ⟨I, loc, hs'⟩)
theorem zFi {id : Nat} {ops : List Oper} (h : y6 P ops (fun σ' _ => Q .normal σ') ops σ []) : Hold P E (.region id ops.toArray false) Q σ := fun a w hs =>
 wp_region_list (zAi (fun σ' _ a' w' h1 h2 => ⟨σ', h1, h2⟩) ops σ [] a w h hs)
theorem zFd {id : Nat} {ops : List Oper} (hm : P.follows .mixedOrders = true) (he : L7 ops = true) (h : y6 P ops (fun σ' ts => S1 ops ts = true ∧ Q .normal σ') ops σ []) : Hold P E (.region id ops.toArray true) Q σ := fun a w hs => by
  obtain ⟨es, σ', hc, hi, hq⟩ := B7 ops σ [] h
  refine wp_region_any hm ?_
  have hcl : H1 ops (fun i => (Array.replicate ops.toArray.size false).getD i false) := fun i _ hL => by
    exfalso
    have h2 : (Array.replicate ops.toArray.size false).getD i false = true := hL
    by_cases hi : i < ops.length <;> simp [hi] at h2
  have hst : St E (stL (fun i => (Array.replicate ops.toArray.size false).getD i false) 0 ops es σ) a { w with drawn := w.drawn + 1 } := by
    obtain ⟨I, loc, hs⟩ := hs
    have hs2 := hs.heap (w' := { w with drawn := w.drawn + 1 }) rfl rfl rfl rfl
    have hno : ∀ (k : Nat) (l : List Oper) (es : List Evt) (τ : AS), stL (fun i => (Array.replicate ops.toArray.size false).getD i false) k l es τ = τ := fun k l => by
      induction l generalizing k with
      | nil => exact fun es τ => by cases es <;> rfl
      | cons o l ih => exact fun es τ => by
                         cases es with
                         | nil => rfl
                         | cons e es =>
                           simp only [stL]
                           rw [if_neg]
                           · exact ih _ _ _
                           · by_cases hk : k < ops.length <;> simp [hk]
    rw [hno]; exact ⟨I, loc, hs2⟩
  have := zEG (by simpa using hi) he hc (Q := zMP E Q) (fun a w h => ⟨σ', hq, h⟩) ops.length (Array.replicate ops.toArray.size false) a { w with drawn := w.drawn + 1 } (by simp) hcl (Nat.le_trans (List.length_filter_le _ _) (by simp)) hst
  simpa using this
end
def zMD (m : List (Option Nat)) : Nat → Option (Option Nat) := fun k => m[k]?
mutual
def XpF (H : Nat → AObj) (m : List (Option Nat)) (ex : List Nat) : AV → AV → Prop
 | .any, _ => True
 | .ptr k off, .ptr o off' => m[k]? = some (some o) ∧ off = off'
 | .eptr k sz i off, .eptr o sz' i' off' => m[k]? = some (some o) ∧ sz = sz' ∧ i = i' ∧ off = off'
 | .own k sz off len, .own o sz' off' len' => m[k]? = some (some o) ∧ sz = sz' ∧ off = off' ∧ len = len'
 | .own k _ off len, .raw v => m[k]? = some none ∧ off = 0 ∧ len = 0 ∧ v = .slice none 0 0
 | .mp k, .mp o => m[k]? = some (some o)
 | .yld k, .yld o => m[k]? = some (some o)
 | .raw v, .raw v' => v = v'
 | .list xs, .list ys => xs = ys
 | .list xs, .own o sz off len => o ∈ ex ∧ (match H o with
  | .row sz' zs => sz' = sz ∧ off + len ≤ zs.length ∧ xs = (zs.drop off).take len
  | .box cs => sz = 1 ∧ off = 0 ∧ len = cs.length ∧ (∀ x, x ∈ xs → b7 x = true) ∧ (xs = cs ∨ XpL H m ex xs cs)
  | _ => False)
 | .fmap ks xs, .fmap ks' xs' => ks = ks' ∧ xs = xs'
 | .fmap ks xs, .mp o => o ∈ ex ∧ (match H o with
  | .mapo ks' xs' => MPerm ks xs ks' xs'
  | _ => False)
 | .fmap ks xs, .raw v => ks = [] ∧ xs = [] ∧ v = .map none
 | .list xs, .raw v => xs = [] ∧ v = .slice none 0 0
 | .elt x, .elt y => x = y
 | .agg cs, .agg ds => XpL H m ex cs ds
 | .tup cs, .tup ds => XpL H m ex cs ds
 | .fn f cs, .fn g ds => f = g ∧ XpL H m ex cs ds
 | _, _ => False
def XpL (H : Nat → AObj) (m : List (Option Nat)) (ex : List Nat) : List AV → List AV → Prop
 | [], [] => True
 | x :: xs, y :: ys => XpF H m ex x y ∧ XpL H m ex xs ys
 | _, _ => False
end
mutual
theorem XpF.sound {H : Nat → AObj} {m : List (Option Nat)} {ex : List Nat} : ∀ {x y : AV}, XpF H m ex x y → Xp H (zMD m) (· ∈ ex) x y
 | .any, y, _ => .any y
 | .ptr k off, .ptr o off', h => by simp only [XpF] at h; obtain ⟨h1, rfl⟩ := h; exact .ptr _ _ _ h1
 | .eptr k sz i off, .eptr o sz' i' off', h => by simp only [XpF] at h; obtain ⟨h1, rfl, rfl, rfl⟩ := h; exact .eptr _ _ _ _ _ h1
 | .own k sz off len, .own o sz' off' len', h => by simp only [XpF] at h; obtain ⟨h1, rfl, rfl, rfl⟩ := h; exact .own _ _ _ _ _ h1
 | .own k sz off len, .raw v, h => by simp only [XpF] at h; obtain ⟨h1, rfl, rfl, rfl⟩ := h; exact .nil _ _ h1
 | .mp k, .mp o, h => by simp only [XpF] at h; exact .mp _ _ h
 | .yld k, .yld o, h => by simp only [XpF] at h; exact .yld _ _ h
 | .raw v, .raw v', h => by simp only [XpF] at h; subst h; exact .same _ (.raw _)
 | .list xs, .list ys, h => by simp only [XpF] at h; subst h; exact .same _ (.list _)
 | .list xs, .own o sz off len, h => by
  simp only [XpF] at h
  obtain ⟨h1, h⟩ := h
  generalize hA : H o = A at h
  cases A with
  | row sz' zs => obtain ⟨rfl, h3, rfl⟩ := h; exact .froz _ _ _ _ _ hA h1 h3
  | box cs =>
   obtain ⟨rfl, rfl, rfl, hf, h⟩ := h
   rcases h with rfl | h
   ·exact .frozb o 0 _ xs xs hA h1 (by omega) rfl rfl (fun x hx => K2 (hf x hx)) (fun i hi hi' => .same _ (K2 (hf _ (List.getElem_mem hi))).1)
   ·obtain ⟨h3, h4⟩ := XpL.sound h
    exact .frozb o 0 _ cs xs hA h1 (by omega) rfl h3 (fun x hx => K2 (hf x hx)) h4
  | _ => exact h.elim
 | .fmap ks xs, .fmap ks' xs', h => by simp only [XpF] at h; obtain ⟨rfl, rfl⟩ := h; exact .same _ (.fmap _ _)
 | .fmap ks xs, .mp o, h => by
  simp only [XpF] at h
  obtain ⟨h1, h⟩ := h
  generalize hA : H o = A at h
  cases A with
  | mapo ks' xs' => exact .frozm o _ _ _ _ hA h1 h
  | _ => exact h.elim
 | .fmap ks xs, .raw v, h => by simp only [XpF] at h; obtain ⟨rfl, rfl, rfl⟩ := h; exact .nmapl
 | .list xs, .raw v, h => by simp only [XpF] at h; obtain ⟨rfl, rfl⟩ := h; exact .nill
 | .elt x, .elt y, h => by simp only [XpF] at h; subst h; exact .same _ (.elt _)
 | .agg cs, .agg ds, h => by simp only [XpF] at h; obtain ⟨h1, h2⟩ := XpL.sound h; exact .agg _ _ h1 h2
 | .tup cs, .tup ds, h => by simp only [XpF] at h; obtain ⟨h1, h2⟩ := XpL.sound h; exact .tup _ _ h1 h2
 | .fn f cs, .fn g ds, h => by simp only [XpF] at h; obtain ⟨rfl, h⟩ := h; obtain ⟨h1, h2⟩ := XpL.sound h; exact .fn _ _ _ h1 h2
theorem XpL.sound {H : Nat → AObj} {m : List (Option Nat)} {ex : List Nat} : ∀ {xs ys : List AV}, XpL H m ex xs ys → xs.length = ys.length ∧ ∀ i (h : i < xs.length) (h' : i < ys.length), Xp H (zMD m) (· ∈ ex) xs[i] ys[i]
 | [], [], _ => ⟨rfl, fun i h => by simp at h⟩
 | x :: xs, y :: ys, h => by
  simp only [XpL] at h
  obtain ⟨h1, h2⟩ := h
  obtain ⟨h3, h4⟩ := XpL.sound h2
  refine ⟨by simp [h3], fun i hi hi' => ?_⟩
  cases i with
  | zero => exact XpF.sound h1
  | succ i => simp only [List.getElem_cons_succ]; exact h4 i _ _
end
theorem XpL.all2 {H : Nat → AObj} {m : List (Option Nat)} {ex : List Nat} : ∀ {xs ys : List AV}, XpL H m ex xs ys → All2 (Xp H (zMD m) (· ∈ ex)) xs ys
 | [], [], _ => .nil
 | x :: xs, y :: ys, h => by
  simp only [XpL] at h
  exact .cons (XpF.sound h.1) (XpL.all2 h.2)
theorem XpF.refl {H : Nat → AObj} {m : List (Option Nat)} {ex : List Nat} : ∀ {x : AV}, Pure x → XpF H m ex x x := by
 intro x h
 induction h with
 | any => simp only [XpF]
 | raw v => simp only [XpF]
 | list xs => simp only [XpF]
 | elt x => simp only [XpF]
 | fmap ks xs => simp [XpF]
 | agg cs _ ih =>
  simp only [XpF]
  have : ∀ l : List AV, (∀ c, c ∈ l → XpF H m ex c c) → XpL H m ex l l := fun l => by
   induction l with
   | nil => exact fun _ => by simp only [XpL]
   | cons c l ihl => exact fun h => by simp only [XpL]; exact ⟨h c (by simp), ihl (fun d hd => h d (by simp [hd]))⟩
  exact this cs ih
def envG (H : Nat → AObj) (m : List (Option Nat)) (ex : List Nat) (env' : List (Nat × AV)) : List (Nat × AV) → Prop
 | [] => True
 | (t, x) :: r => XpF H m ex x (lkV env' t) ∧ envG H m ex env' r
theorem envG.sound {H : Nat → AObj} {m : List (Option Nat)} {ex : List Nat} {env' : List (Nat × AV)} : ∀ {env : List (Nat × AV)}, envG H m ex env' env → ∀ t, Xp H (zMD m) (· ∈ ex) (lkV env t) (lkV env' t)
 | [], _, t => .any _
 | (k, x) :: r, h, t => by
  simp only [lkV]
  split
  ·rename_i e; subst e; exact XpF.sound h.1
  ·exact envG.sound h.2 t
def OXpF (H : Nat → AObj) (m : List (Option Nat)) (ex : List Nat) : AObj → AObj → Prop
 | .dead, _ => True
 | .box cs, .box ds => XpL H m ex cs ds
 | .row s xs, .row s' ys => s = s' ∧ xs = ys
 | .mapo ks xs, .mapo ks' xs' => ks = ks' ∧ xs = xs'
 | .iter c ks xs, .iter c' ks' xs' => c = c' ∧ ks = ks' ∧ xs = xs'
 | .loopo L env p, .loopo L' env' p' => L = L' ∧ p = p' ∧ envG H m ex env' env
 | _, _ => False
theorem OXpF.sound {H : Nat → AObj} {m : List (Option Nat)} {ex : List Nat} {A B : AObj} (h : OXpF H m ex A B) : OXp H (zMD m) (· ∈ ex) A B := by
 cases A <;> cases B <;> first | exact h | exact h.elim | exact XpL.sound h | exact ⟨h.1, h.2.1, h.2.2.sound⟩
def envF (σ : AS) (m : List (Option Nat)) (ex : List Nat) : List (Nat × AV) → Prop
 | [] => True
 | (t, x) :: r => XpF σ.obj m ex x (σ.get t) ∧ envF σ m ex r
def objsF (σ : AS) (m : List (Option Nat)) (ex : List Nat) : List AObj → List (Option Nat) → Prop
 | [], [] => True
 | A :: r, some o :: r' => OXpF σ.obj m ex A (σ.obj o) ∧ objsF σ m ex r r'
 | A :: r, none :: r' => ((∃ s, 0 < s ∧ A = .row s []) ∨ A = .box []) ∧ objsF σ m ex r r'
 | _, _ => False
theorem envF.sound {σ : AS} {m : List (Option Nat)} {ex : List Nat} : ∀ {env : List (Nat × AV)}, envF σ m ex env → ∀ t, Xp σ.obj (zMD m) (· ∈ ex) (lkV env t) (σ.get t)
 | [], _, t => .any _
 | (k, x) :: r, h, t => by
  simp only [lkV]
  split
  ·rename_i e; subst e; exact XpF.sound h.1
  ·exact envF.sound h.2 t
theorem objsF.sound {σ : AS} {m0 : List (Option Nat)} {ex : List Nat} : ∀ {As : List AObj} {m : List (Option Nat)}, objsF σ m0 ex As m → As.length = m.length ∧ ∀ k (h : k < As.length) (h' : k < m.length), match m[k] with
  | none => (∃ s, 0 < s ∧ As[k] = .row s []) ∨ As[k] = .box []
  | some o => OXp σ.obj (zMD m0) (· ∈ ex) As[k] (σ.obj o)
 | [], [], _ => ⟨rfl, fun k h => by simp at h⟩
 | A :: r, some o :: r', h => by
  obtain ⟨h1, h2⟩ := objsF.sound h.2
  refine ⟨by simp [h1], fun k hk hk' => ?_⟩
  cases k with
  | zero => exact OXpF.sound h.1
  | succ k => simp only [List.getElem_cons_succ]; exact h2 k _ _
 | A :: r, none :: r', h => by
  obtain ⟨h1, h2⟩ := objsF.sound h.2
  refine ⟨by simp [h1], fun k hk hk' => ?_⟩
  cases k with
  | zero => exact h.1
  | succ k => simp only [List.getElem_cons_succ]; exact h2 k _ _
def Q8 : List (Option Nat) → Bool
 | [] => true
 | none :: r => Q8 r
 | some o :: r => !r.contains (some o) && Q8 r
theorem zCX : ∀ {m : List (Option Nat)}, Q8 m = true → ∀ (k k' o : Nat), m[k]? = some (some o) → m[k']? = some (some o) → k = k'
 | [], _, k, k', o, h, _ => by simp at h
 | x :: r, hb, k, k', o, h, h' => by
  have hr : Q8 r = true := by cases x <;> simp_all [Q8]
  have hno : x = some o → (some o) ∉ r := fun e => by subst e; simp [Q8] at hb; exact hb.1
  cases k with
  | zero =>
   cases k' with
   | zero => rfl
   | succ k' => simp at h h'; exact absurd (List.mem_of_getElem? h') (hno h)
  | succ k =>
   cases k' with
   | zero => simp at h h'; exact absurd (List.mem_of_getElem? h) (hno h')
   | succ k' => simp at h h'; rw [zCX hr k k' o h h']
def V6 : List AObj → List (Option Nat) → List (Option Nat)
 | A :: r, x :: m => (if A.live = true then x else none) :: V6 r m
 | _, m => m
theorem zAU : ∀ {As : List AObj} {m : List (Option Nat)} {k o : Nat} (h : k < As.length), (As[k]).live = true → m[k]? = some (some o) → (V6 As m)[k]? = some (some o)
 | A :: r, [], k, o, h, hl, e => by simp at e
 | A :: r, x :: m, 0, o, h, hl, e => by
  simp only [List.getElem_cons_zero] at hl
  simp only [V6, hl, if_true]; simpa using e
 | A :: r, x :: m, k + 1, o, h, hl, e => by
  simp only [List.getElem_cons_succ] at hl
  simp only [V6, List.getElem?_cons_succ] at e ⊢
  exact zAU (by simpa using h) hl e
def Weak (n : Nat) (m : List (Option Nat)) (ex : List Nat) (σ : AS) (N : Nat) (env : List (Nat × AV)) (As : List AObj) : Prop :=
 N = σ.n ∧ envF σ m ex env ∧ objsF σ m ex As m ∧ Q8 (V6 As m) = true ∧ ex.all (fun o => !m.contains (some o)) = true ∧ (List.range n).all (fun k => m[k]? == some (some k)) = true
theorem Weak.wk {n : Nat} {m : List (Option Nat)} {ex : List Nat} {σ : AS} {N : Nat} {env : List (Nat × AV)} {As : List AObj} (h : Weak n m ex σ N env As) :
  WK (zMD m) (· ∈ ex) σ ⟨N, env, zLy 0 As⟩ ∧ ∀ k, k < n → zMD m k = some (some k) := by
 obtain ⟨h0, h1, h2, h3, h4, h5⟩ := h
 obtain ⟨g1, g2⟩ := h2.sound
 have hob : ∀ k, (⟨N, env, zLy 0 As⟩ : AS).obj k = As.getD k .unb := fun k => by
  show lkO (zLy 0 As) k = _
  rw [zAW]; simp
 have hlv : ∀ k, ((⟨N, env, zLy 0 As⟩ : AS).obj k).live = true → ∃ h : k < As.length, (As[k]).live = true := fun k hk => by
  rw [hob] at hk
  rcases Nat.lt_or_ge k As.length with h | h
  ·exact ⟨h, by rwa [u5 h] at hk⟩
  ·rw [List.getD, List.getElem?_eq_none h] at hk; simp [AObj.live] at hk
 refine ⟨⟨fun o k ho e => ?_, fun t => h1.sound t, fun k => ?_, fun k k' o hl hl' e e' => ?_⟩, fun k hk => ?_⟩
 case refine_3 =>
  obtain ⟨q1, q2⟩ := hlv k hl
  obtain ⟨q1', q2'⟩ := hlv k' hl'
  exact zCX h3 k k' o (zAU q1 q2 e) (zAU q1' q2' e')
 ·rw [List.all_eq_true] at h4
  have := h4 o ho
  have hm : some o ∈ m := List.mem_of_getElem? e
  simp at this; exact (this hm).elim
 ·rw [hob]
  unfold zMD
  by_cases hk : k < m.length
  ·have hk' : k < As.length := by omega
   have := g2 k hk' hk
   rw [List.getElem?_eq_getElem hk, u5 hk']
   cases hmk : m[k] with
   | none => rw [hmk] at this; exact .inr this
   | some o => rw [hmk] at this; exact this
  ·rw [List.getElem?_eq_none (by omega)]
   left
   rw [List.getD, List.getElem?_eq_none (by omega)]; rfl
 ·rw [List.all_eq_true] at h5
  have := h5 k (by simpa using hk)
  unfold zMD
  simpa using this
theorem G9 {P : Program} {E : Env} {c : Code} {Q : Exit → AS → Prop} {σ : AS} (m : List (Option Nat)) (ex : List Nat) {N : Nat} {env : List (Nat × AV)} {As : List AObj} (hw : Weak E.n m ex σ N env As) (h : Hold P E c Q ⟨N, env, zLy 0 As⟩) : Hold P E c Q σ :=
 fun a w hs => h a w (hs.wk hw.wk.1 hw.1 hw.wk.2)
theorem zFg {P : Program} {E : Env} {c : Code} {Q : Exit → AS → Prop} {σ : AS} (Inv : Nat → Nat → List (Nat × AV) → List AObj → Prop) (n : Nat)
  (h0 : ∃ m ex N env As, Weak E.n m ex σ N env As ∧ Inv n N env As)
  (h : ∀ n N env As, Inv n N env As → Hold P E c (z6 (fun σ' => ∃ n', n' < n ∧ ∃ m ex N env As, Weak E.n m ex σ' N env As ∧ Inv n' N env As) Q) ⟨N, env, zLy 0 As⟩) : Hold P E (.loop c) Q σ := by
 obtain ⟨m, ex, N, env, As, hw, hi⟩ := h0
 refine G9 m ex hw ?_
 intro a w hs
 refine wp_loop_ghost (fun n a w => ∃ N env As, Inv n N env As ∧ St E ⟨N, env, zLy 0 As⟩ a w) n ⟨N, env, As, hi, hs⟩ ?_
 rintro n a w ⟨N, env, As, h1, h2⟩
 refine wp_mono (h n N env As h1 a w h2) ?_
 rintro e a w ⟨σ', h3, h4⟩
 cases e with
 | normal =>
  obtain ⟨n', h5, m', ex', N', env', As', h6, h7⟩ := h3
  exact ⟨n', h5, N', env', As', h7, h4.wk h6.wk.1 h6.1 h6.wk.2⟩
 | _ => exact ⟨σ', h3, h4⟩
def u1 (P : Program) (σ : AS) : ResultVar → AV → Prop
 | .tmp t, x => x = σ.get t
 | .cell a t, x => Q7 P t (σ.get a) σ.obj (fun v _ _ => x = v)
def J6 (P : Program) (σ : AS) : List ResultVar → List AV → Prop
 | [], [] => True
 | v :: vs, x :: xs => u1 P σ v x ∧ J6 P σ vs xs
 | _, _ => False
def Y0 : List AV → AV
 | [x] => x
 | xs => .tup xs
def E6 (tmps : Array Value) : ResultVar → Sem Value
 | .tmp t => pure (tmps.getD t undef)
 | .cell b t => do loadVar t (← asAddr (tmps.getD b undef))
theorem zGp (fn : Func) (tmps : Array Value) : results fn tmps = (do let vs ← fn.results.mapM (E6 tmps); pure (if h : vs.size = 1 then vs[0] else .tuple vs)) := rfl
theorem zCl {P : Program} {E : Env} {I : Nat → Prop} {loc : Nat → Loc} {σ : AS} {a : Act} {w : World} (hs : SR E I loc σ a w) : ∀ {vs : List ResultVar} {xs : List AV}, J6 P σ vs xs →
  ∃ us : List Value, (vs.mapM (E6 a.tmps)).run P w = .ok us w ∧ xs.length = us.length ∧ ∀ i (h : i < xs.length) (h' : i < us.length), VR w I loc xs[i] us[i]
 | [], [], _ => ⟨[], by simp, rfl, fun i h => by simp at h⟩
 | v :: vs, x :: xs, h => by
  obtain ⟨us, h1, h2, h3⟩ := zCl hs h.2
  have hone : ∃ u, (E6 a.tmps v).run P w = .ok u w ∧ VR w I loc x u := by
   have h0 := h.1
   cases v with
   | tmp t => simp only [u1] at h0; subst h0; exact ⟨_, rfl, hs.tmps t⟩
   | cell b t =>
    simp only [u1] at h0
    obtain ⟨v, rd, y, hK, hr, hv⟩ := zCK (P := P) hs (hs.tmps b) h0
    subst hK
    refine ⟨y, ?_, hv⟩
    have hp : ∃ ad, a.tmps.getD b undef = .pointer (some ad) := by
     have hb := hs.tmps b
     generalize a.tmps.getD b undef = u at *
     generalize σ.get b = s at *
     unfold Q7 at h0
     cases s with
     | ptr => cases hb with
      | pure hb => cases hb
      | ptr => exact ⟨_, rfl⟩
     | eptr => cases hb with
      | pure hb => cases hb
      | eptr => exact ⟨_, rfl⟩
     | elt => cases hb with
      | pure hb => cases hb; exact ⟨_, rfl⟩
     | _ => exact h0.elim
    obtain ⟨ad, hp⟩ := hp
    rw [hp] at hr
    simp only [E6, hp]
    simpa [Instr.loadAt, Instr.sureAddr, asAddr] using hr
  obtain ⟨u, g1, g2⟩ := hone
  refine ⟨u :: us, ?_, by simp [h2], fun i hi hi' => ?_⟩
  ·rw [List.mapM_cons, Sem.run_bind, g1, Result.andThen_ok, Sem.run_bind, h1]
   rfl
  ·cases i with
   | zero => exact g2
   | succ i => simp only [List.getElem_cons_succ]; exact h3 i _ _
theorem zGq {P : Program} {E : Env} {I : Nat → Prop} {loc : Nat → Loc} {σ : AS} {a : Act} {w : World} (hs : SR E I loc σ a w) {fn : Func} {xs : List AV} (h : J6 P σ fn.results.toList xs) :
  ∃ v, (results fn a.tmps).run P w = .ok v w ∧ VR w I loc (Y0 xs) v := by
 obtain ⟨us, h1, h2, h3⟩ := zCl (P := P) hs h
 have hrun : (results fn a.tmps).run P w = .ok (if h : us.toArray.size = 1 then us.toArray[0] else .tuple us.toArray) w := by
  rw [zGp, Sem.run_bind]
  have e4 : fn.results = fn.results.toList.toArray := by simp
  rw [e4, List.mapM_toArray]
  simp only [Sem.run_map, h1, Result.andThen_ok, Sem.run_pure]
 refine ⟨_, hrun, ?_⟩
 cases xs with
 | nil =>
  have : us = [] := List.eq_nil_of_length_eq_zero (by simpa using h2.symm)
  subst this
  exact .tup [] #[] rfl (fun i h => by simp at h)
 | cons x xs =>
  cases xs with
  | nil =>
   have hl : us.length = 1 := by simpa using h2.symm
   rw [dif_pos (by simpa using hl)]
   have := h3 0 (by simp) (by omega)
   simpa [Y0] using this
  | cons y ys =>
   have hl : us.length ≠ 1 := by simp at h2; omega
   rw [dif_neg (by simpa using hl)]
   refine .tup _ us.toArray (by simpa using h2) (fun i hi hi' => ?_)
   simpa using h3 i hi (by simpa using hi')
def zMQ : Nat → List AV → List (Nat × AV)
 | _, [] => []
 | k, x :: r => (k, x) :: zMQ (k + 1) r
theorem zCI (k0 : Nat) : ∀ (xs : List AV) (k : Nat), lkV (zMQ k0 xs) k = if k < k0 then .any else xs.getD (k - k0) .any
 | [], k => by simp [zMQ, lkV]
 | A :: r, k => by
  simp only [zMQ, lkV, zCI (k0 + 1) r k]
  by_cases h : k0 = k
  ·subst h; simp
  ·rw [if_neg h]
   by_cases h1 : k < k0
   ·rw [if_pos (by omega), if_pos h1]
   ·rw [if_neg (by omega), if_neg h1]
    have e : k - k0 = (k - (k0 + 1)) + 1 := by omega
    rw [e]; simp
def zA8 (P : Program) (fn : Func) (n : Nat) (r : AV) (out : List AObj) (σ : AS) : Prop :=
 ∃ xs m ex, J6 P σ fn.results.toList xs ∧ XpF σ.obj m ex r (Y0 xs) ∧ objsF σ m ex out m ∧ Q8 (V6 out m) = true ∧ ex.all (fun o => !m.contains (some o)) = true ∧ (List.range n).all (fun k => m[k]? == some (some k)) = true
theorem T8 {w : World} {r b : Nat} {o : Obj} (h : b ≠ r) : (w.putObj r o).heap[b]? = w.heap[b]? := World.putObj_heap_other h
theorem SR.shut {E : Env} {I : Nat → Prop} {loc : Nat → Loc} {σ : AS} {a : Act} {w : World} (h : SR E I loc σ a w) {d : Deferred} {ds : List Deferred} (hd : a.defers = d :: ds) :
  ∃ r, d.target = .collected r ∧ w.heap[r]? = some (.deferred (some [])) ∧ SR E I loc σ { a with defers := ds } (w.putObj r (.deferred none)) := by
 obtain ⟨hn, hm⟩ := h.defers
 rw [hd] at hn hm
 obtain ⟨r, rfl, h1, h2, h3, h4⟩ := hm d (by simp)
 have hI : ∀ b, I b → (w.putObj r (.deferred none)).heap[b]? = w.heap[b]? := fun b hb => T8 (fun e => h2 (e ▸ hb))
 refine ⟨r, rfl, h1, ⟨⟨?_, fun d' hd' => ?_⟩, h.size, fun t => (h.tmps t).mono hI (fun _ x => x) (fun _ _ => rfl), fun o => (h.objs o).mono hI (fun _ x => x) (fun _ _ => rfl) (fun e => h.un e) (fun hl b c hb => T8 (fun e => h4 o c hl (e ▸ hb))), h.inj, fun b hb => by rw [World.putObj_size]; exact h.imm b hb, h.sep, ?_, h.base, h.top, h.keep⟩⟩
 ·simp only [List.map_cons, List.nodup_cons] at hn; exact hn.2
 ·obtain ⟨r', rfl, g1, g2, g3, g4⟩ := hm d' (by simp [hd'])
  refine ⟨r', rfl, ?_, g2, g3, g4⟩
  rw [T8]
  ·exact g1
  ·rintro rfl
   simp only [List.map_cons, List.nodup_cons] at hn
   exact hn.1 (List.mem_map.2 ⟨_, hd', rfl⟩)
 ·exact h.fr.of_same rfl rfl rfl (by simp) (fun b hb _ => T8 (by omega))
theorem zCG {P : Program} {E : Env} {fn : Func} {n : Nat} {R : Ending → World → Prop} {I : Nat → Prop} {loc : Nat → Loc} {σ : AS} (hR : ∀ a w, SR E I loc σ a w → a.defers = [] → ∃ v, (results fn a.tmps).run P w = .ok v w ∧ R (.returned v) w) :
  ∀ (ds : List Deferred) (a : Act) (w : World), SR E I loc σ a w → a.defers = ds → LeavesInM Fence.wide n P fn a.tmps R ds .returning w
 | [], a, w, h, e => hR a w h e
 | d :: ds, a, w, h, e => by
  obtain ⟨r, h1, h2, h3⟩ := h.shut e
  exact ⟨by simp, .inl ⟨r, _, h1, run_takeDeferred h2, zCG hR ds { a with defers := ds } _ h3 rfl⟩⟩
theorem zID {P : Program} {f : FuncId} {fn : Func} {c : Code} {args : List AV} {fp : List AObj} {r : AV} {out : List AObj} (hf : P.funcs[f]? = some fn) (hb : fn.body = some c)
  (h : ∀ E : Env, E.n = fp.length → Hold P E c (fun e σ' => (e = .normal ∨ e = .ret) ∧ zA8 P fn fp.length r out σ') ⟨args.length + (fn.ntmps - args.length), zMQ 0 args, zLy 0 fp⟩) : zLp P f args fp r out := by
 intro w I loc vs hs hl hv
 refine (callsIn_wide (n := 0)).1 (callsIn_of_wp_marks hf hb trivial ((wpIn_wide (n := 0)).2 ?_))
 have hst : SR (Y7 w I fp.length loc) I loc ⟨args.length + (fn.ntmps - args.length), zMQ 0 args, zLy 0 fp⟩ { tmps := vs ++ Array.replicate (fn.ntmps - vs.size) undef, defers := [] } w := by
  refine ⟨.nil, by simp [hl], fun t => ?_, hs.objs, hs.inj, hs.imm, hs.sep, hs.fr, hs.base, hs.top, hs.keep⟩
  show VR w I loc (lkV (zMQ 0 args) t) _
  rw [zCI]
  simp only [Nat.not_lt_zero, if_false, Nat.sub_zero]
  by_cases ht : t < args.length
  ·rw [u5 ht]
   have ht' : t < vs.size := by omega
   have e : (vs ++ Array.replicate (fn.ntmps - vs.size) undef).getD t undef = vs[t] := by
    simp [Array.getElem?_append_left ht', ht']
   rw [e]; exact hv t ht ht'
  ·rw [List.getD, List.getElem?_eq_none (by omega)]; exact .pure (.any _)
 refine wp_mono (h (Y7 w I fp.length loc) rfl _ w ⟨I, loc, hst⟩) ?_
 rintro e a w' ⟨σ', ⟨he, xs, m, ex, h1, h2, h3, h4, h5, h6⟩, I', loc', hs'⟩
 have hweak : Weak fp.length m ex σ' σ'.n [] out := ⟨rfl, trivial, h3, h4, h5, h6⟩
 have hlen : fp.length ≤ out.length := by
  have h7 := (h3.sound).1
  rcases Nat.eq_zero_or_pos fp.length with h0 | h0
  ·omega
  ·rw [List.all_eq_true] at h6
   have := h6 (fp.length - 1) (by simp; omega)
   have hm : m[fp.length - 1]? = some (some (fp.length - 1)) := by simpa using this
   have := (List.getElem?_eq_some_iff.1 hm).1
   omega
 have key := zCG (P := P) (E := Y7 w I fp.length loc) (fn := fn) (n := 0) (R := fun e w' => ∃ v I' loc', e = .returned v ∧ Post w I loc fp.length r out v w' I' loc') (I := I') (loc := loc') (σ := σ') (fun a w' hs' _ => by
  obtain ⟨v, hrun, hvr⟩ := zGq hs' h1
  have hsr := WK.sound hs' hweak.wk.1 rfl hweak.wk.2
  have hval := Xp.sound hs' (XpF.sound h2) hvr
  exact ⟨v, hrun, v, _, _, rfl, ⟨hsr.bare, hval, hlen⟩⟩) a.defers a w' hs' rfl
 rcases he with rfl | rfl
 ·exact key
 ·exact key
end Go.Abs

namespace Go.Abs
open Go
def N3 (A : AObj) (F : Nat → List AV → Prop) : Prop := match A with
 | .row s xs => F s xs
 | _ => False
def S4 (A : AObj) (F : List AV → Prop) : Prop := match A with
 | .box cs => F cs
 | _ => False
def zMT (A : AObj) (sz sz' off len : Nat) (F : List AV → Prop) : Prop := match A with
 | .row sz'' xs => sz' = sz ∧ sz'' = sz ∧ off + len ≤ xs.length ∧ F ((xs.drop off).take len)
 | .box cs => sz' = 1 ∧ sz = 1 ∧ off + len ≤ cs.length ∧ (∀ y, y ∈ (cs.drop off).take len → y.one = true) ∧ F ((cs.drop off).take len)
 | _ => False
def X6 (H : Nat → AObj) (sz : Nat) (x : AV) (F : List AV → List Nat → Prop) : Prop := match x with
 | .list ys => F ys []
 | .own o sz' off len => zMT (H o) sz sz' off len fun ys => F ys [o]
 | .raw (.slice _ 0 _) => F [] []
 | _ => False
def zMY (sz by_ : Nat) (s : AV) (ys : List AV) (rd : List Nat) (H : Nat → AObj) (nx : Nat) (K : Cont) : Prop := match s with
  | .own o sz' 0 len => N3 (H o) fun sz'' xs => sz' = sz ∧ sz'' = sz ∧ len = xs.length ∧ H nx = .unb ∧ (len + ys.length) * by_ ≤ 140737488355328 ∧ len + ys.length ≤ 9223372036854775807 ∧
      K (.own nx sz 0 (len + ys.length)) (o :: nx :: rd) [(o, .dead), (nx, .row sz (xs ++ ys))]
  | .raw (.slice none 0 0) => H nx = .unb ∧ ys.length * by_ ≤ 140737488355328 ∧ ys.length ≤ 9223372036854775807 ∧ K (.own nx sz 0 ys.length) (nx :: rd) [(nx, .row sz ys)]
  | _ => False
def zMX (by_ : Nat) (s : AV) (ys : List AV) (rd : List Nat) (H : Nat → AObj) (nx : Nat) (K : Cont) : Prop := match s with
  | .own o sz' 0 len => S4 (H o) fun cs => sz' = 1 ∧ len = cs.length ∧ H nx = .unb ∧ (len + ys.length) * by_ ≤ 140737488355328 ∧ len + ys.length ≤ 9223372036854775807 ∧
      K (.own nx 1 0 (len + ys.length)) (o :: nx :: rd) [(o, .dead), (nx, .box (cs ++ ys))]
  | .raw (.slice none 0 0) => H nx = .unb ∧ ys.length * by_ ≤ 140737488355328 ∧ ys.length ≤ 9223372036854775807 ∧ K (.own nx 1 0 ys.length) (nx :: rd) [(nx, .box ys)]
  | _ => False
def appR (sz by_ : Nat) (s x : AV) (H : Nat → AObj) (nx : Nat) (K : Cont) : Prop :=
 X6 H sz x fun ys rd => (∀ y, y ∈ ys → y.cells.length = sz ∧ y.cells.all AV.one = true) ∧ (∀ y, y ∈ ys → Pure y) ∧ zMY sz by_ s ys rd H nx K
def appC (by_ : Nat) (s x : AV) (H : Nat → AObj) (nx : Nat) (K : Cont) : Prop :=
 X6 H 1 x fun ys rd => (∀ y, y ∈ ys → y.one = true) ∧ zMX by_ s ys rd H nx K
theorem zCW {H : Nat → AObj} {sz : Nat} {x : AV} {F : List AV → List Nat → Prop} : X6 H sz x F ↔ ∃ ys rd, i6 H sz x = some (ys, rd) ∧ F ys rd := by
 unfold X6 i6
 constructor
 ·intro h
  split at h
  ·exact ⟨_, _, rfl, h⟩
  ·rename_i o sz' off len
   unfold zMT at h
   split at h
   ·rename_i s xs hA
    obtain ⟨rfl, rfl, h3, h4⟩ := h
    exact ⟨_, _, by simp only [hA]; rw [if_pos (by simp [h3])], h4⟩
   ·rename_i cs hA
    obtain ⟨rfl, rfl, h3, h4, h5⟩ := h
    exact ⟨_, _, by simp only [hA]; rw [if_pos (by simpa using ⟨h3, h4⟩)], h5⟩
   ·exact h.elim
  ·exact ⟨_, _, rfl, h⟩
  ·exact h.elim
 ·rintro ⟨ys, rd, h, hF⟩
  split at h
  ·cases h; exact hF
  ·rename_i o sz' off len
   simp only [zMT]
   generalize H o = A at h
   cases A with
   | row s xs =>
    simp only at h
    by_cases hc : sz' = sz ∧ s = sz ∧ off + len ≤ xs.length
    ·rw [if_pos hc] at h; cases h; exact ⟨hc.1, hc.2.1, hc.2.2, hF⟩
    ·rw [if_neg hc] at h; cases h
   | box cs =>
    simp only at h
    by_cases hc : sz' = 1 ∧ sz = 1 ∧ off + len ≤ cs.length ∧ ((cs.drop off).take len).all AV.one = true
    ·rw [if_pos hc] at h; cases h; exact ⟨hc.1, hc.2.1, hc.2.2.1, List.all_eq_true.1 hc.2.2.2, hF⟩
    ·rw [if_neg hc] at h; cases h
   | _ => cases h
  ·cases h; exact hF
  ·cases h
theorem appendA_row {P : Program} {t e sz by_ : Nat} {z : Value} (h1 : sliceT P t = some e) (h2 : sizeT P e = some sz) (h3 : bytesT P e = some by_) (h4 : zeroT P e = some z) (h5 : zMC z = false) (h6 : 0 < sz) (h7 : z.cells.size = sz)
    (s x : AV) (H : Nat → AObj) (nx : Nat) (K : Cont) : appendA P t s x H nx K = appR sz by_ s x H nx K := by
  have hz : ¬ zMC z = true := by rw [h5]; simp
  have hS : ∀ ys rd, zMY sz by_ s ys rd H nx K ↔ (match s with
      | .own o sz' 0 len => (match H o with
        | .row sz'' xs => sz' = sz ∧ sz'' = sz ∧ len = xs.length ∧ H nx = .unb ∧ (len + ys.length) * by_ ≤ 140737488355328 ∧ len + ys.length ≤ 9223372036854775807 ∧
            K (.own nx sz 0 (len + ys.length)) (o :: nx :: rd) [(o, .dead), (nx, .row sz (xs ++ ys))]
        | _ => False)
      | .raw (.slice none 0 0) => H nx = .unb ∧ ys.length * by_ ≤ 140737488355328 ∧ ys.length ≤ 9223372036854775807 ∧ K (.own nx sz 0 ys.length) (nx :: rd) [(nx, .row sz ys)]
      | _ => False) := fun ys rd => by
    unfold zMY
    split
    · rename_i o sz' len
      unfold N3
      generalize H o = A
      cases A <;> exact Iff.rfl
    · exact Iff.rfl
    · exact Iff.rfl
  unfold appendA appR
  rw [eq_iff_iff, zCW]
  simp only [h1, h2, h3, h4, Option.getD_some]
  cases i6 H sz x with
  | none => exact ⟨fun h => h.elim, fun ⟨_, _, h, _⟩ => by cases h⟩
  | some yr =>
    obtain ⟨ys, rd⟩ := yr
    simp only
    rw [if_neg hz]
    constructor
    · rintro ⟨_, _, g1, g2, g3⟩
      exact ⟨ys, rd, rfl, g1, g2, (hS ys rd).2 g3⟩
    · rintro ⟨ys', rd', e, g1, g2, g3⟩
      cases e
      exact ⟨h6, h7, g1, g2, (hS ys rd).1 g3⟩
theorem appendA_box {P : Program} {t e by_ : Nat} {z : Value} (h1 : sliceT P t = some e) (h2 : sizeT P e = some 1) (h3 : bytesT P e = some by_) (h4 : zeroT P e = some z) (h5 : zMC z = true) (h7 : z.cells.size = 1)
  (s x : AV) (H : Nat → AObj) (nx : Nat) (K : Cont) : appendA P t s x H nx K = appC by_ s x H nx K := by
 have one_iff : ∀ y : AV, y.one = true → y.cells.length = 1 ∧ y.cells.all AV.one = true := fun y hy => by
  have := AV.cells_of_one hy
  rw [this]; simp [hy]
 unfold appendA appC
 rw [eq_iff_iff, zCW]
 simp only [h1, h2, h3, h4, Option.getD_some]
 cases i6 H 1 x with
 | none => exact ⟨fun h => h.elim, fun ⟨_, _, h, _⟩ => by cases h⟩
 | some yr =>
  obtain ⟨ys, rd⟩ := yr
  simp only
  rw [if_pos h5]
  constructor
  ·rintro ⟨_, _, _, g3⟩
   refine ⟨ys, rd, rfl, ?_⟩
   unfold zMX
   split at g3
   ·rename_i o sz' len
    revert g3
    simp only [S4]
    generalize H o = A
    intro g3
    cases A with
    | box cs => obtain ⟨q1, q2, q3, g2, q4⟩ := g3; exact ⟨g2, q1, q3, q4⟩
    | _ => exact g3.elim
   ·exact ⟨g3.2.1, g3.2.2⟩
   ·exact g3.elim
  ·rintro ⟨ys', rd', e, g2, g3⟩
   cases e
   refine ⟨by omega, h7, fun y hy => one_iff y (g2 y hy), ?_⟩
   unfold zMX at g3
   split at g3
   ·rename_i o sz' len
    revert g3
    simp only [S4]
    generalize H o = A
    intro g3
    cases A with
    | box cs => obtain ⟨q1, q3, q4⟩ := g3; exact ⟨q1, trivial, q3, g2, q4⟩
    | _ => exact g3.elim
   ·exact ⟨trivial, g2, g3⟩
   ·exact g3.elim
section
variable {H : Nat → AObj} {sz by_ nx : Nat} {K : Cont}
@[go_sem] theorem zK0 (s : Nat) (xs : List AV) (F : Nat → List AV → Prop) : N3 (.row s xs) F = F s xs := rfl
@[go_sem] theorem zKq (cs : List AV) (F : List AV → Prop) : S4 (.box cs) F = F cs := rfl
@[go_sem] theorem zKv (ys : List AV) (F : List AV → List Nat → Prop) : X6 H sz (.list ys) F = F ys [] := rfl
@[go_sem] theorem zKw (a : Option Addr) (c : Nat) (F : List AV → List Nat → Prop) : X6 H sz (.raw (.slice a 0 c)) F = F [] [] := rfl
@[go_sem] theorem zKu (sz sz' off len sz'' : Nat) (xs : List AV) (F : List AV → Prop) : zMT (.row sz'' xs) sz sz' off len F = (sz' = sz ∧ sz'' = sz ∧ off + len ≤ xs.length ∧ F ((xs.drop off).take len)) := rfl
@[go_sem] theorem zKs (sz sz' off len : Nat) (cs : List AV) (F : List AV → Prop) : zMT (.box cs) sz sz' off len F = (sz' = 1 ∧ sz = 1 ∧ off + len ≤ cs.length ∧ (∀ y, y ∈ (cs.drop off).take len → y.one = true) ∧ F ((cs.drop off).take len)) := rfl
@[go_sem] theorem zKy (o sz' off len : Nat) (F : List AV → List Nat → Prop) : X6 H sz (.own o sz' off len) F = zMT (H o) sz sz' off len (fun ys => F ys [o]) := rfl
@[go_sem] theorem zJE (o sz' len : Nat) (ys : List AV) (rd : List Nat) : zMY sz by_ (.own o sz' 0 len) ys rd H nx K = N3 (H o) (fun sz'' xs => sz' = sz ∧ sz'' = sz ∧ len = xs.length ∧ H nx = .unb ∧ (len + ys.length) * by_ ≤ 140737488355328 ∧ len + ys.length ≤ 9223372036854775807 ∧
      K (.own nx sz 0 (len + ys.length)) (o :: nx :: rd) [(o, .dead), (nx, .row sz (xs ++ ys))]) := rfl
@[go_sem] theorem zJC (ys : List AV) (rd : List Nat) : zMY sz by_ (.raw (.slice none 0 0)) ys rd H nx K = (H nx = .unb ∧ ys.length * by_ ≤ 140737488355328 ∧ ys.length ≤ 9223372036854775807 ∧ K (.own nx sz 0 ys.length) (nx :: rd) [(nx, .row sz ys)]) := rfl
@[go_sem] theorem zJB (o sz' len : Nat) (ys : List AV) (rd : List Nat) : zMX by_ (.own o sz' 0 len) ys rd H nx K = S4 (H o) (fun cs => sz' = 1 ∧ len = cs.length ∧ H nx = .unb ∧ (len + ys.length) * by_ ≤ 140737488355328 ∧ len + ys.length ≤ 9223372036854775807 ∧
      K (.own nx 1 0 (len + ys.length)) (o :: nx :: rd) [(o, .dead), (nx, .box (cs ++ ys))]) := rfl
@[go_sem] theorem zI9 (ys : List AV) (rd : List Nat) : zMX by_ (.raw (.slice none 0 0)) ys rd H nx K = (H nx = .unb ∧ ys.length * by_ ≤ 140737488355328 ∧ ys.length ≤ 9223372036854775807 ∧ K (.own nx 1 0 ys.length) (nx :: rd) [(nx, .box ys)]) := rfl
@[congr] theorem zKz {A A' : AObj} {F : Nat → List AV → Prop} (h : A = A') : N3 A F = N3 A' F := by rw [h]
@[congr] theorem zKr {A A' : AObj} {F : List AV → Prop} (h : A = A') : S4 A F = S4 A' F := by rw [h]
@[congr] theorem zKt {A A' : AObj} {sz sz' off len : Nat} {F : List AV → Prop} (h : A = A') : zMT A sz sz' off len F = zMT A' sz sz' off len F := by rw [h]
@[congr] theorem zKx {x x' : AV} {F : List AV → List Nat → Prop} (h : x = x') : X6 H sz x F = X6 H sz x' F := by rw [h]
@[congr] theorem zJD {s s' : AV} {ys ys' : List AV} {rd : List Nat} (h : s = s') (h2 : ys = ys') : zMY sz by_ s ys rd H nx K = zMY sz by_ s' ys' rd H nx K := by rw [h, h2]
@[congr] theorem zJA {s s' : AV} {ys ys' : List AV} {rd : List Nat} (h : s = s') (h2 : ys = ys') : zMX by_ s ys rd H nx K = zMX by_ s' ys' rd H nx K := by rw [h, h2]
end
attribute [go_sem] appR appC
def zMj (H : Nat → AObj) (n o sz off len : Nat) (A : AObj) : AV × List Nat := match A with
 | .row sz' xs => if sz' = sz ∧ off + len ≤ xs.length then (.list ((xs.drop off).take len), [o]) else (.own o sz off len, [])
 | .box cs => if sz = 1 ∧ off = 0 ∧ len = cs.length ∧ cs.all (fun c => b7 (zLq H n c).1) = true then (.list (cs.map fun c => (zLq H n c).1), o :: (cs.map fun c => (zLq H n c).2).flatten) else (.own o sz off len, [])
 | _ => (.own o sz off len, [])
def zMm (o : Nat) (A : AObj) : AV × List Nat := match A with
 | .mapo ks xs => (.fmap ks xs, [o])
 | _ => (.mp o, [])
section
variable {H : Nat → AObj} {n : Nat}
@[go_sem] theorem zJu (xs : List AV) : zLq H (n + 1) (.list xs) = (.list xs, []) := rfl
@[go_sem] theorem zJm : zLq H (n + 1) .any = (.any, []) := rfl
@[go_sem] theorem zJq (ks : List Value) (xs : List AV) : zLq H (n + 1) (.fmap ks xs) = (.fmap ks xs, []) := rfl
@[go_sem] theorem zJo (x : AV) : zLq H (n + 1) (.elt x) = (.elt x, []) := rfl
@[go_sem] theorem zJ1 (o off : Nat) : zLq H (n + 1) (.ptr o off) = (.ptr o off, []) := rfl
@[go_sem] theorem zJp (o sz i off : Nat) : zLq H (n + 1) (.eptr o sz i off) = (.eptr o sz i off, []) := rfl
@[go_sem] theorem zJr (f : FuncId) (cs : List AV) : zLq H (n + 1) (.fn f cs) = (.fn f cs, []) := rfl
@[go_sem] theorem zJt (k : IntKind) (i : Int) : zLq H (n + 1) (.raw (.int k i)) = (.raw (.int k i), []) := rfl
@[go_sem] theorem zJn (b : Bool) : zLq H (n + 1) (.raw (.bool b)) = (.raw (.bool b), []) := rfl
@[go_sem] theorem zJ2 (s : ByteArray) : zLq H (n + 1) (.raw (.string s)) = (.raw (.string s), []) := rfl
@[go_sem] theorem zJw : zLq H (n + 1) (.raw (.slice none 0 0)) = (.list [], []) := rfl
@[go_sem] theorem zJx (a : Option Nat) : zLq H (n + 1) (.raw (.map a)) = (.raw (.map a), []) := rfl
@[go_sem] theorem zJy (a : Option Addr) : zLq H (n + 1) (.raw (.pointer a)) = (.raw (.pointer a), []) := rfl
@[go_sem] theorem zJl (cs : List AV) : zLq H (n + 1) (.agg cs) = (.agg (cs.map fun c => (zLq H n c).1), (cs.map fun c => (zLq H n c).2).flatten) := rfl
@[go_sem] theorem zJ0 (o sz off len : Nat) : zLq H (n + 1) (.own o sz off len) = zMj H n o sz off len (H o) := rfl
@[go_sem] theorem zJv (o : Nat) : zLq H (n + 1) (.mp o) = zMm o (H o) := rfl
@[go_sem] theorem zJk (o sz off len sz' : Nat) (xs : List AV) : zMj H n o sz off len (.row sz' xs) = if sz' = sz ∧ off + len ≤ xs.length then (.list ((xs.drop off).take len), [o]) else (.own o sz off len, []) := rfl
@[go_sem] theorem zJi (o sz off len : Nat) (cs : List AV) : zMj H n o sz off len (.box cs) = if sz = 1 ∧ off = 0 ∧ len = cs.length ∧ cs.all (fun c => b7 (zLq H n c).1) = true then (.list (cs.map fun c => (zLq H n c).1), o :: (cs.map fun c => (zLq H n c).2).flatten) else (.own o sz off len, []) := rfl
@[go_sem] theorem zJg (o : Nat) (ks : List Value) (xs : List AV) : zMm o (.mapo ks xs) = (.fmap ks xs, [o]) := rfl
@[congr] theorem zJj {o sz off len : Nat} {A A' : AObj} (h : A = A') : zMj H n o sz off len A = zMj H n o sz off len A' := by rw [h]
@[congr] theorem zJh {o : Nat} {A A' : AObj} (h : A = A') : zMm o A = zMm o A' := by rw [h]
@[congr] theorem zJz {x x' : AV} (h : x = x') : zLq H n x = zLq H n x' := by rw [h]
end
def bsR (sz n : Nat) (ps : List (Nat × AV)) (H : Nat → AObj) (nx : Nat) (K : Cont) : Prop :=
 n * sz ≤ 16777216 ∧ ps.map (·.1) = List.range n ∧ H nx = .unb ∧ (∀ p, p ∈ ps → Pure (zLq H 3 p.2).1 ∧ (zLq H 3 p.2).1.sized = true ∧ (zLq H 3 p.2).1.cells.length = sz) ∧
  K (.own nx sz 0 n) ((ps.map fun p => (zLq H 3 p.2).2).flatten ++ [nx]) (v6 (ps.map fun p => (zLq H 3 p.2).2).flatten ++ [(nx, .row sz (ps.map fun p => (zLq H 3 p.2).1))])
def bsC (n : Nat) (ps : List (Nat × AV)) (H : Nat → AObj) (nx : Nat) (K : Cont) : Prop :=
 n ≤ 16777216 ∧ ps.map (·.1) = List.range n ∧ H nx = .unb ∧ (∀ p, p ∈ ps → p.2.one = true) ∧ K (.own nx 1 0 n) [nx] [(nx, .box (ps.map (·.2)))]
theorem buildSliceA_row {P : Program} {t e sz : Nat} {z : Value} (h1 : sliceT P t = some e) (h2 : sizeT P e = some sz) (h4 : zeroT P e = some z) (h5 : zMC z = false) (h6 : 0 < sz) (h7 : z.cells.size = sz)
  (n : Nat) (ps : List (Nat × AV)) (H : Nat → AObj) (nx : Nat) (K : Cont) : buildSliceA P t n ps H nx K = bsR sz n ps H nx K := by
 have hz : ¬ zMC z = true := by rw [h5]; simp
 unfold buildSliceA bsR
 simp only [h1, h2, h4, eq_iff_iff]
 rw [if_neg hz]
 exact ⟨fun ⟨_, g1, _, g2, g3, g4⟩ => ⟨g1, g2, g3, g4⟩, fun ⟨g1, g2, g3, g4⟩ => ⟨h6, g1, h7, g2, g3, g4⟩⟩
theorem buildSliceA_box {P : Program} {t e : Nat} {z : Value} (h1 : sliceT P t = some e) (h2 : sizeT P e = some 1) (h4 : zeroT P e = some z) (h5 : zMC z = true) (h7 : z.cells.size = 1)
  (n : Nat) (ps : List (Nat × AV)) (H : Nat → AObj) (nx : Nat) (K : Cont) : buildSliceA P t n ps H nx K = bsC n ps H nx K := by
 unfold buildSliceA bsC
 simp only [h1, h2, h4, eq_iff_iff]
 rw [if_pos h5]
 constructor
 ·rintro ⟨_, g1, _, g2, g3, _, g4⟩; exact ⟨by omega, g2, g3, g4⟩
 ·rintro ⟨g1, g2, g3, g4⟩; exact ⟨by omega, by omega, h7, g2, g3, trivial, g4⟩
attribute [go_sem] bsR bsC
end Go.Abs

namespace Go.Abs
open Go
attribute [go_sem] ltN zL4 N6 P1 zMl Q7 U5 zMg zMZ zMp zMh H2 baC V0 j7 S6 zMR unA P5 W8 S5 P9 V3 O2 loA hiA M1 P8 K8 i6 L4 W9 zD1
 O8 O7 N9 P6 b7 zMC v6 zMa zAV zAX P3 L5 p6 AS.ev AS.get AS.obj AS.put AS.setO AS.putD AS.nx nxF lkV lkO splice AV.cells AV.one AV.flat AV.sized zLy zMQ z6 z7
 J6 u1 Y0 envF objsF OXpF Q8 V6 AObj.live envG AObj.ren v7 r6 i4 Value.oneCell' Value.cells
attribute [go_sem] ite_true ite_false if_true if_false true_and and_true and_self forall_const true_implies false_implies List.map_cons List.map_nil List.append_nil List.nil_append List.cons_append List.length_cons List.length_nil
 List.all_cons List.all_nil Bool.and_true Bool.true_and Bool.and_self List.size_toArray Option.map_some Option.map_none Option.bind_some Option.bind_none Option.isSome_some List.getElem?_cons_zero List.getElem?_cons_succ List.getElem?_nil
 List.take_succ_cons List.take_zero List.drop_succ_cons List.drop_zero List.drop_nil List.take_nil List.getD_cons_zero List.getD_cons_succ Option.getD_some Option.getD_none List.all_toArray List.getElem?_toArray
 List.mem_cons List.not_mem_nil or_false forall_eq_or_imp forall_eq List.forall_mem_cons List.map_toArray ne_eq List.range_zero
attribute [go_sem] Nat.min_self Nat.max_self Nat.reduceLT Nat.reduceEqDiff Nat.reduceAdd Nat.reduceSub Nat.reduceMul Nat.reduceLeDiff Nat.reduceBEq Nat.reduceBNe Int.reduceLT Int.reduceLE Int.reduceEq Int.reduceBEq Int.reduceBNe Int.reduceAdd Int.reduceSub Int.reduceToNat
attribute [go_sem] List.flatten_nil List.flatten_cons List.contains_cons List.contains_nil Option.some_beq_some Option.some_beq_none Option.none_beq_some Bool.or_false Bool.or_true Bool.false_or Bool.true_or Bool.not_true Bool.not_false decide_eq_true_eq beq_self_eq_true
 beq_iff_eq bne_iff_ne beq_eq_false_iff_ne decide_eq_false_iff_not Nat.not_lt Nat.not_le Int.not_lt Int.not_le or_true true_or false_or Bool.false_eq_true and_false false_and not_false_eq_true not_true_eq_false decide_true decide_false Bool.false_and Bool.and_false Option.some.injEq reduceCtorEq eq_self
@[go_sem] theorem zJa {α β : Type} (l : List α) : (l.map fun _ => ([] : List β)).flatten = [] := by induction l <;> simp_all
@[go_sem] theorem zI8 {α : Type} (l : List α) : (l.all fun _ => true) = true := by induction l <;> simp_all
@[go_sem] theorem zI7 {α : Type} (l : List α) (f : α → Bool) (n : Nat) (h : n = l.length) : l.toArray.all f 0 n = l.all f := by subst h; simp
@[go_sem] theorem zLi {α : Type} (l : List α) (i : Nat) (d : α) : l.toArray.getD i d = l.getD i d := by simp
def T2 (P : Program) (all : List Oper) (K : AS → List Touch → Prop) (o : Oper) (rest : List Oper) (σ : AS) (ts : List Touch) : Cont :=
 fun v rd wr => y6 P all K rest ((σ.writes wr).putD o.dst v) (ts ++ [⟨rd, wr.map (·.1)⟩])
def W7 (K' K0 : Cont) : Prop := K' = K0
def T4 (σ : AS) : Option Tmp → Prop
 | some d => d < σ.n
 | none => True
section
variable {P : Program} {all : List Oper} {K : AS → List Touch → Prop} {o : Oper} {rest : List Oper} {σ : AS} {ts : List Touch}
theorem zAm (h : K σ ts) : y6 P all K [] σ ts := h
theorem dstOK_iff {d : Option Tmp} : T4 σ d ↔ (match d with | some d => ltN d σ.n | none => True) := by cases d <;> rfl
theorem zGw (hg : o.guard = none) (hd : T4 σ o.dst) (h : ∀ K', W7 K' (T2 P all K o rest σ ts) → zL4 P o σ.ev σ.obj σ.nx K') : y6 P all K (o :: rest) σ ts := by
 unfold y6 l8
 rw [hg]
 exact ⟨dstOK_iff.1 hd, h _ rfl⟩
theorem z8 {K' : Cont} {v : AV} {rd : List Nat} {wr : List (Nat × AObj)} (hK : W7 K' (T2 P all K o rest σ ts)) (h : y6 P all K rest ((σ.writes wr).putD o.dst v) (ts ++ [⟨rd, wr.map (·.1)⟩])) : K' v rd wr := by unfold W7 at hK; rw [hK]; exact h
theorem zAk {j d : Nat} {want b : Bool} (hg : o.guard = some (j, want)) (hj : (all[j]?).bind (·.dst) = some d) (hv : σ.get d = .raw (.bool b)) (hd : T4 σ o.dst)
  (h1 : b = want → ∀ K', W7 K' (T2 P all K o rest σ ts) → zL4 P o σ.ev σ.obj σ.nx K') (h2 : b = !want → y6 P all K rest (σ.putD o.dst (.tup [])) (ts ++ [⟨[], []⟩])) : y6 P all K (o :: rest) σ ts := by
 unfold y6 l8
 rw [hg]
 simp only [hj, hv, gIf]
 exact ⟨fun e => ⟨dstOK_iff.1 hd, h1 e _ rfl⟩, fun e => ⟨dstOK_iff.1 hd, h2 e⟩⟩
theorem zCr {j d : Nat} {want : Bool} (hg : o.guard = some (j, want)) (hj : (all[j]?).bind (·.dst) = some d) (hv : σ.get d = .raw (.bool want)) (hd : T4 σ o.dst)
  (h1 : ∀ K', W7 K' (T2 P all K o rest σ ts) → zL4 P o σ.ev σ.obj σ.nx K') : y6 P all K (o :: rest) σ ts := zAk hg hj hv hd (fun _ => h1) (fun e => by cases want <;> cases e)
theorem zCq {j d : Nat} {want : Bool} (hg : o.guard = some (j, want)) (hj : (all[j]?).bind (·.dst) = some d) (hv : σ.get d = .raw (.bool !want)) (hd : T4 σ o.dst)
  (h2 : y6 P all K rest (σ.putD o.dst (.tup [])) (ts ++ [⟨[], []⟩])) : y6 P all K (o :: rest) σ ts := zAk hg hj hv hd (fun e => by cases want <;> cases e) (fun _ => h2)
theorem zGx {j d : Nat} {want : Bool} (hg : o.guard = some (j, want)) (hj : (all[j]?).bind (·.dst) = some d) (hv : σ.get d = .tup []) (hd : T4 σ o.dst)
  (h2 : y6 P all K rest (σ.putD o.dst (.tup [])) (ts ++ [⟨[], []⟩])) : y6 P all K (o :: rest) σ ts := by
 unfold y6 l8
 rw [hg]
 simp only [hj, hv]
 exact ⟨dstOK_iff.1 hd, h2⟩
end
@[congr] theorem zKo {σ : AS} {o o' : Nat} (h : o = o') : σ.obj o = σ.obj o' := by rw [h]
@[congr] theorem zJ9 {σ : AS} {o o' : Nat} (h : o = o') : σ.get o = σ.get o' := by rw [h]
@[congr] theorem zKM {l : List (Nat × AV)} {o o' : Nat} (h : o = o') : lkV l o = lkV l o' := by rw [h]
@[congr] theorem zKL {l : List (Nat × AObj)} {o o' : Nat} (h : o = o') : lkO l o = lkO l o' := by rw [h]
@[congr] theorem zLQ {P : Program} {all : List Oper} {K : AS → List Touch → Prop} {l : List Oper} {σ σ' : AS} {ts ts' : List Touch} (h1 : σ = σ') (h2 : ts = ts') : y6 P all K l σ ts = y6 P all K l σ' ts' := by rw [h1, h2]
@[congr] theorem zKE {all : List Oper} {σ σ' : AS} {o : Oper} {Y N : Prop} (h : σ = σ') : l8 all σ o Y N = l8 all σ' o Y N := by rw [h]
@[congr] theorem zJY {P : Program} {o : Oper} {ev : Operand → AV} {H : Nat → AObj} {nx nx' : Nat} {K : Cont} (h : nx = nx') : zL4 P o ev H nx K = zL4 P o ev H nx' K := by rw [h]
@[congr] theorem zKN {P : Program} {t : TypeId} {x x' : AV} {H : Nat → AObj} {K : Cont} (h : x = x') : Q7 P t x H K = Q7 P t x' H K := by rw [h]
@[congr] theorem zLd {P : Program} {t : TypeId} {x x' y y' : AV} {H : Nat → AObj} {K : Cont} (h : x = x') (h2 : y = y') : U5 P t x y H K = U5 P t x' y' H K := by rw [h, h2]
@[congr] theorem zJO {P : Program} {op : BinOp} {t : TypeId} {x x' y y' : AV} {K : Cont} (h : x = x') (h2 : y = y') : zMR P op t x y K = zMR P op t x' y' K := by rw [h, h2]
@[congr] theorem zJZ {P : Program} {t : TypeId} {x x' : AV} {f : Nat} {K : Cont} (h : x = x') : W8 P t x f K = W8 P t x' f K := by rw [h]
@[congr] theorem zKI {P : Program} {t : TypeId} {x x' y y' : AV} {K : Cont} (h : x = x') (h2 : y = y') : V3 P t x y K = V3 P t x' y' K := by rw [h, h2]
@[congr] theorem zKP {P : Program} {t : TypeId} {m m' k k' x x' : AV} {H : Nat → AObj} {K : Cont} (h : m = m') (h2 : k = k') (h3 : x = x') : j6 P t m k x H K = j6 P t m' k' x' H K := by rw [h, h2, h3]
@[congr] theorem zKO {P : Program} {t : TypeId} {m m' k k' : AV} {ok : Bool} {H : Nat → AObj} {K : Cont} (h : m = m') (h2 : k = k') : X2 P t m k ok H K = X2 P t m' k' ok H K := by rw [h, h2]
@[congr] theorem zJP {P : Program} {f : FuncId} {avs avs' : List AV} {H : Nat → AObj} {nx nx' : Nat} {K : Cont} (h : avs = avs') (h2 : nx = nx') : x8 P f avs H nx K = x8 P f avs' H nx' K := by rw [h, h2]
@[congr] theorem zJ4 {b b' want : Bool} (h : b = b') (Y N : Prop) : gIf b want Y N = gIf b' want Y N := by rw [h]
@[go_sem] theorem zJ8 (Y N : Prop) : gIf true true Y N = Y := by simp [gIf]
@[go_sem] theorem zJ7 (Y N : Prop) : gIf true false Y N = N := by simp [gIf]
@[go_sem] theorem zJ6 (Y N : Prop) : gIf false true Y N = N := by simp [gIf]
@[go_sem] theorem zJ5 (Y N : Prop) : gIf false false Y N = Y := by simp [gIf]
@[go_sem] theorem zLl (σ : AS) : σ.writes [] = σ := rfl
@[go_sem] theorem zLk (σ : AS) (o : Nat) (A : AObj) (r : List (Nat × AObj)) : σ.writes ((o, A) :: r) = (σ.setO o A).writes r := rfl
@[go_sem] theorem zLA (n : Nat) : List.range (n + 1) = List.range n ++ [n] := List.range_succ
@[go_sem] theorem zK9 (v : Value) : Pure (.raw v) ↔ True := ⟨fun _ => trivial, fun _ => .raw v⟩
@[go_sem] theorem zK8 (xs : List AV) : Pure (.list xs) ↔ True := ⟨fun _ => trivial, fun _ => .list xs⟩
@[go_sem] theorem zK7 (ks : List Value) (xs : List AV) : Pure (.fmap ks xs) ↔ True := ⟨fun _ => trivial, fun _ => .fmap ks xs⟩
@[go_sem] theorem zK5 : Pure .any ↔ True := ⟨fun _ => trivial, fun _ => .any⟩
@[go_sem] theorem zK6 (x : AV) : Pure (.elt x) ↔ True := ⟨fun _ => trivial, fun _ => .elt x⟩
@[go_sem] theorem zK4 : Pure (.agg []) ↔ True := ⟨fun _ => trivial, fun _ => .agg [] (fun c hc => by simp at hc)⟩
@[go_sem] theorem zK3 (c : AV) (cs : List AV) : Pure (.agg (c :: cs)) ↔ Pure c ∧ Pure (.agg cs) := by
 constructor
 ·intro h
  cases h with
  | agg _ h => exact ⟨h c (by simp), .agg cs (fun d hd => h d (by simp [hd]))⟩
 ·rintro ⟨h1, h2⟩
  cases h2 with
  | agg _ h2 =>
   refine .agg _ (fun d hd => ?_)
   rcases List.mem_cons.1 hd with rfl | hd
   ·exact h1
   ·exact h2 d hd
section
variable (H : Nat → AObj) (m : List (Option Nat)) (ex : List Nat)
@[go_sem] theorem zIi (y : AV) : XpF H m ex .any y ↔ True := by simp only [XpF]
@[go_sem] theorem zIv (k off o off' : Nat) : XpF H m ex (.ptr k off) (.ptr o off') ↔ m[k]? = some (some o) ∧ off = off' := by simp only [XpF]
@[go_sem] theorem zIk (k sz i off o sz' i' off' : Nat) : XpF H m ex (.eptr k sz i off) (.eptr o sz' i' off') ↔ m[k]? = some (some o) ∧ sz = sz' ∧ i = i' ∧ off = off' := by simp only [XpF]
@[go_sem] theorem zIt (k sz off len o sz' off' len' : Nat) : XpF H m ex (.own k sz off len) (.own o sz' off' len') ↔ m[k]? = some (some o) ∧ sz = sz' ∧ off = off' ∧ len = len' := by simp only [XpF]
@[go_sem] theorem zIu (k sz off len : Nat) (v : Value) : XpF H m ex (.own k sz off len) (.raw v) ↔ m[k]? = some none ∧ off = 0 ∧ len = 0 ∧ v = .slice none 0 0 := by simp only [XpF]
@[go_sem] theorem zIq (k o : Nat) : XpF H m ex (.mp k) (.mp o) ↔ m[k]? = some (some o) := by simp only [XpF]
@[go_sem] theorem zIw (v v' : Value) : XpF H m ex (.raw v) (.raw v') ↔ v = v' := by simp only [XpF]
@[go_sem] theorem zIp (xs ys : List AV) : XpF H m ex (.list xs) (.list ys) ↔ xs = ys := by simp only [XpF]
@[go_sem] theorem zIn (xs : List AV) (o sz off len : Nat) : XpF H m ex (.list xs) (.own o sz off len) ↔ o ∈ ex ∧ (match H o with
  | .row sz' zs => sz' = sz ∧ off + len ≤ zs.length ∧ xs = (zs.drop off).take len
  | .box cs => sz = 1 ∧ off = 0 ∧ len = cs.length ∧ (∀ x, x ∈ xs → b7 x = true) ∧ (xs = cs ∨ XpL H m ex xs cs)
  | _ => False) := by simp only [XpF] <;> (generalize H o = A; cases A <;> exact Iff.rfl)
@[go_sem] theorem zIl (ks ks' : List Value) (xs xs' : List AV) : XpF H m ex (.fmap ks xs) (.fmap ks' xs') ↔ ks = ks' ∧ xs = xs' := by simp only [XpF]
@[go_sem] theorem zIo (ks : List Value) (xs : List AV) (o : Nat) : XpF H m ex (.fmap ks xs) (.mp o) ↔ o ∈ ex ∧ (match H o with
  | .mapo ks' xs' => MPerm ks xs ks' xs'
  | _ => False) := by simp only [XpF] <;> (generalize H o = A; cases A <;> exact Iff.rfl)
@[go_sem] theorem zKS (ks : List Value) (xs : List AV) : MPerm ks xs ks xs ↔ True := ⟨fun _ => trivial, fun _ => .refl _ _⟩
@[go_sem] theorem zIs (ks : List Value) (xs : List AV) (v : Value) : XpF H m ex (.fmap ks xs) (.raw v) ↔ ks = [] ∧ xs = [] ∧ v = .map none := by simp only [XpF]
@[go_sem] theorem zIr (xs : List AV) (v : Value) : XpF H m ex (.list xs) (.raw v) ↔ xs = [] ∧ v = .slice none 0 0 := by simp only [XpF]
@[go_sem] theorem zIj (x y : AV) : XpF H m ex (.elt x) (.elt y) ↔ x = y := by simp only [XpF]
@[go_sem] theorem zIh (cs ds : List AV) : XpF H m ex (.agg cs) (.agg ds) ↔ XpL H m ex cs ds := by simp only [XpF]
@[go_sem] theorem zIx (cs ds : List AV) : XpF H m ex (.tup cs) (.tup ds) ↔ XpL H m ex cs ds := by simp only [XpF]
@[go_sem] theorem zIm (f g : FuncId) (cs ds : List AV) : XpF H m ex (.fn f cs) (.fn g ds) ↔ f = g ∧ XpL H m ex cs ds := by simp only [XpF]
@[go_sem] theorem zBB : XpL H m ex [] [] ↔ True := by simp only [XpL]
@[go_sem] theorem C9 (x y : AV) (xs ys : List AV) : XpL H m ex (x :: xs) (y :: ys) ↔ XpF H m ex x y ∧ XpL H m ex xs ys := by simp only [XpL]
end
section
variable (f : Nat → Nat)
@[go_sem] theorem zLD : AV.ren f .any = .any := by simp only [AV.ren]
@[go_sem] theorem zLM (v : Value) : AV.ren f (.raw v) = .raw v := by simp only [AV.ren]
@[go_sem] theorem zLI (xs : List AV) : AV.ren f (.list xs) = .list xs := by simp only [AV.ren]
@[go_sem] theorem zLE (x : AV) : AV.ren f (.elt x) = .elt x := by simp only [AV.ren]
@[go_sem] theorem zLG (ks : List Value) (xs : List AV) : AV.ren f (.fmap ks xs) = .fmap ks xs := by simp only [AV.ren]
@[go_sem] theorem zLL (o off : Nat) : AV.ren f (.ptr o off) = .ptr (f o) off := by simp only [AV.ren]
@[go_sem] theorem zLF (o sz i off : Nat) : AV.ren f (.eptr o sz i off) = .eptr (f o) sz i off := by simp only [AV.ren]
@[go_sem] theorem zLK (o sz off len : Nat) : AV.ren f (.own o sz off len) = .own (f o) sz off len := by simp only [AV.ren]
@[go_sem] theorem zLJ (o : Nat) : AV.ren f (.mp o) = .mp (f o) := by simp only [AV.ren]
@[go_sem] theorem zLC (cs : List AV) : AV.ren f (.agg cs) = .agg (cs.map (AV.ren f)) := by simp only [AV.ren, i7]
@[go_sem] theorem zLN (cs : List AV) : AV.ren f (.tup cs) = .tup (cs.map (AV.ren f)) := by simp only [AV.ren, i7]
@[go_sem] theorem zLH (g : FuncId) (cs : List AV) : AV.ren f (.fn g cs) = .fn g (cs.map (AV.ren f)) := by simp only [AV.ren, i7]
@[go_sem] theorem zLB (cs : List AV) : zMW f cs = cs.map (AV.ren f) := i7 f cs
end
end Go.Abs

namespace Go.Abs
open Go
def zBR : Nat → Code → Code
 | 0, .seq x _ => x
 | 1, .seq _ y => y
 | 0, .cond _ x _ => x
 | 1, .cond _ _ y => y
 | 0, .block _ c => c
 | 0, .loop c => c
 | _, _ => .skip
def sub : List Nat → Code → Code
 | [], b => b
 | i :: p, b => zBR i (sub p b)
def B4 (fn : Func) : Code := fn.body.getD .skip
def zF0 : Code → Bool
 | .seq _ _ => true
 | _ => false
def zB8 : Code → Option Nat
 | .block id _ => some id
 | _ => none
def F2 : Code → Bool
 | .loop _ => true
 | _ => false
def zB9 : Code → Option Operand
 | .cond c _ _ => some c
 | _ => none
section
variable {P : Program} {E : Env} {Q : Exit → AS → Prop} {σ : AS} {p : List Nat} {b : Code}
theorem M0 (h : zF0 (sub p b) = true) (hx : Hold P E (sub (0 :: p) b) (z6 (Hold P E (sub (1 :: p) b) Q) Q) σ) : Hold P E (sub p b) Q σ := by
 simp only [sub] at hx
 cases hc : sub p b with
 | seq x y => rw [hc] at hx; exact zFk hx
 | _ => rw [hc] at h; cases h
theorem zGz {id : Nat} (h : zB8 (sub p b) = some id) (hx : Hold P E (sub (0 :: p) b) (z7 id Q) σ) : Hold P E (sub p b) Q σ := by
 simp only [sub] at hx
 cases hc : sub p b with
 | block i c => rw [hc] at hx h; cases h; exact zFb hx
 | _ => rw [hc] at h; cases h
theorem zG5 (h : sub p b = .skip) (hx : Q .normal σ) : Hold P E (sub p b) Q σ := by rw [h]; exact zFl hx
theorem zG2 {l : Nat} (h : sub p b = .label l) (hx : Q .normal σ) : Hold P E (sub p b) Q σ := by rw [h]; exact zFf hx
theorem zG1 {id : Nat} (h : sub p b = .exit id) (hx : Q (.exit id) σ) : Hold P E (sub p b) Q σ := by rw [h]; exact zFe hx
theorem q6 (h : sub p b = .ret) (hx : Q .ret σ) : Hold P E (sub p b) Q σ := by rw [h]; exact zFj hx
theorem zG4 {id : Nat} {ops : List Oper} (h : sub p b = .region id ops.toArray false) (hx : y6 P ops (fun σ' _ => Q .normal σ') ops σ []) : Hold P E (sub p b) Q σ := by
 rw [h]; exact zFi hx
theorem zG0 {id : Nat} {ops : List Oper} (h : sub p b = .region id ops.toArray true) (hm : P.follows .mixedOrders = true) (he : L7 ops = true) (hx : y6 P ops (fun σ' ts => S1 ops ts = true ∧ Q .normal σ') ops σ []) : Hold P E (sub p b) Q σ := by
 rw [h]; exact zFd hm he hx
theorem zCs {c : Operand} (h : zB9 (sub p b) = some c) (hx : ∃ t, σ.ev c = .raw (.bool t) ∧ (t = true → Hold P E (sub (0 :: p) b) Q σ) ∧ (t = false → Hold P E (sub (1 :: p) b) Q σ)) : Hold P E (sub p b) Q σ := by
 simp only [sub] at hx
 cases hc : sub p b with
 | cond c' x y =>
  rw [hc] at hx h; cases h
  obtain ⟨t, h1, h2, h3⟩ := hx
  exact zFc h1 h2 h3
 | _ => rw [hc] at h; cases h
theorem X7 (h : F2 (sub p b) = true) (Inv : Nat → Nat → List (Nat × AV) → List AObj → Prop) (n : Nat) (h0 : ∃ m ex N env As, Weak E.n m ex σ N env As ∧ Inv n N env As)
  (hx : ∀ n N env As, Inv n N env As → Hold P E (sub (0 :: p) b) (z6 (fun σ' => ∃ n', n' < n ∧ ∃ m ex N env As, Weak E.n m ex σ' N env As ∧ Inv n' N env As) Q) ⟨N, env, zLy 0 As⟩) : Hold P E (sub p b) Q σ := by
 simp only [sub] at hx
 cases hc : sub p b with
 | loop c => rw [hc] at hx; exact zFg Inv n h0 hx
 | _ => rw [hc] at h; cases h
def AS.only (σ : AS) (ts : List Nat) : AS := ⟨σ.n, ts.map (fun t => (t, σ.get t)), σ.objs⟩
theorem q8 {f : FuncId} {fn : Func} {args : List AV} {fp : List AObj} {r : AV} {out : List AObj} (hf : P.funcs[f]? = some fn) (hb : fn.body.isSome = true)
  (h : ∀ E : Env, E.n = fp.length → Hold P E (sub [] (B4 fn)) (fun e σ' => (e = .normal ∨ e = .ret) ∧ zA8 P fn fp.length r out σ') ⟨args.length + (fn.ntmps - args.length), zMQ 0 args, zLy 0 fp⟩) : zLp P f args fp r out := by
 obtain ⟨c, hc⟩ := Option.isSome_iff_exists.1 hb
 refine zID hf hc (fun E hE => ?_)
 have := h E hE
 simp only [sub, B4, hc, Option.getD_some] at this
 exact this
end
section
variable {P : Program} {E : Env} {all : List Oper} {K : AS → List Touch → Prop} {o : Oper} {rest : List Oper} {σ : AS} {ts : List Touch} {Q : Exit → AS → Prop} {p : List Nat} {b : Code}
def zMd (σ : AS) : Option Tmp → Bool
 | some d => Nat.blt d σ.n
 | none => true
theorem T3 : zMd σ o.dst = true → T4 σ o.dst := by
 cases o.dst with
 | none => intro _; trivial
 | some d => intro h; simp only [zMd, Nat.blt, Nat.ble_eq] at h; exact h
def zDC (a c : Option (Bool × Prop)) : AV → Bool → Option (Bool × Prop)
 | .raw (.bool true), true => a
 | .raw (.bool false), false => a
 | .raw (.bool true), false => c
 | .raw (.bool false), true => c
 | .tup [], _ => c
 | _, _ => none
def zDE (P : Program) (all : List Oper) (K : AS → List Touch → Prop) (σ : AS) (ts : List Touch) : List Oper → Option (Bool × Prop)
  | [] => some (true, K σ ts)
  | o :: rest => match o.guard with
    | none => some (zMd σ o.dst, ∀ K', W7 K' (T2 P all K o rest σ ts) → zL4 P o σ.ev σ.obj σ.nx K')
    | some (j, want) => match (all[j]?).bind (·.dst) with
      | none => none
      | some d => zDC (some (zMd σ o.dst, ∀ K', W7 K' (T2 P all K o rest σ ts) → zL4 P o σ.ev σ.obj σ.nx K'))
          (some (zMd σ o.dst, y6 P all K rest (σ.putD o.dst (.tup [])) (ts ++ [⟨[], []⟩]))) (σ.get d) want
theorem Qr {ops : List Oper} {G : Prop} (h : zDE P all K σ ts ops = some (true, G)) (g : G) : y6 P all K ops σ ts := by
 cases ops with
 | nil => cases h; exact g
 | cons o rest =>
  simp only [zDE] at h
  split at h
  ·rename_i hg
   simp only [Option.some.injEq, Prod.mk.injEq] at h
   obtain ⟨h1, rfl⟩ := h
   exact zGw hg (T3 h1) g
  ·rename_i j want hg
   split at h
   ·cases h
   ·rename_i d hj
    unfold zDC at h
    split at h <;> simp only [Option.some.injEq, Prod.mk.injEq, reduceCtorEq] at h <;> obtain ⟨h1, rfl⟩ := h
    ·rename_i hv; exact zCr hg hj hv (T3 h1) g
    ·rename_i hv; exact zCr hg hj hv (T3 h1) g
    ·rename_i hv; exact zCq hg hj hv (T3 h1) g
    ·rename_i hv; exact zCq hg hj hv (T3 h1) g
    ·rename_i hv; exact zGx hg hj hv (T3 h1) g
theorem Qi {j d : Nat} {want t : Bool} (hg : o.guard = some (j, want)) (hj : (all[j]?).bind (·.dst) = some d) (hv : σ.get d = .raw (.bool t)) (hd : zMd σ o.dst = true)
  (h1 : t = want → ∀ K', W7 K' (T2 P all K o rest σ ts) → zL4 P o σ.ev σ.obj σ.nx K') (h2 : t = !want → y6 P all K rest (σ.putD o.dst (.tup [])) (ts ++ [⟨[], []⟩])) :
  y6 P all K (o :: rest) σ ts := zAk hg hj hv (T3 hd) h1 h2
theorem Qb {ops : List Oper} {p : Prop} (h : S1 ops ts = true) (g : p) : S1 ops ts = true ∧ p := ⟨h, g⟩
def zDD (P : Program) (E : Env) (b : Code) (Q : Exit → AS → Prop) (σ : AS) (p : List Nat) : Option Prop := match sub p b with
 | .seq _ _ => some (Hold P E (sub (0 :: p) b) (z6 (Hold P E (sub (1 :: p) b) Q) Q) σ)
 | .block id _ => some (Hold P E (sub (0 :: p) b) (z7 id Q) σ)
 | .skip => some (Q .normal σ)
 | .label _ => some (Q .normal σ)
 | .exit id => some (Q (.exit id) σ)
 | .region _ ⟨ops⟩ false => some (y6 P ops (fun σ' _ => Q .normal σ') ops σ [])
 | _ => none
theorem Qh {G : Prop} (h : zDD P E b Q σ p = some G) (g : G) : Hold P E (sub p b) Q σ := by
 unfold zDD at h
 cases hc : sub p b with
 | seq x y => rw [hc] at h; cases h; rw [← hc]; exact M0 (by rw [hc]; rfl) g
 | block i c => rw [hc] at h; cases h; rw [← hc]; exact zGz (id := i) (by rw [hc]; rfl) g
 | skip => rw [hc] at h; cases h; rw [← hc]; exact zG5 hc g
 | label l => rw [hc] at h; cases h; rw [← hc]; exact zG2 hc g
 | exit id => rw [hc] at h; cases h; rw [← hc]; exact zG1 hc g
 | region id ops d => cases d with
  | false => rw [hc] at h; cases h; rw [← hc]; exact zG4 (ops := ops.toList) (by rw [hc]) g
  | true => rw [hc] at h; cases h
 | _ => rw [hc] at h; cases h
end
@[congr] theorem Hold.only_state {P : Program} {E : Env} {c : Code} {Q : Exit → AS → Prop} {σ τ : AS} (h : σ = τ) : Hold P E c Q σ = Hold P E c Q τ := by rw [h]
attribute [go_sem] AS.only
end Go.Abs

namespace Go.Abs
open Go
theorem X4 {α β : Type} (f : α → β) : ∀ (l : List α) (i : Nat), (l.eraseIdx i).map f = (l.map f).eraseIdx i
 | [], i => by simp
 | x :: r, 0 => rfl
 | x :: r, i + 1 => by simp only [List.eraseIdx_cons_succ, List.map_cons, X4 f r i]
theorem zBc : ∀ (L : List MapEntry) (i : Nat) (h : i < L.length), L.Pairwise (fun x y => x.born < y.born) → L.filter (fun e => !(e.born == L[i].born)) = L.eraseIdx i
 | [], i, h, _ => by simp at h
 | x :: r, 0, h, hp => by
  obtain ⟨h1, h2⟩ := List.pairwise_cons.1 hp
  simp only [List.getElem_cons_zero, List.eraseIdx_cons_zero, List.filter_cons, beq_self_eq_true, Bool.not_true, Bool.false_eq_true, if_false]
  exact List.filter_eq_self.2 (fun e he => by have := h1 e he; simp; omega)
 | x :: r, i + 1, h, hp => by
  obtain ⟨h1, h2⟩ := List.pairwise_cons.1 hp
  have hi : i < r.length := by simpa using h
  have hx : x.born < r[i].born := h1 _ (List.getElem_mem hi)
  simp only [List.getElem_cons_succ, List.eraseIdx_cons_succ]
  rw [List.filter_cons, if_pos (by simp; omega), zBc r i hi h2]
theorem zF9 (es : List MapEntry) (seen : Array Nat) (i : Nat) (h : i < (es.filter (fun e => !seen.contains e.born)).length) (hp : es.Pairwise (fun x y => x.born < y.born)) :
  es.filter (fun e => !(seen.push ((es.filter (fun e => !seen.contains e.born))[i]).born).contains e.born) = (es.filter (fun e => !seen.contains e.born)).eraseIdx i := by
 rw [← zBc _ i h (hp.filter _), List.filter_filter]
 congr 1
 funext e
 simp only [Array.contains_push]
 cases seen.contains e.born <;> simp
section
variable {P : Program} {E : Env} {Q : Exit → AS → Prop} {σ : AS} {p : List Nat} {b : Code}
theorem zDX {o : Oper} (h : o.guard = none) (y : Nat → Option Bool) : Region.wanted o y = true := by simp [Region.wanted, h]
theorem D4 {id : Nat} {o1 o2 : Oper} {t d d2 o : Nat} (h : sub p b = .region id #[o1, o2] false) (h1 : o1.op = .next (.tmp t) false) (h2 : o1.dst = some d) (h3 : o1.guard = none)
    (h4 : o2.op = .extract (.tmp d) 0) (h5 : o2.dst = some d2) (h6 : o2.guard = none) (cur : Option (Value × AV)) (ks : List Value) (xs : List AV) (hx : σ.get t = .ptr o 0) (ho : σ.obj o = .iter cur ks xs) (hd : d < σ.n) (hd2 : d2 < σ.n)
    (hend : ks = [] → xs = [] → Q .normal ((σ.put d .any).put d2 (.raw (.bool false))))
    (hstep : ∀ (i : Nat) (h : i < ks.length) (h' : i < xs.length), Q .normal (((σ.setO o (.iter (some (ks[i], xs[i])) (ks.eraseIdx i) (xs.eraseIdx i))).put d .any).put d2 (.raw (.bool true)))) : Hold P E (sub p b) Q σ := by
  rw [h]
  rintro a w ⟨I, loc, hs⟩
  refine wp_region_lit (l := [o1, o2]) ?_
  have second : ∀ (τ : AS) (bb : Bool) (v : Value) (w' : World) (I' : Nat → Prop), τ.n = σ.n → (Instr.extract v 0).run P w' = .ok (.bool bb) w' → SR E I' loc τ a w' → Q .normal ((τ.put d .any).put d2 (.raw (.bool bb))) →
      wpList P #[o1, o2] (zMP E Q) [o2] (a.put o1.dst v) w' := by
    intro τ bb v w' I' hn hv hsr hq
    have hs1 := hsr.put (t := d) (v := .any) (x := v) (.pure (.any _)) (by rw [hn]; exact hd)
    unfold wpList
    rw [if_pos (zDX h6 _)]
    refine .inl (M7 (x := .bool bb) (w' := w') ?_ ?_)
    · have hev : (a.put o1.dst v).eval (.tmp d) = v := by
        have hlt : d < a.tmps.size := by rw [hsr.size, hn]; exact hd
        simp [Act.eval, Act.put, h2, hlt]
      simp only [execOp, h4, Sem.run_bind, hev, hv, Result.andThen_ok, Sem.run_pure]
    · unfold wpList
      refine ⟨_, hq, I', loc, ?_⟩
      rw [h2, h5]
      exact hs1.put (.pure (.raw _ rfl)) (show d2 < τ.n by rw [hn]; exact hd2)
  unfold wpList
  rw [if_pos (zDX h3 _)]
  refine .inl ?_
  have hxv := hs.tmps t
  rw [hx] at hxv
  have ev1 : a.eval (.tmp t) = a.tmps.getD t undef := rfl
  generalize a.tmps.getD t undef = u at hxv ev1
  cases hxv with
  | pure hp => cases hp
  | ptr _ _ bb c hl =>
    have hob := hs.objs o
    rw [ho] at hob
    have hlive : (σ.obj o).live = true := by rw [ho]; rfl
    obtain ⟨b', g1, ⟨s, seen, l, g2, rfl, rfl, rfl⟩ | ⟨m, es, clock, seen, g2, g3, g4, g5, g6, g7, g8⟩⟩ := hob
    · rw [hl] at g1; cases g1
      refine M7 (x := .tuple #[.bool false]) (w' := w) ?_ (second σ false _ w I rfl (by simp [Instr.extract]) hs (hend rfl rfl))
      simp only [execOp, h1, ev1]
      simp [Instr.next, getObj, Sem.run_bind, Sem.run, g2, Result.andThen]
    · rw [hl] at g1; cases g1
      have hkl : ks.length = (es.toList.filter (fun e => !seen.contains e.born)).length := g6.1.trans g6.2.1
      have hxl := g6.2.1
      have hlo : (leftOf es seen).toList = es.toList.filter (fun e => !seen.contains e.born) := by simp [leftOf]
      rcases run_next_at (P := P) w o1.type bb m clock clock seen es clock g2 g4 (fun x hx => g5.2.2.2.2.2 x hx) (Nat.le_refl _) with ⟨q1, q2⟩ | ⟨e, q1, w1, q2, q3⟩
      · have hnil : (es.toList.filter (fun e => !seen.contains e.born)).length = 0 := by rw [← hlo]; simpa using q1
        have hk0 : ks = [] := List.eq_nil_of_length_eq_zero (by omega)
        have hx0 : xs = [] := List.eq_nil_of_length_eq_zero (by omega)
        refine M7 (x := .tuple #[.bool false]) (w' := w) ?_ (second σ false _ w I rfl (by simp [Instr.extract]) hs (hend hk0 hx0))
        simp only [execOp, h1, ev1]
        simp only [Sem.run_bind, q2, Result.andThen_ok, Sem.run_pure]
      · rw [hlo] at q1
        obtain ⟨i0, hi, rfl⟩ := List.getElem_of_mem q1
        have hin : ((es.toList.filter (fun e => !seen.contains e.born))[i0]).key ∈ ks := (K6 g6 g7).2 (List.mem_map.2 ⟨_, List.getElem_mem hi, rfl⟩)
        obtain ⟨i, hik, hki⟩ := List.getElem_of_mem hin
        have hix : i < xs.length := by have := g6.1; omega
        have hpv : PR w I xs[i] ((es.toList.filter (fun e => !seen.contains e.born))[i0]).val := by
          obtain ⟨e', r1, r2, r3⟩ := g7 i hik hix
          have : e' = (es.toList.filter (fun e => !seen.contains e.born))[i0] := zBV g6.2.2.2.1 r1 (List.getElem_mem hi) (by rw [r2, hki])
          rw [← this]; exact r3
        have hw1 : SR E I loc σ a w1 := by
          rcases q2 with rfl | rfl
          · exact hs
          · exact hs.heap rfl rfl rfl rfl
        have g2' : w1.heap[bb]? = some (.mapIter (some m) clock seen clock) := by rcases q2 with rfl | rfl <;> exact g2
        have g4' : w1.heap[m]? = some (.map es clock) := by rcases q2 with rfl | rfl <;> exact g4
        have hheap : w1.heap = w.heap := by rcases q2 with rfl | rfl <;> rfl
        have hblt : bb < w1.heap.size := (Array.getElem?_eq_some_iff.1 g2').1
        have hmb : m ≠ bb := fun e => by rw [e] at g4; rw [g2] at g4; cases g4
        let ob : Obj := .mapIter (some m) clock (seen.push ((es.toList.filter (fun e => !seen.contains e.born))[i0]).born) clock
        have hmono : ∀ k, I k → (ChangeMaps.setBlock w1 bb ob).heap[k]? = w1.heap[k]? := fun k hk => by
          have : bb ≠ k := fun e => (hs.sep o bb 0 hlive hl).1 (e ▸ hk)
          simp [ChangeMaps.setBlock, Array.getElem?_setIfInBounds, this]
        have hmono' : ∀ k, I k → (ChangeMaps.setBlock w1 bb ob).heap[k]? = w.heap[k]? := fun k hk => by rw [hmono k hk, hheap]
        have hset : (ChangeMaps.setBlock w1 bb ob).heap[bb]? = some ob := by simp [ChangeMaps.setBlock, hblt]
        have hleft := zF9 es.toList seen i0 hi g5.2.2.2.2.1
        have hsw : SR E I loc (σ.setO o (.iter (some (ks[i], xs[i])) (ks.eraseIdx i) (xs.eraseIdx i))) a (ChangeMaps.setBlock w1 bb ob) := by
          refine hw1.writeG (w' := ChangeMaps.setBlock w1 bb ob) (A := .iter (some (ks[i], xs[i])) (ks.eraseIdx i) (xs.eraseIdx i)) hlive hl rfl rfl rfl (by simp [ChangeMaps.setBlock]) (fun k hk => by simp [ChangeMaps.setBlock, Array.getElem?_setIfInBounds, hk.symm]) ⟨bb, hl, .inr ⟨m, es, clock, seen.push ((es.toList.filter (fun e => !seen.contains e.born))[i0]).born, hset, g3, ?_, g5, ?_, ?_, ?_⟩⟩ (by simp)
          · rw [hmono m g3]; exact g4'
          · rw [hleft]
            have hsub := List.eraseIdx_sublist (es.toList.filter (fun e => !seen.contains e.born)) i0
            refine ⟨?_, ?_, g6.2.2.1.sublist (List.eraseIdx_sublist _ _), g6.2.2.2.1.sublist (hsub.map _), g6.2.2.2.2.1.sublist hsub, fun e he => g6.2.2.2.2.2 e (hsub.subset he)⟩
            · rw [List.length_eraseIdx_of_lt hix, List.length_eraseIdx_of_lt hik]; have := g6.1; omega
            · rw [List.length_eraseIdx_of_lt hix, List.length_eraseIdx_of_lt hi, hxl]
          · rw [hleft]
            have step : ∀ j (hj : j < ks.length) (hj' : j < xs.length), j ≠ i → ∃ e, e ∈ (es.toList.filter (fun e => !seen.contains e.born)).eraseIdx i0 ∧ e.key = ks[j] ∧ PR (ChangeMaps.setBlock w1 bb ob) I xs[j] e.val := fun j hj hj' hne => by
              obtain ⟨e, r1, r2, r3⟩ := g7 j hj hj'
              obtain ⟨m', hm', rfl⟩ := List.getElem_of_mem r1
              refine ⟨_, List.mem_eraseIdx_iff_getElem.2 ⟨m', hm', fun e => ?_, rfl⟩, r2, r3.mono hmono' (fun _ x => x)⟩
              subst e
              rw [← hki] at r2
              exact hne ((X5 g6.2.2.1).1 r2).symm
            intro j hj hj'
            rw [List.length_eraseIdx_of_lt hik] at hj
            simp only [List.getElem_eraseIdx]
            by_cases hji : j < i
            · simp only [dif_pos hji]; exact step j (by omega) (by omega) (by omega)
            · simp only [dif_neg hji]; exact step (j + 1) (by omega) (by have := g6.1; omega) (by omega)
          · rintro p hp
            cases hp
            exact ⟨_, (List.mem_filter.1 (List.getElem_mem hi)).1, by simp, hki.symm, hpv.mono hmono' (fun _ x => x)⟩
        have fin : ∀ (kk vv : Value) (w2 : World), (Instr.next (.pointer (some ⟨bb, 0, none⟩)) false o1.type).run P w = .ok (.tuple #[.bool true, kk, vv]) w2 → SR E I loc (σ.setO o (.iter (some (ks[i], xs[i])) (ks.eraseIdx i) (xs.eraseIdx i))) a w2 →
            o1.wp P a w (wpList P #[o1, o2] (zMP E Q) [o2]) (zMP E Q) := fun kk vv w2 hq hw2 =>
          M7 (x := .tuple #[.bool true, kk, vv]) (w' := w2) (by simp only [execOp, h1, ev1]; simp only [Sem.run_bind, hq, Result.andThen_ok, Sem.run_pure])
            (second (σ.setO o (.iter (some (ks[i], xs[i])) (ks.eraseIdx i) (xs.eraseIdx i))) true (.tuple #[.bool true, kk, vv]) w2 I rfl (by simp [Instr.extract]) hw2 (hstep i hik hix))
        exact fin _ _ _ q3 hsw
end
def fpsF (H : Nat → AObj) (m : List (Option Nat)) (ex : List Nat) : List AObj → List Nat → Prop
 | [], [] => True
 | A :: r, o :: r' => A.live = true ∧ OXpF H m ex A (H o) ∧ fpsF H m ex r r'
 | _, _ => False
theorem fpsF.sound {H : Nat → AObj} {m : List (Option Nat)} {ex : List Nat} : ∀ {fp : List AObj} {ids : List Nat}, fpsF H m ex fp ids → fp.length = ids.length ∧ ∀ k (h : k < fp.length), fp[k].live = true ∧ OXp H (zMD m) (· ∈ ex) fp[k] (H (ids.getD k 0))
 | [], [], _ => ⟨rfl, fun k h => by simp at h⟩
 | A :: r, o :: r', h => by
  obtain ⟨h1, h2⟩ := fpsF.sound h.2.2
  refine ⟨by simp [h1], fun k hk => ?_⟩
  cases k with
  | zero => exact ⟨h.1, OXpF.sound h.2.1⟩
  | succ k => simpa using h2 k (by simpa using hk)
theorem E7 (ids : List Nat) : zMD (ids.map some) = p5 ids := by
 funext k
 unfold zMD p5
 by_cases h : k < ids.length
 ·simp [h, List.getD]
 ·simp [h]
theorem B5 {P : Program} {f : FuncId} {avs : List AV} {H : Nat → AObj} {nx : Nat} {K : Cont} (ids ex : List Nat) {args : List AV} {fp : List AObj} {r : AV} {out : List AObj} (sp : zLp P f args fp r out)
  (h1 : ids.Nodup) (h2 : XpL H (ids.map some) ex args avs) (h3 : fpsF H (ids.map some) ex fp ids) (h4 : ∀ o, o ∈ ex → o ∉ ids) (h5 : ex = [] ∨ (Scal r ∧ ∀ A, A ∈ out → M9 A))
  (h6 : ∀ j, j < out.length - ids.length → H (nx + j) = .unb) (h7 : ∀ A, A ∈ out → A ≠ .unb) (hk : K (r.ren (v7 ids nx)) (ids ++ ex ++ i4 ids nx out) (r6 ids nx out)) : H5 P f avs H nx K := by
 refine ⟨ids, ex, args, fp, r, out, ⟨sp, h1, h4, ?_, (fpsF.sound h3).1, fun k h => ?_, h5, h6, h7⟩, hk⟩
 ·rw [← E7]; exact XpL.all2 h2
 ·rw [← E7]; exact (fpsF.sound h3).2 k h
theorem All2.refl {R : AV → AV → Prop} (h : ∀ x, R x x) : ∀ xs, All2 R xs xs
 | [] => .nil
 | x :: r => .cons (h x) (All2.refl h r)
theorem y9 {P : Program} {f : FuncId} {avs : List AV} {H : Nat → AObj} {nx : Nat} {K : Cont} (ids ex : List Nat) {args : List AV} {fp : List AObj} {r : AV} {out : List AObj} (sp : zLp P f args fp r out)
  (h1 : ids.Nodup) (h2 : XpL H (ids.map some) ex args avs) (h3 : fpsF H (ids.map some) ex fp ids) (h4 : ∀ o, o ∈ ex → o ∉ ids) (h5 : ex = [] ∨ (Scal r ∧ ∀ A, A ∈ out → M9 A))
  (h6 : ∀ j, j < out.length - ids.length → H (nx + j) = .unb) (h7 : ∀ A, A ∈ out → A ≠ .unb) (hk : K (r.ren (v7 ids nx)) (ids ++ ex ++ i4 ids nx out) (r6 ids nx out)) : x8 P f avs H nx K := by
 refine ⟨[], avs, All2.refl (fun x => Xp.refl H _ x) avs, ?_⟩
 have e : (fun o => if o ∈ ([] : List Nat) then AObj.dead else H o) = H := by funext o; simp
 rw [e]
 exact B5 ids ex sp h1 h2 h3 h4 h5 h6 h7 hk
theorem All2.map {R : AV → AV → Prop} {f : AV → AV} : ∀ {xs : List AV}, (∀ x, x ∈ xs → R (f x) x) → All2 R (xs.map f) xs
 | [], _ => .nil
 | x :: r, h => .cons (h x (by simp)) (All2.map (fun y hy => h y (by simp [hy])))
theorem zBL {P : Program} {f : FuncId} {avs : List AV} {H : Nat → AObj} {nx : Nat} {K : Cont} (h : H5 P f (avs.map fun x => (zLq H 3 x).1) (fun o => if o ∈ (avs.map fun x => (zLq H 3 x).2).flatten then .dead else H o) nx
  (fun v rd wr => K v ((avs.map fun x => (zLq H 3 x).2).flatten ++ rd) (v6 (avs.map fun x => (zLq H 3 x).2).flatten ++ wr))) : x8 P f avs H nx K :=
 ⟨_, _, All2.map (fun x hx => G6 H _ 3 x (fun o ho => List.mem_flatten.2 ⟨_, List.mem_map.2 ⟨x, hx, rfl⟩, ho⟩)), h⟩
attribute [go_sem] fpsF
end Go.Abs

namespace Go.Abs
open Go
def andO (a b : Option Bool) : Option Bool := a.bind fun r => if r = true then b else some false
def eqV (P : Program) : Nat → TypeId → List Value → List Value → Option Bool
  | 0, _, _, _ => none
  | d + 1, t, xs, ys => match P.underlying t, xs, ys with
    | some (.int _), [.int k a], [.int k' b] => if k = k' then some (a == b) else none
    | some .bool, [.bool a], [.bool b] => some (a == b)
    | some .string, [.string a], [.string b] => some (a == b)
    | some (.struct fs), xs, ys => if P.stoodInHeld t = true then none else
        fs.toList.foldr (fun f acc => if f.name = "_" then none else match sizeT P f.type with
          | some n => if f.offset + n ≤ xs.length ∧ f.offset + n ≤ ys.length then andO (eqV P d f.type ((xs.drop f.offset).take n) ((ys.drop f.offset).take n)) acc else none
          | none => none) (some true)
    | _, _, _ => none
def l1 (P : Program) (t : TypeId) (xs : List Value) : Value := match P.underlying t with
 | some (.struct _) => .agg xs.toArray
 | _ => xs.getD 0 undef
theorem F7 {P : Program} {w : World} {t n off : Nat} {xs : List Value} {u : TypeDesc} (hu : P.underlying t = some u) (hn : sizeT P t = some n) (hp : (∃ fs, u = .struct fs) ∨ ((∀ fs, u ≠ .struct fs) ∧ (∀ m e, u ≠ .array m e) ∧ off < xs.length ∧ 0 < n)) :
    (part t xs.toArray off).run P w = .ok (l1 P t ((xs.drop off).take n)) w := by
  rcases hp with ⟨fs, rfl⟩ | ⟨h1, h2, h3, h4⟩
  · have : s5 P t = some true := by unfold s5; rw [hu]
    obtain ⟨e, hp⟩ := D3 (P := P) (w := w) (vs := xs.toArray) (off := off) this
    rw [hp]
    simp only [if_true, l1, hu, Sem.run_bind, o6 hn, Result.andThen_ok, Sem.run_pure]
    congr 2
    apply Array.ext'
    simp [Array.toList_extract, List.extract]
  · have : s5 P t = some false := by
      unfold s5; rw [hu]
      cases u with
      | struct fs => exact absurd rfl (h1 fs)
      | array m e => exact absurd rfl (h2 m e)
      | _ => rfl
    obtain ⟨e, hp⟩ := D3 (P := P) (w := w) (vs := xs.toArray) (off := off) this
    rw [hp]
    have hv : l1 P t ((xs.drop off).take n) = xs[off] := by
      unfold l1
      rw [hu]
      cases u with
      | struct fs => exact absurd rfl (h1 fs)
      | _ => simp [List.getD, List.getElem?_take, h4, h3]
    rw [hv]
    simp [h3]
theorem zBW {P : Program} : ∀ (d : Nat) (t : TypeId) (xs ys : List Value) (r : Bool), eqV P d t xs ys = some r → ∀ (dd : Nat) (w : World), (Op.equalIn (dd + d) t (l1 P t xs) (l1 P t ys)).run P w = .ok r w
 | 0, t, xs, ys, r, h, _, _ => by simp [eqV] at h
 | d + 1, t, xs, ys, r, h, dd, w => by
  unfold eqV at h
  split at h
  ·rename_i k0 k a k' b hu
   split at h
   ·rename_i hk; subst hk
    cases h
    have e : ∀ v : Value, l1 P t [v] = v := fun v => by simp [l1, hu]
    rw [e, e]
    exact run_equalIn_int w (dd + d) t k k0 a b hu
   ·cases h
  ·rename_i a b hu
   cases h
   have e : ∀ v : Value, l1 P t [v] = v := fun v => by simp [l1, hu]
   rw [e, e]
   exact run_equalIn_bool' w (dd + d) t a b hu
  ·rename_i a b hu
   cases h
   have e : ∀ v : Value, l1 P t [v] = v := fun v => by simp [l1, hu]
   rw [e, e, beq_toListBytes]
   exact run_equalIn_string w (dd + d) t a b hu
  ·rename_i xs ys _ _ _ fs hu
   split at h
   ·cases h
   ·rename_i hst
    have hf : P.fieldsOf t = fs := by unfold Program.fieldsOf; rw [hu]
    have hv : ∀ zs : List Value, l1 P t zs = .agg zs.toArray := fun zs => by simp [l1, hu]
    rw [hv, hv, show dd + (d + 1) = (dd + d) + 1 from rfl, run_equalIn_struct w (dd + d) t _ _ (by rw [hf]; exact hu) (by simpa using hst), hf]
    generalize fs.toList = l at h
    clear hf hu
    induction l generalizing r with
    | nil => simp at h; subst h; simp [Op.eqFields]
    | cons f l ih =>
     simp only [List.foldr_cons] at h
     split at h
     ·cases h
     ·rename_i hn
      cases hs : sizeT P f.type with
      | none => rw [hs] at h; cases h
      | some n =>
       rw [hs] at h
       simp only at h
       split at h
       ·rename_i hfit
        cases hr : eqV P d f.type ((xs.drop f.offset).take n) ((ys.drop f.offset).take n) with
        | none => rw [hr] at h; cases h
        | some r1 =>
         rw [hr] at h
         have hpart : ∀ zs : List Value, f.offset + n ≤ zs.length → (part f.type zs.toArray f.offset).run P w = .ok (l1 P f.type ((zs.drop f.offset).take n)) w := fun zs hz => by
          have hd : d ≠ 0 := fun e => by subst e; simp [eqV] at hr
          obtain ⟨d', rfl⟩ := Nat.exists_eq_succ_of_ne_zero hd
          unfold eqV at hr
          have h1 : ∀ {v : Value} {l : List Value}, l = [v] → l = (xs.drop f.offset).take n → 0 < n := fun {v l} e1 e2 => by
           rcases Nat.eq_zero_or_pos n with h0 | h0
           ·subst h0; rw [e1] at e2; simp at e2
           ·exact h0
          split at hr
          ·rename_i hu' hx _; have := h1 rfl hx.symm; exact F7 hu' hs (.inr ⟨fun _ => by simp, fun _ _ => by simp, by omega, this⟩)
          ·rename_i hu' hx _; have := h1 rfl hx.symm; exact F7 hu' hs (.inr ⟨fun _ => by simp, fun _ _ => by simp, by omega, this⟩)
          ·rename_i hu' hx _; have := h1 rfl hx.symm; exact F7 hu' hs (.inr ⟨fun _ => by simp, fun _ _ => by simp, by omega, this⟩)
          ·rename_i hu'; exact F7 hu' hs (.inl ⟨_, rfl⟩)
          ·cases hr
         have IH := zBW d f.type _ _ _ hr dd w
         simp only [Op.eqFields, ne_eq, hn, not_false_eq_true, if_true, Sem.run_bind, hpart xs hfit.1, hpart ys hfit.2, Result.andThen_ok, IH]
         cases r1 with
         | false => simp [andO] at h; subst h; simp
         | true =>
          simp [andO] at h
          simpa using ih r h
       ·cases h
  ·cases h
theorem zDl {P : Program} {t d : Nat} {xs ys : List Value} {r : Bool} {fs : Array Field} (hd : d ≤ 10000) (hu : P.underlying t = some (.struct fs)) (hg : P.eqGuardType P.depth t = false) (h : eqV P d t xs ys = some r) : M8 P t xs ys r := by
 intro x y w
 have hv : ∀ zs : List Value, l1 P t zs = .agg zs.toArray := fun zs => by simp [l1, hu]
 have key := zBW d t xs ys r h (10000 - d) w
 rw [hv, hv, show 10000 - d + d = 10000 by omega] at key
 refine ⟨?_, ?_⟩
 ·rw [Sem.run_bind, run_eqGuard_agg w .eql t x y _ _ hg, Result.andThen_ok, run_eql_struct, key]; rfl
 ·rw [Sem.run_bind, run_eqGuard_agg w .neq t x y _ _ hg, Result.andThen_ok, run_neq_struct, key]; rfl
def zMu (P : Program) (t : TypeId) : Bool := I9 P t && !(P.eqGuardType P.depth t)
theorem eqC_V {P : Program} {t : Nat} {xs ys : List Value} {r : Bool} (ht : zMu P t = true) (h : eqV P 5 t xs ys = some r) : eqC P t xs ys = some r := by
 unfold zMu I9 at ht
 simp only [Bool.and_eq_true, Bool.not_eq_true'] at ht
 obtain ⟨h1, h2⟩ := ht
 split at h1
 ·rename_i fs hu
  exact zEb (zDl (by omega) hu h2 h)
 ·cases h1
end Go.Abs

namespace Go.Abs
open Go
abbrev FR (l : Nat) : Fence := Fence.wide.inRound l
theorem zD6 {l n : Nat} {P : Program} {f : FuncId} {args : Array Value} {w : World} {R : Ending → World → Prop} (h : Calls P f args w R) : CallsIn (FR l) n P f args w R :=
 CallsIn.inRound l (callsIn_wide.2 h)
theorem zGs {l n : Nat} {P : Program} {row : String} {args : Array Value} {w : World} {R : Value → World → Prop} (h : Rows P row args w R) : RowsIn (FR l) n P row args w R :=
 fun c cs _ => let ⟨v, w', r, s⟩ := h c cs; ⟨v, w', r, stepsIn_wide.2 s⟩
theorem zGt {n : Nat} {P : Program} {row : String} {args : Array Value} {w : World} {R : Value → World → Prop} (h : Rows P row args w R) : RowsIn Fence.wide n P row args w R :=
 fun c cs _ => let ⟨v, w', r, s⟩ := h c cs; ⟨v, w', r, stepsIn_wide.2 s⟩
theorem zIQ {P : Program} {o : Oper} {a : Act} {next : Act → World → Prop} {Q : Exit → Act → World → Prop} {x : Result Next} (h : o.upon P a next Q x) : o.uponIn Fence.wide 0 P a next Q x := by
  cases x with
  | ok x w' => cases x <;> first
      | exact h
      | exact h.elim
      | exact ⟨fun h => by simp [Fence.wide] at h, callsIn_wide.2 h⟩
      | exact ⟨fun h => by simp [Fence.wide] at h, zGt h⟩
  | halt x w' => cases x <;> first | exact h | exact h.elim
theorem zIP {l : Nat} {P : Program} {o : Oper} {a : Act} {next : Act → World → Prop} {Q : Exit → Act → World → Prop} {x : Result Next} (h : o.upon P a next Q x) : o.uponIn (FR l) 0 P a next Q x := by
  cases x with
  | ok x w' => cases x <;> first
      | exact h
      | exact h.elim
      | exact ⟨fun h => by simp [FR, Fence.wide] at h, zD6 h⟩
      | exact ⟨fun h => by simp [FR, Fence.wide] at h, zGs h⟩
  | halt x w' => cases x <;> first | exact h | exact h.elim
theorem zEf {P : Program} {o : Oper} {ev : Operand → AV} {H : Nat → AObj} {nx : Nat} {K : Cont} (h : zL4 P o ev H nx K) : ∀ c, o.op ≠ .defer c := by
 intro c e
 unfold zL4 at h
 rw [e] at h
 exact h
theorem zM4 {P : Program} {o : Oper} {a : Act} {w : World} {next : Act → World → Prop} {Q : Exit → Act → World → Prop} (h : o.wp P a w next Q) : o.wpIn Fence.wide 0 P a w next Q :=
 ⟨fun _ _ => trivial, by rw [Fence.wide_round, Oper.semAt_none]; exact zIQ h⟩
theorem zIU {l : Nat} {P : Program} {o : Oper} {a : Act} {w : World} {next : Act → World → Prop} {Q : Exit → Act → World → Prop} (hd : ∀ c, o.op ≠ .defer c) (h : o.wp P a w next Q) : o.wpIn (FR l) 0 P a w next Q :=
 ⟨fun _ _ => trivial, by rw [Oper.semAt_eq _ _ _ hd]; exact zIP h⟩
section
variable {P : Program} {E : Env}
theorem zAh {l : Nat} {all : List Oper} {K : AS → List Touch → Prop} {Q : Exit → Act → World → Prop} (hK : ∀ σ ts a w, K σ ts → St E σ a w → Q .normal a w) :
  ∀ (ops : List Oper) (σ : AS) (ts : List Touch) (a : Act) (w : World), y6 P all K ops σ ts → St E σ a w → wpListIn (FR l) 0 P all.toArray Q ops a w
 | [], σ, ts, a, w, h, hs => hK σ ts a w h hs
 | o :: rest, σ, ts, a, w, h, ⟨I, loc, hs⟩ => by
  unfold wpListIn
  rcases K4 hs h with ⟨hw, hd, he⟩ | ⟨hw, hd, hr⟩
  ·rw [if_pos hw]
   exact zIU (zEf he) (H6 hs he (fun d e => by rw [e] at hd; exact hd) (fun v rd wr a' w' hk hst => zAh hK rest _ _ a' w' hk hst))
  ·rw [hw, if_neg (by simp)]
   exact ⟨fun _ _ => trivial, zAh hK rest _ _ _ _ hr ⟨I, loc, hs.putD U8 (fun d e => by rw [e] at hd; exact hd)⟩⟩
theorem E8 {all : List Oper} {K : AS → List Touch → Prop} {Q : Exit → Act → World → Prop} {post : List Oper} (hK : ∀ σ ts a w, K σ ts → St E σ a w → wpListIn Fence.wide 0 P all.toArray Q post a w) :
  ∀ (ops : List Oper) (σ : AS) (ts : List Touch) (a : Act) (w : World), y6 P all K ops σ ts → St E σ a w → wpListIn Fence.wide 0 P all.toArray Q (ops ++ post) a w
 | [], σ, ts, a, w, h, hs => hK σ ts a w h hs
 | o :: rest, σ, ts, a, w, h, ⟨I, loc, hs⟩ => by
  rw [List.cons_append]
  unfold wpListIn
  rcases K4 hs h with ⟨hw, hd, he⟩ | ⟨hw, hd, hr⟩
  ·rw [if_pos hw]
   exact zM4 (H6 hs he (fun d e => by rw [e] at hd; exact hd) (fun v rd wr a' w' hk hst => E8 hK rest _ _ a' w' hk hst))
  ·rw [hw, if_neg (by simp)]
   exact ⟨fun _ _ => trivial, E8 hK rest _ _ _ _ hr ⟨I, loc, hs.putD U8 (fun d e => by rw [e] at hd; exact hd)⟩⟩
def HoldR (l : Nat) (P : Program) (E : Env) (c : Code) (Q : Exit → AS → Prop) (σ : AS) : Prop := ∀ a w, St E σ a w → c.wpIn (FR l) 0 P (zMP E Q) a w
end
section
variable {l : Nat} {P : Program} {E : Env} {Q : Exit → AS → Prop} {σ : AS}
theorem HoldR.mono {c : Code} {Q' : Exit → AS → Prop} (h : HoldR l P E c Q σ) (hq : ∀ e σ, Q e σ → Q' e σ) : HoldR l P E c Q' σ :=
 fun a w hs => wpIn_mono (h a w hs) (fun e _ _ ⟨σ', h1, h2⟩ => ⟨σ', hq e σ' h1, h2⟩)
theorem zFZ {id : Nat} {c : Code} (h : HoldR l P E c (z7 id Q) σ) : HoldR l P E (.block id c) Q σ := fun a w hs =>
 wpIn_block (wpIn_mono (h a w hs) (fun e a w ⟨σ', h1, h2⟩ => by
  cases e with
  | exit j =>
   simp only [z7] at h1
   simp only [Exit.inBlock]
   split
   ·rename_i hj; rw [if_pos hj] at h1; exact ⟨σ', h1, h2⟩
   ·rename_i hj; rw [if_neg hj] at h1; exact ⟨σ', h1, h2⟩
  | _ => exact ⟨σ', h1, h2⟩))
theorem zFa {id : Nat} {ops : List Oper} (h : y6 P ops (fun σ' _ => Q .normal σ') ops σ []) : HoldR l P E (.region id ops.toArray false) Q σ := fun a w hs =>
 wpIn_region_list (zAh (fun σ' _ a' w' h1 h2 => ⟨σ', h1, h2⟩) ops σ [] a w h hs)
end
def E3 (tmps : Array Value) (ps : Array Tmp) (vs : Array Value) : Array Value := (ps.zip vs).foldl (fun tmps (t, a) => tmps.setIfInBounds t a) tmps
def roundC (P : Program) (loc : Nat → Loc) (vs : Array Value) (w : World) (R : Ending → World → Prop) : Prop :=
 ∃ l c r, loc 0 = .blk l c ∧ w.heap[l]? = some (.loop r) ∧ vs.size = r.params.size ∧ RoundIn Fence.wide 0 P l r.fn (E3 r.tmps r.params vs) r.assign r.body w R
theorem roundC.mono {P : Program} (loc : Nat → Loc) (vs : Array Value) (w : World) (R R' : Ending → World → Prop) (h : ∀ e w', R e w' → R' e w') (hc : roundC P loc vs w R) : roundC P loc vs w R' :=
 let ⟨l, c, r, h1, h2, h3, h4⟩ := hc
 ⟨l, c, r, h1, h2, h3, h4.mono h⟩
def B2 (P : Program) (args : List AV) (fp : List AObj) (r : AV) (out : List AObj) : Prop := zA9 (roundC P) args fp r out
def U1 (env : List (Nat × AV)) : List Tmp → List AV → List (Nat × AV)
 | t :: ts, x :: xs => U1 ((t, x) :: env) ts xs
 | _, _ => env
theorem zCi {w : World} {I : Nat → Prop} {loc : Nat → Loc} {n : Nat} : ∀ (ts : List Tmp) (xs : List AV) (vs : List Value) (env : List (Nat × AV)) (tmps : Array Value), tmps.size = n → (∀ t, t ∈ ts → t < n) → (∀ t, VR w I loc (lkV env t) (tmps.getD t undef)) →
  xs.length = vs.length → (∀ i (h : i < xs.length) (h' : i < vs.length), VR w I loc xs[i] vs[i]) →
  ((ts.zip vs).foldl (fun tmps (p : Tmp × Value) => tmps.setIfInBounds p.1 p.2) tmps).size = n ∧ ∀ t, VR w I loc (lkV (U1 env ts xs) t) (((ts.zip vs).foldl (fun tmps (p : Tmp × Value) => tmps.setIfInBounds p.1 p.2) tmps).getD t undef)
 | [], xs, vs, env, tmps, hn, _, he, _, _ => by
  refine ⟨by simpa using hn, fun t => ?_⟩
  have : U1 env [] xs = env := by cases xs <;> rfl
  rw [this]; simpa using he t
 | t :: ts, [], [], env, tmps, hn, _, he, _, _ => ⟨by simpa using hn, fun t => by simpa [U1] using he t⟩
 | t :: ts, x :: xs, v :: vs, env, tmps, hn, ht, he, hl, hx => by
  have h0 : t < n := ht t (by simp)
  simp only [List.zip_cons_cons, List.foldl_cons, U1]
  refine zCi ts xs vs ((t, x) :: env) (tmps.setIfInBounds t v) (by simpa using hn) (fun u hu => ht u (by simp [hu])) (fun u => ?_) (by simpa using hl) (fun i h h' => by have := hx (i + 1) (by simpa using h) (by simpa using h'); simp only [List.getElem_cons_succ] at this; exact this)
  simp only [lkV]
  by_cases e : t = u
  ·subst e
   rw [if_pos rfl]
   have : (tmps.setIfInBounds t v).getD t undef = v := by
    have ht' : t < tmps.size := by rw [hn]; exact h0
    simp [ht']
   rw [this]
   have := hx 0 (by simp) (by simp)
   simp only [List.getElem_cons_zero] at this
   exact this
  ·rw [if_neg e]
   have : (tmps.setIfInBounds t v).getD u undef = tmps.getD u undef := by simp [Array.getElem?_setIfInBounds, e]
   rw [this]; exact he u
 | t :: ts, [], v :: vs, _, _, _, _, _, h, _ => by simp at h
 | t :: ts, x :: xs, [], _, _, _, _, _, h, _ => by simp at h
def zM3 : Exit → Option (Option Code)
 | .normal => some none
 | .ret => some (some .ret)
 | .exit id => some (some (.exit id))
 | .goto t => some (some (.goto t))
 | _ => none
def X3 : Option (Option Code) → LoopState
 | none => .busy
 | some none => .ready
 | some (some _) => .done
theorem or_loop {w : World} {I : Nat → Prop} {loc : Nat → Loc} {o : Nat} {L : LoopK} {env : List (Nat × AV)} {p : Option (Option Code)} :
  OR w I loc o (.loopo L env p) ↔ ∃ b tmps ds, loc o = .blk b 0 ∧ w.heap[b]? = some (.loop { state := X3 p, pending := p.getD none, fn := L.fn, tmps := tmps, params := L.params, assign := L.assign, body := L.body, defers := ds }) ∧ tmps.size = L.n ∧ ∀ t, VR w I loc (lkV env t) (tmps.getD t undef) := by
 cases p with
 | none => exact Iff.rfl
 | some q => cases q <;> exact Iff.rfl
theorem SR.loopSet {E : Env} {I : Nat → Prop} {loc : Nat → Loc} {σ : AS} {a : Act} {w : World} (h : SR E I loc σ a w) {o : Nat} {L : LoopK} {env : List (Nat × AV)} {p : Option (Option Code)} (ho : σ.obj o = .loopo L env p) (p' : Option (Option Code)) :
  ∃ b r, loc o = .blk b 0 ∧ w.heap[b]? = some (.loop r) ∧ r.fn = L.fn ∧ r.params = L.params ∧ r.assign = L.assign ∧ r.body = L.body ∧ r.state = X3 p ∧ r.pending = p.getD none ∧
   r.tmps.size = L.n ∧ (∀ t, VR w I loc (lkV env t) (r.tmps.getD t undef)) ∧
   SR E I loc (σ.setO o (.loopo L env p')) a (w.putObj b (.loop { r with state := X3 p', pending := p'.getD none })) := by
 have hob := h.objs o
 rw [ho] at hob
 obtain ⟨b, tmps, ds, h1, h2, h3, h4⟩ := or_loop.1 hob
 have hb : b < w.heap.size := (Array.getElem?_eq_some_iff.1 h2).1
 have hsep := (h.sep o b 0 (by rw [ho]; rfl) h1).1
 refine ⟨b, _, h1, h2, rfl, rfl, rfl, rfl, rfl, rfl, h3, h4, ?_⟩
 refine h.writeG (w' := w.putObj b (.loop { state := X3 p', pending := p'.getD none, fn := L.fn, tmps := tmps, params := L.params, assign := L.assign, body := L.body, defers := ds })) (A := .loopo L env p') (by rw [ho]; rfl) h1 rfl rfl rfl (by simp) (fun k hk => T8 hk) ?_ (by simp)
 refine or_loop.2 ⟨b, tmps, ds, h1, World.putObj_heap_same hb, h3, fun t => (h4 t).mono (fun k hk => T8 (r := b) (fun e => hsep (by rw [← e]; exact hk))) (fun _ x => x) (fun _ _ => rfl)⟩
def zM2 (n : Nat) (r : AV) (out : List AObj) (σ : AS) : Prop :=
 ∃ m ex, XpF σ.obj m ex r r ∧ objsF σ m ex out m ∧ Q8 (V6 out m) = true ∧ ex.all (fun o => !m.contains (some o)) = true ∧ (List.range n).all (fun k => m[k]? == some (some k)) = true
theorem zIg {P : Program} {L : LoopK} {env : List (Nat × AV)} {rest : List AObj} {args : List AV} {out : List AObj} {j : Option Code} (hp : L.params.toList.all (fun t => decide (t < L.n)) = true) (hl : args.length = L.params.size)
  (h : ∀ E l, E.n = rest.length + 1 → HoldR l P E L.assign (fun e σ1 => e = .normal ∧ σ1.obj 0 = .loopo L env (some none) ∧ HoldR l P E L.body (fun e σ2 => σ2.obj 0 = .loopo L env none ∧ zM3 e = some j ∧ zM2 (rest.length + 1) (.raw (.bool j.isNone)) out (σ2.setO 0 (.loopo L env (some j))))
   (σ1.setO 0 (.loopo L env none))) ⟨L.n, U1 env L.params.toList args, zLy 0 (.loopo L env (some none) :: rest)⟩) : B2 P args (.loopo L env (some none) :: rest) (.raw (.bool j.isNone)) out := by
 intro w I loc vs hs hvl hv
 have hb0 : (Go.Abs.hs (.loopo L env (some none) :: rest)).obj 0 = .loopo L env (some none) := by rw [Y9]; rfl
 obtain ⟨b, r, g1, g2, g3, g4, g5, g6, g7, g8, g9, g10, _⟩ := hs.loopSet hb0 none
 have hsz : vs.size = r.params.size := by rw [g4, hvl, hl]
 refine ⟨b, 0, r, g1, g2, hsz, ?_⟩
 have hpt : ∀ t, t ∈ L.params.toList → t < L.n := fun t ht => by
  rw [List.all_eq_true] at hp
  have := hp t ht
  simpa using this
 obtain ⟨q1, q2⟩ := zCi (w := w) (I := I) (loc := loc) L.params.toList args vs.toList env r.tmps g9 hpt g10 (by simpa using hvl.symm) (fun i h h' => by have := hv i h (by simpa using h'); simpa using this)
 have hfold : E3 r.tmps r.params vs = (L.params.toList.zip vs.toList).foldl (fun tmps (p : Tmp × Value) => tmps.setIfInBounds p.1 p.2) r.tmps := by
  unfold E3
  rw [g4, ← Array.foldl_toList, Array.toList_zip]
 rw [hfold]
 have hst : SR (Y7 w I (rest.length + 1) loc) I loc ⟨L.n, U1 env L.params.toList args, zLy 0 (.loopo L env (some none) :: rest)⟩ { tmps := (L.params.toList.zip vs.toList).foldl (fun tmps (p : Tmp × Value) => tmps.setIfInBounds p.1 p.2) r.tmps, defers := [] } w :=
  ⟨.nil, q1, q2, hs.objs, hs.inj, hs.imm, hs.sep, hs.fr, hs.base, hs.top, hs.keep⟩
 have hrun := h (Y7 w I (rest.length + 1) loc) b rfl _ w ⟨I, loc, hst⟩
 rw [g5, g6]
 refine roundIn_of_wpIn trivial (wpIn_mono hrun ?_)
 rintro e a1 w1 ⟨σ1, ⟨rfl, k1, k2⟩, I1, loc1, hs1⟩
 obtain ⟨b1, r1, m1, m2, m3, m4, m5, m6, m7, m8, m9, m10, m11⟩ := hs1.loopSet k1 none
 have hb1 : b1 = b := by
  have : loc1 0 = loc 0 := (hs1.keep 0 (Nat.succ_pos _)).1
  rw [m1, g1] at this; cases this; rfl
 subst hb1
 refine ⟨_, run_beginRound m2 (by rw [m7]; rfl), ?_⟩
 have hw : w1.putObj b1 (.loop { r1 with state := .busy }) = w1.putObj b1 (.loop { r1 with state := X3 none, pending := Option.getD (none : Option (Option Code)) none }) := by
  have : r1.pending = none := m8
  simp only [X3, Option.getD_none, ← this]
 rw [hw]
 refine wpIn_mono (k2 a1 _ ⟨I1, loc1, m11⟩) ?_
 rintro e a2 w2 ⟨σ2, ⟨k3, k4, m, ex, t1, t2, t3, t4, t5⟩, I2, loc2, hs2⟩
 obtain ⟨b2, r2, n1, n2, n3, n4, n5, n6, n7, n8, n9, n10, n11⟩ := hs2.loopSet k3 (some j)
 have hb2 : b2 = b1 := by
  have : loc2 0 = loc 0 := (hs2.keep 0 (Nat.succ_pos _)).1
  rw [n1, g1] at this; cases this; rfl
 subst hb2
 have hend : (Instr.endRound b2 j).run P w2 = .ok (.bool j.isNone) (w2.putObj b2 (.loop { r2 with state := X3 (some j), pending := (some j).getD none })) := by
  rw [run_endRound j n2]
  cases j <;> rfl
 have hweak : Weak (rest.length + 1) m ex (σ2.setO 0 (.loopo L env (some j))) σ2.n [] out := ⟨rfl, trivial, t2, t3, t4, t5⟩
 have hsr := WK.sound n11 hweak.wk.1 rfl hweak.wk.2
 have hval := Xp.sound n11 (XpF.sound t1) (.pure (.raw (.bool j.isNone) rfl))
 have hlen : rest.length + 1 ≤ out.length := by
  have h7 := (t2.sound).1
  rw [List.all_eq_true] at t5
  have := t5 rest.length (by simp)
  have hm : m[rest.length]? = some (some rest.length) := by simpa using this
  have := (List.getElem?_eq_some_iff.1 hm).1
  omega
 have hR : ∃ v I' loc', Ending.returned (.bool j.isNone) = .returned v ∧ Post w I loc (rest.length + 1) (.raw (.bool j.isNone)) out v (w2.putObj b2 (.loop { r2 with state := X3 (some j), pending := (some j).getD none })) I' loc' := ⟨_, _, _, rfl, ⟨hsr.bare, hval, hlen⟩⟩
 cases e with
 | normal => cases k4; exact ⟨_, _, hend, hR⟩
 | ret => cases k4; exact ⟨_, _, hend, hR⟩
 | exit id => cases k4; exact ⟨_, _, hend, hR⟩
 | goto t => cases k4; exact ⟨_, _, hend, hR⟩
 | panic c => cases k4
 | outgrown => cases k4
end Go.Abs

namespace Go.Abs
open Go
def C6 (P : Program) (y : AV) (avs : List AV) (H : Nat → AObj) (nx : Nat) (K : Cont) : Prop :=
 ∃ oid ids ex args fp r out, y = .yld oid ∧ ids.head? = some oid ∧ MetX (roundC P) avs H nx ids ex args fp r out ∧ K (r.ren (v7 ids nx)) (ids ++ ex ++ i4 ids nx out) (r6 ids nx out)
section
variable {P : Program} {E : Env} {I : Nat → Prop} {loc : Nat → Loc} {σ : AS} {a : Act} {w : World}
theorem zIe (hs : SR E I loc σ a w) {o : Oper} {fo : Operand} {args : Array Operand} {ts : Array TypeId} (hop : o.op = .call ⟨.value fo, args, ts⟩) {nx : Nat} {K : Cont}
  (h : C6 P (σ.ev fo) (args.toList.map σ.ev) σ.obj nx K) (hd : ∀ d, o.dst = some d → d < σ.n) {next : Act → World → Prop} {Q : Exit → Act → World → Prop}
  (hn : ∀ v rd wr a' w', K v rd wr → St E ((σ.writes wr).putD o.dst v) a' w' → next a' w') : o.wpIn Fence.wide 0 P a w next Q := by
 obtain ⟨oid, ids, ex, args', fp, r, out, hy, hh, hm, hK⟩ := h
 obtain ⟨g1, g2⟩ := P7 hs args
 have hfo := hs.ev fo
 rw [hy] at hfo
 generalize hfv : a.eval fo = fv at hfo
 obtain ⟨l, c, lp, h1, h2, h3, h4⟩ := zBK (C := roundC P) roundC.mono hs g1 g2 hm
 cases hfo with
 | pure hp => cases hp
 | yld _ b c' hb =>
  have h0 : zLx (p5 ids) loc 0 = loc oid := by
   cases ids with
   | nil => simp at hh
   | cons i r => simp at hh; subst hh; simp [zLx, p5]
  rw [h0, hb] at h1
  cases h1
  refine ⟨fun _ _ => trivial, ?_⟩
  rw [Fence.wide_round, Oper.semAt_none]
  have hrun : (execOp a.eval o).run P w = .ok (.round l lp.fn (E3 lp.tmps lp.params (args.map a.eval)) lp.assign lp.body) w := by
   simp only [execOp, hop, resolve, hfv, Deferred.ofValue, Sem.run_bind, Sem.run_pure, Result.andThen_ok, invoke, Array.empty_append]
   exact run_yield h2 h3
  rw [hrun, Oper.uponIn_round]
  refine ⟨fun h => by simp [Fence.wide] at h, h4.mono ?_⟩
  rintro e w' ⟨v, I', loc', rfl, hsr, hvr, _⟩
  exact hn _ _ _ _ _ hK ⟨I', loc', hsr.putD hvr (fun d e => by rw [(e7 _ σ).1]; exact hd d e)⟩
theorem zFm {Q : Exit → AS → Prop} {id : Nat} {pre post : List Oper} {o : Oper} {fo : Operand} {args : Array Operand} {ts : Array TypeId} (hop : o.op = .call ⟨.value fo, args, ts⟩)
  (h : y6 P (pre ++ o :: post) (fun σ1 _ => l8 (pre ++ o :: post) σ1 o
   ((match o.dst with | some d => ltN d σ1.n | none => True) ∧ C6 P (σ1.ev fo) (args.toList.map σ1.ev) σ1.obj σ1.nx (fun v _ wr => y6 P (pre ++ o :: post) (fun σ' _ => Q .normal σ') post ((σ1.writes wr).putD o.dst v) []))
   ((match o.dst with | some d => ltN d σ1.n | none => True) ∧ y6 P (pre ++ o :: post) (fun σ' _ => Q .normal σ') post (σ1.putD o.dst (.tup [])) [])) pre σ []) : Hold P E (.region id (pre ++ o :: post).toArray false) Q σ := fun a w hs => by
 refine wpIn_wide.1 (wpIn_region_list (n := 0) ?_)
 have tail : ∀ (ops : List Oper) (σ : AS) (a : Act) (w : World), y6 P (pre ++ o :: post) (fun σ' _ => Q .normal σ') ops σ [] → St E σ a w → wpListIn Fence.wide 0 P (pre ++ o :: post).toArray (zMP E Q) ops a w := fun ops σ a w h hs => by
  have := E8 (P := P) (E := E) (Q := zMP E Q) (post := []) (all := pre ++ o :: post) (fun σ' _ a' w' h1 h2 => (⟨σ', h1, h2⟩ : zMP E Q .normal a' w')) ops σ [] a w h hs
  simpa using this
 refine E8 (post := o :: post) ?_ pre σ [] a w h hs
 rintro σ1 ts1 a1 w1 hg ⟨I1, loc1, hs1⟩
 unfold wpListIn
 rcases K4 hs1 hg with ⟨hw, hd, he⟩ | ⟨hw, hd, hr⟩
 ·rw [if_pos hw]
  exact zIe hs1 hop he (fun d e => by rw [e] at hd; exact hd) (fun v rd wr a' w' hk hst => tail post _ a' w' hk hst)
 ·rw [hw, if_neg (by simp)]
  exact ⟨fun _ _ => trivial, tail post _ _ _ hr ⟨I1, loc1, hs1.putD U8 (fun d e => by rw [e] at hd; exact hd)⟩⟩
theorem SR.mark (h : SR E I loc σ a w) : SR E I loc σ { a with defers := { target := .collected w.heap.size, args := #[] } :: a.defers } (w.alloc (.deferred (some []))) := by
 have hI : ∀ b, I b → (w.alloc (.deferred (some []))).heap[b]? = w.heap[b]? := fun b hb => l5 _ _ _ (h.imm b hb)
 refine ⟨⟨?_, fun d hd => ?_⟩, h.size, fun t => (h.tmps t).mono hI (fun _ x => x) (fun _ _ => rfl), fun o => (h.objs o).mono hI (fun _ x => x) (fun _ _ => rfl) (fun e => h.un e) (fun hl b c hb => l5 _ _ _ ((h.objs o).lt hl hb)), h.inj, fun b hb => by have := h.imm b hb; simp; omega, h.sep, ?_, h.base, h.top, h.keep⟩
 ·simp only [List.map_cons, List.nodup_cons]
  refine ⟨fun hm => ?_, h.defers.1⟩
  obtain ⟨d, hd, e⟩ := List.mem_map.1 hm
  obtain ⟨r, rfl, h1, _⟩ := h.defers.2 d hd
  have := (Array.getElem?_eq_some_iff.1 h1).1
  simp at e; omega
 ·rcases List.mem_cons.1 hd with rfl | hd
  ·refine ⟨_, rfl, World.alloc_heap_new _ _, fun hi => by have := h.imm _ hi; omega, h.fr.size, fun o c hl e => ?_⟩
   have := (h.objs o).lt hl e; omega
  ·obtain ⟨r, rfl, h1, h2, h3, h4⟩ := h.defers.2 d hd
   have hr := (Array.getElem?_eq_some_iff.1 h1).1
   exact ⟨r, rfl, by rw [l5 _ _ _ hr]; exact h1, h2, h3, h4⟩
 ·exact h.fr.of_same rfl rfl rfl (by simp) (fun b hb _ => l5 _ _ _ (by have := h.fr.size; omega))
theorem zDn {x : AV} {v : Value} {caps : List AV} {vs : Array Value} (h0 : VR w I loc x v) (hl : caps.length = vs.size) (h : ∀ i (h : i < caps.length) (h' : i < vs.size), VR w I loc caps[i] vs[i]) :
  (x :: caps).length = (#[v] ++ vs).size ∧ ∀ i (h : i < (x :: caps).length) (h' : i < (#[v] ++ vs).size), VR w I loc (x :: caps)[i] (#[v] ++ vs)[i] := by
 refine ⟨by simp; omega, fun i h1 h2 => ?_⟩
 cases i with
 | zero =>
  have e : (#[v] ++ vs)[0] = v := by simp
  rw [e]; exact h0
 | succ i =>
  have hi : i < vs.size := by simp at h2; omega
  have e : (#[v] ++ vs)[i + 1] = vs[i] := by simp [Array.getElem_append]
  rw [e]; exact h i (by simpa using h1) hi
def zCk (P : Program) (E : Env) (Q : Exit → AS → Prop) (nx : Nat) (σ : AS) : Prop :=
 ∃ L env p, σ.obj nx = .loopo L env (some p) ∧ (match p with
  | none => Q .normal (σ.setO nx .dead)
  | some c => Hold P E c Q (σ.setO nx .dead))
theorem zFh {Q : Exit → AS → Prop} {g : Operand} {ps : Array Tmp} {assign body : Code} {f : FuncId} {caps : List AV} (hg : σ.ev g = .fn f caps) (hc : p9 P f = true) {nx : Nat} (hnx : σ.obj nx = .unb)
  (h : ∀ fn, ∃ nx', x8 P f (.yld nx :: caps) (σ.setO nx (.loopo ⟨fn, ps, assign, body, σ.n⟩ σ.env (some none))).obj nx' (fun _ _ wr => zCk P E Q nx ((σ.setO nx (.loopo ⟨fn, ps, assign, body, σ.n⟩ σ.env (some none))).writes wr))) :
  Hold P E (.rangeFunc g ps assign body) Q σ := fun a w ⟨I, loc, hs⟩ => by
 refine wpIn_wide.1 (wpIn_rangeFunc (n := 0) (fun fn _ => ?_))
 obtain ⟨nx', hcall⟩ := h fn
 have hs1 := hs.mark
 have hor : OR ((w.alloc (.deferred (some []))).alloc (.loop { state := .ready, pending := none, fn, tmps := a.tmps, params := ps, assign, body, defers := w.heap.size })) I (y5 loc nx (.blk (w.alloc (.deferred (some []))).heap.size 0)) nx (.loopo ⟨fn, ps, assign, body, σ.n⟩ σ.env (some none)) := by
  refine or_loop.2 ⟨_, a.tmps, w.heap.size, by simp only [y5, if_true], World.alloc_heap_new _ _, hs.size, fun t => ?_⟩
  exact (hs1.tmps t).mono (fun b hb => l5 _ _ _ (hs1.imm b hb)) (fun _ x => x) (fun o ho => by
   unfold y5; rw [if_neg]; rintro rfl; exact ho (hs.un hnx))
 have hs2 := hs1.born hnx (.loop { state := .ready, pending := none, fn, tmps := a.tmps, params := ps, assign, body, defers := w.heap.size }) hor
 have hsz : (w.alloc (.deferred (some []))).heap.size = w.heap.size + 1 := by simp
 rw [hsz] at hs2
 have henter := run_enterLoop_outer (P := P) (w := w) fn a.tmps ps assign body
 generalize ((w.alloc (.deferred (some []))).alloc (.loop { state := .ready, pending := none, fn, tmps := a.tmps, params := ps, assign, body, defers := w.heap.size })) = W at hs2 henter
 have hgv := hs2.ev g
 have hge : (σ.setO nx (.loopo ⟨fn, ps, assign, body, σ.n⟩ σ.env (some none))).ev g = .fn f caps := by rw [← hg]; cases g <;> rfl
 rw [hge] at hgv
 have hev : (({ a with defers := { target := .collected w.heap.size, args := #[] } :: a.defers } : Act)).eval g = a.eval g := by cases g <;> rfl
 rw [hev] at hgv
 generalize hfv : a.eval g = fv at hgv
 cases hgv with
 | pure hp => cases hp
 | fn _ _ vs q1 q2 =>
  obtain ⟨z1, z2⟩ := zDn (x := .yld nx) (v := .func (.yield (w.heap.size + 1)) #[] #[]) (.yld _ _ 0 (by simp only [y5, if_true])) q1 q2
  obtain ⟨r, rd, wr, hK, hcl⟩ := zBJ (vs := #[.func (.yield (w.heap.size + 1)) #[] #[]] ++ vs) hs2 z1 z2 hcall
  refine ⟨w.heap.size + 1, [{ target := .collected w.heap.size, args := #[] }], W, { target := .fn (.func f) vs, args := #[.func (.yield (w.heap.size + 1)) #[] #[]] }, W, f, #[.func (.yield (w.heap.size + 1)) #[] #[]] ++ vs, W, ?_, ?_, fun _ _ => trivial, ?_, ?_, ?_⟩
  ·rw [Fence.wide_round]; exact henter
  ·simp only [resolve, rangeCall, hfv, Deferred.ofValue, Sem.run_pure]
   simp [Act.eval]
  ·simp only [invoke]
   exact zAj hc _
  ·intro h; simp [Fence.wide] at h
  ·refine callsIn_wide.2 (Calls.mono hcl ?_)
   rintro e w' ⟨v, I', loc', rfl, hsr, hvr, hkeep⟩
   obtain ⟨L, env, p, ho, hp⟩ := hK
   obtain ⟨b, rc, g1, g2, g3, g4, g5, g6, g7, g8, g9, g10, _⟩ := hsr.loopSet ho none
   have hb : b = w.heap.size + 1 := by
    have := hkeep nx (by simp [y5])
    rw [g1] at this
    simp only [y5, if_true] at this
    cases this; rfl
   subst hb
   refine ⟨rc.pending, _, run_endLoop g2 (by rw [g7]; cases p <;> simp [X3]), ?_⟩
   have hsr2 : SR E I' loc' ((((σ.setO nx (.loopo ⟨fn, ps, assign, body, σ.n⟩ σ.env (some none))).writes wr)).setO nx .dead) { a with defers := { target := .collected w.heap.size, args := #[] } :: a.defers } (w'.putObj (w.heap.size + 1) (.loop { rc with state := .exhausted })) :=
    hsr.writeG (w' := w'.putObj (w.heap.size + 1) (.loop { rc with state := .exhausted })) (by rw [ho]; rfl) g1 rfl rfl rfl (by simp) (fun k hk => T8 hk) trivial (by simp)
   generalize (w'.putObj (w.heap.size + 1) (.loop { rc with state := .exhausted })) = W' at hsr2 ⊢
   rw [g8]
   cases p with
   | none => exact ⟨_, hp, I', loc', hsr2⟩
   | some c => exact wpIn_wide.2 (hp _ _ ⟨I', loc', hsr2⟩)
end
end Go.Abs

namespace Go.Abs
open Go
attribute [go_sem] F4 F5
section
variable {H : Nat → AObj} {m : List (Option Nat)} {ex : List Nat} {f : Nat → Nat} {n : Nat}
@[go_sem] theorem zIy (k o : Nat) : XpF H m ex (.yld k) (.yld o) ↔ m[k]? = some (some o) := by simp only [XpF]
@[go_sem] theorem zLO (o : Nat) : AV.ren f (.yld o) = .yld (f o) := by simp only [AV.ren]
@[go_sem] theorem zJ3 (o : Nat) : zLq H (n + 1) (.yld o) = (.yld o, []) := rfl
end
section
variable {P : Program} {f : FuncId} {args : List AV} {fp : List AObj} {r : AV} {out : List AObj}
theorem zDo {w : World} {I : Nat → Prop} {loc : Nat → Loc} {v : Value} (h : VR w I loc (.list []) v) : ∃ a c, v = .slice a 0 c := by
 have hp := h.toPR (.list _)
 cases hp with
 | nil a c => exact ⟨a, c, rfl⟩
 | list b off cap sz _ C => exact ⟨_, _, rfl⟩
theorem zAy (h : ∀ a c, zLp P f (.raw (.slice a 0 c) :: args) fp r out) : zLp P f (.list [] :: args) fp r out := by
 intro w I loc vs hs hl hv
 have h0 : 0 < vs.size := by rw [hl]; simp
 have hv0 := hv 0 (by simp) h0
 simp only [List.getElem_cons_zero] at hv0
 obtain ⟨a, c, e⟩ := zDo hv0
 refine h a c w I loc vs hs (by simpa using hl) (fun i hi hi' => ?_)
 cases i with
 | zero => simp only [List.getElem_cons_zero]; rw [e]; exact .pure (.raw _ rfl)
 | succ i =>
  have := hv (i + 1) (by simpa using hi) hi'
  simp only [List.getElem_cons_succ] at this ⊢
  exact this
end
end Go.Abs

namespace Go.Proofs
@[go_sem] theorem Tryz.sz3 : Abs.sizeT prog 3 = some 1 := by kernel_rfl
@[go_sem] theorem Tryz.by3 : Abs.bytesT prog 3 = some 8 := by kernel_rfl
@[go_sem] theorem Tryz.ze3 : Abs.zeroT prog 3 = some (.int .i64 0) := by kernel_rfl
@[go_sem] theorem Tryz.sl22 : Abs.sliceT prog 22 = some 105 := by kernel_rfl
@[go_sem] theorem Tryz.sz24 : Abs.sizeT prog 24 = some 1 := by kernel_rfl
@[go_sem] theorem Tryz.by24 : Abs.bytesT prog 24 = some 24 := by kernel_rfl
@[go_sem] theorem Tryz.ze24 : Abs.zeroT prog 24 = some (.agg #[.slice none 0 0]) := by kernel_rfl
@[go_sem] theorem Tryz.sz26 : Abs.sizeT prog 26 = some 2 := by kernel_rfl
@[go_sem] theorem Tryz.by26 : Abs.bytesT prog 26 = some 16 := by kernel_rfl
@[go_sem] theorem Tryz.ze26 : Abs.zeroT prog 26 = some (.agg #[.int .i64 0, .int .i64 0]) := by kernel_rfl
@[go_sem] theorem Tryz.sz28 : Abs.sizeT prog 28 = some 7 := by kernel_rfl
@[go_sem] theorem Tryz.by28 : Abs.bytesT prog 28 = some 56 := by kernel_rfl
@[go_sem] theorem Tryz.ze28 : Abs.zeroT prog 28 = some (.agg #[.int .i64 0, .int .i64 0, .int .i64 0, .int .i64 0, .int .i64 0, .int .i64 0, .int .i64 0]) := by kernel_rfl
@[go_sem] theorem Tryz.sz29 : Abs.sizeT prog 29 = some 1 := by kernel_rfl
@[go_sem] theorem Tryz.by29 : Abs.bytesT prog 29 = some 24 := by kernel_rfl
@[go_sem] theorem Tryz.ze29 : Abs.zeroT prog 29 = some (.slice none 0 0) := by kernel_rfl
@[go_sem] theorem Tryz.sl29 : Abs.sliceT prog 29 = some 3 := by kernel_rfl
@[go_sem] theorem Tryz.sl35 : Abs.sliceT prog 35 = some 24 := by kernel_rfl
@[go_sem] theorem Tryz.sl37 : Abs.sliceT prog 37 = some 28 := by kernel_rfl
@[go_sem] theorem Tryz.sz50 : Abs.sizeT prog 50 = some 1 := by kernel_rfl
@[go_sem] theorem Tryz.by50 : Abs.bytesT prog 50 = some 24 := by kernel_rfl
@[go_sem] theorem Tryz.ze50 : Abs.zeroT prog 50 = some (.slice none 0 0) := by kernel_rfl
@[go_sem] theorem Tryz.sl50 : Abs.sliceT prog 50 = some 57 := by kernel_rfl
@[go_sem] theorem Tryz.sz57 : Abs.sizeT prog 57 = some 3 := by kernel_rfl
@[go_sem] theorem Tryz.by57 : Abs.bytesT prog 57 = some 24 := by kernel_rfl
@[go_sem] theorem Tryz.ze57 : Abs.zeroT prog 57 = some (.agg #[.int .i64 0, .int .i64 0, .int .i64 0]) := by kernel_rfl
@[go_sem] theorem Tryz.sl59 : Abs.sliceT prog 59 = some 135 := by kernel_rfl
@[go_sem] theorem Tryz.sl60 : Abs.sliceT prog 60 = some 72 := by kernel_rfl
@[go_sem] theorem Tryz.sz62 : Abs.sizeT prog 62 = some 3 := by kernel_rfl
@[go_sem] theorem Tryz.by62 : Abs.bytesT prog 62 = some 72 := by kernel_rfl
@[go_sem] theorem Tryz.ze62 : Abs.zeroT prog 62 = some (.agg #[.slice none 0 0, .slice none 0 0, .slice none 0 0]) := by kernel_rfl
@[go_sem] theorem Tryz.sl64 : Abs.sliceT prog 64 = some 29 := by kernel_rfl
@[go_sem] theorem Tryz.sz72 : Abs.sizeT prog 72 = some 6 := by kernel_rfl
@[go_sem] theorem Tryz.by72 : Abs.bytesT prog 72 = some 48 := by kernel_rfl
@[go_sem] theorem Tryz.ze72 : Abs.zeroT prog 72 = some (.agg #[.int .i64 0, .int .i64 0, .int .i64 0, .int .i64 0, .int .i64 0, .int .i64 0]) := by kernel_rfl
@[go_sem] theorem Tryz.sl75 : Abs.sliceT prog 75 = some 78 := by kernel_rfl
@[go_sem] theorem Tryz.sz78 : Abs.sizeT prog 78 = some 1 := by kernel_rfl
@[go_sem] theorem Tryz.by78 : Abs.bytesT prog 78 = some 24 := by kernel_rfl
@[go_sem] theorem Tryz.ze78 : Abs.zeroT prog 78 = some (.slice none 0 0) := by kernel_rfl
@[go_sem] theorem Tryz.sl78 : Abs.sliceT prog 78 = some 50 := by kernel_rfl
@[go_sem] theorem Tryz.sl87 : Abs.sliceT prog 87 = some 62 := by kernel_rfl
@[go_sem] theorem Tryz.sz105 : Abs.sizeT prog 105 = some 1 := by kernel_rfl
@[go_sem] theorem Tryz.by105 : Abs.bytesT prog 105 = some 24 := by kernel_rfl
@[go_sem] theorem Tryz.ze105 : Abs.zeroT prog 105 = some (.slice none 0 0) := by kernel_rfl
@[go_sem] theorem Tryz.sl105 : Abs.sliceT prog 105 = some 26 := by kernel_rfl
@[go_sem] theorem Tryz.sz135 : Abs.sizeT prog 135 = some 1 := by kernel_rfl
@[go_sem] theorem Tryz.by135 : Abs.bytesT prog 135 = some 24 := by kernel_rfl
@[go_sem] theorem Tryz.ze135 : Abs.zeroT prog 135 = some (.agg #[.slice none 0 0]) := by kernel_rfl
@[go_sem] theorem Tryz.sl137 : Abs.sliceT prog 137 = some 141 := by kernel_rfl
@[go_sem] theorem Tryz.sz141 : Abs.sizeT prog 141 = some 3 := by kernel_rfl
@[go_sem] theorem Tryz.by141 : Abs.bytesT prog 141 = some 56 := by kernel_rfl
@[go_sem] theorem Tryz.ze141 : Abs.zeroT prog 141 = some (.agg #[.slice none 0 0, .slice none 0 0, .map none]) := by kernel_rfl
@[go_sem] theorem Tryz.sl147 : Abs.sliceT prog 147 = some 149 := by kernel_rfl
@[go_sem] theorem Tryz.sz149 : Abs.sizeT prog 149 = some 6 := by kernel_rfl
@[go_sem] theorem Tryz.by149 : Abs.bytesT prog 149 = some 48 := by kernel_rfl
@[go_sem] theorem Tryz.ze149 : Abs.zeroT prog 149 = some (.agg #[.int .i64 0, .int .i64 0, .int .i64 0, .int .i64 0, .int .i64 0, .int .i64 0]) := by kernel_rfl
@[go_sem] theorem Tryz.sl151 : Abs.sliceT prog 151 = some 154 := by kernel_rfl
@[go_sem] theorem Tryz.sz154 : Abs.sizeT prog 154 = some 3 := by kernel_rfl
@[go_sem] theorem Tryz.by154 : Abs.bytesT prog 154 = some 72 := by kernel_rfl
@[go_sem] theorem Tryz.ze154 : Abs.zeroT prog 154 = some (.agg #[.slice none 0 0, .slice none 0 0, .slice none 0 0]) := by kernel_rfl
@[go_sem] theorem Tryz.ze186 : Abs.zeroT prog 186 = some (.agg #[.nilFunc, .nilFunc, .nilFunc, .nilFunc, .nilFunc, .nilFunc, .nilFunc, .nilFunc]) := by kernel_rfl
@[go_sem] theorem Tryz.ba186 (ps : List (Nat × Abs.AV)) (K : Abs.Cont) : Abs.buildA prog 186 ps K = Abs.baC (.agg #[.nilFunc, .nilFunc, .nilFunc, .nilFunc, .nilFunc, .nilFunc, .nilFunc, .nilFunc]) 1 ps K := Abs.buildA_array (e := 185) (n := 8) (by kernel_rfl) Tryz.ze186 (by kernel_rfl) ps K
@[go_sem] theorem Tryz.sz217 : Abs.sizeT prog 217 = some 1 := by kernel_rfl
@[go_sem] theorem Tryz.by217 : Abs.bytesT prog 217 = some 8 := by kernel_rfl
@[go_sem] theorem Tryz.ze217 : Abs.zeroT prog 217 = some (.nilFunc) := by kernel_rfl
@[go_sem] theorem Tryz.sl220 : Abs.sliceT prog 220 = some 217 := by kernel_rfl
@[go_sem] theorem Tryz.ze236 : Abs.zeroT prog 236 = some (.agg #[]) := by kernel_rfl
@[go_sem] theorem Tryz.ba236 (ps : List (Nat × Abs.AV)) (K : Abs.Cont) : Abs.buildA prog 236 ps K = Abs.baC (.agg #[]) 1 ps K := Abs.buildA_array (e := 16) (n := 0) (by kernel_rfl) Tryz.ze236 (by kernel_rfl) ps K
@[go_sem] theorem Tryz.ap22 (s x : Abs.AV) (H : Nat → Abs.AObj) (nx : Nat) (K : Abs.Cont) : Abs.appendA prog 22 s x H nx K = Abs.appC 24 s x H nx K := Abs.appendA_box Tryz.sl22 Tryz.sz105 Tryz.by105 Tryz.ze105 rfl rfl s x H nx K
@[go_sem] theorem Tryz.bs22 (n : Nat) (ps : List (Nat × Abs.AV)) (H : Nat → Abs.AObj) (nx : Nat) (K : Abs.Cont) : Abs.buildSliceA prog 22 n ps H nx K = Abs.bsC n ps H nx K := Abs.buildSliceA_box Tryz.sl22 Tryz.sz105 Tryz.ze105 rfl rfl n ps H nx K
@[go_sem] theorem Tryz.bs29 (n : Nat) (ps : List (Nat × Abs.AV)) (H : Nat → Abs.AObj) (nx : Nat) (K : Abs.Cont) : Abs.buildSliceA prog 29 n ps H nx K = Abs.bsR 1 n ps H nx K := Abs.buildSliceA_row Tryz.sl29 Tryz.sz3 Tryz.ze3 rfl (by decide) rfl n ps H nx K
@[go_sem] theorem Tryz.ap29 (s x : Abs.AV) (H : Nat → Abs.AObj) (nx : Nat) (K : Abs.Cont) : Abs.appendA prog 29 s x H nx K = Abs.appR 1 8 s x H nx K := Abs.appendA_row Tryz.sl29 Tryz.sz3 Tryz.by3 Tryz.ze3 rfl (by decide) rfl s x H nx K
@[go_sem] theorem Tryz.bs35 (n : Nat) (ps : List (Nat × Abs.AV)) (H : Nat → Abs.AObj) (nx : Nat) (K : Abs.Cont) : Abs.buildSliceA prog 35 n ps H nx K = Abs.bsR 1 n ps H nx K := Abs.buildSliceA_row Tryz.sl35 Tryz.sz24 Tryz.ze24 rfl (by decide) rfl n ps H nx K
@[go_sem] theorem Tryz.ap35 (s x : Abs.AV) (H : Nat → Abs.AObj) (nx : Nat) (K : Abs.Cont) : Abs.appendA prog 35 s x H nx K = Abs.appR 1 24 s x H nx K := Abs.appendA_row Tryz.sl35 Tryz.sz24 Tryz.by24 Tryz.ze24 rfl (by decide) rfl s x H nx K
@[go_sem] theorem Tryz.bs37 (n : Nat) (ps : List (Nat × Abs.AV)) (H : Nat → Abs.AObj) (nx : Nat) (K : Abs.Cont) : Abs.buildSliceA prog 37 n ps H nx K = Abs.bsR 7 n ps H nx K := Abs.buildSliceA_row Tryz.sl37 Tryz.sz28 Tryz.ze28 rfl (by decide) rfl n ps H nx K
@[go_sem] theorem Tryz.ap37 (s x : Abs.AV) (H : Nat → Abs.AObj) (nx : Nat) (K : Abs.Cont) : Abs.appendA prog 37 s x H nx K = Abs.appR 7 56 s x H nx K := Abs.appendA_row Tryz.sl37 Tryz.sz28 Tryz.by28 Tryz.ze28 rfl (by decide) rfl s x H nx K
@[go_sem] theorem Tryz.bs50 (n : Nat) (ps : List (Nat × Abs.AV)) (H : Nat → Abs.AObj) (nx : Nat) (K : Abs.Cont) : Abs.buildSliceA prog 50 n ps H nx K = Abs.bsR 3 n ps H nx K := Abs.buildSliceA_row Tryz.sl50 Tryz.sz57 Tryz.ze57 rfl (by decide) rfl n ps H nx K
@[go_sem] theorem Tryz.ap50 (s x : Abs.AV) (H : Nat → Abs.AObj) (nx : Nat) (K : Abs.Cont) : Abs.appendA prog 50 s x H nx K = Abs.appR 3 24 s x H nx K := Abs.appendA_row Tryz.sl50 Tryz.sz57 Tryz.by57 Tryz.ze57 rfl (by decide) rfl s x H nx K
@[go_sem] theorem Tryz.bs59 (n : Nat) (ps : List (Nat × Abs.AV)) (H : Nat → Abs.AObj) (nx : Nat) (K : Abs.Cont) : Abs.buildSliceA prog 59 n ps H nx K = Abs.bsR 1 n ps H nx K := Abs.buildSliceA_row Tryz.sl59 Tryz.sz135 Tryz.ze135 rfl (by decide) rfl n ps H nx K
@[go_sem] theorem Tryz.ap59 (s x : Abs.AV) (H : Nat → Abs.AObj) (nx : Nat) (K : Abs.Cont) : Abs.appendA prog 59 s x H nx K = Abs.appR 1 24 s x H nx K := Abs.appendA_row Tryz.sl59 Tryz.sz135 Tryz.by135 Tryz.ze135 rfl (by decide) rfl s x H nx K
@[go_sem] theorem Tryz.bs60 (n : Nat) (ps : List (Nat × Abs.AV)) (H : Nat → Abs.AObj) (nx : Nat) (K : Abs.Cont) : Abs.buildSliceA prog 60 n ps H nx K = Abs.bsR 6 n ps H nx K := Abs.buildSliceA_row Tryz.sl60 Tryz.sz72 Tryz.ze72 rfl (by decide) rfl n ps H nx K
@[go_sem] theorem Tryz.ap60 (s x : Abs.AV) (H : Nat → Abs.AObj) (nx : Nat) (K : Abs.Cont) : Abs.appendA prog 60 s x H nx K = Abs.appR 6 48 s x H nx K := Abs.appendA_row Tryz.sl60 Tryz.sz72 Tryz.by72 Tryz.ze72 rfl (by decide) rfl s x H nx K
@[go_sem] theorem Tryz.ap64 (s x : Abs.AV) (H : Nat → Abs.AObj) (nx : Nat) (K : Abs.Cont) : Abs.appendA prog 64 s x H nx K = Abs.appC 24 s x H nx K := Abs.appendA_box Tryz.sl64 Tryz.sz29 Tryz.by29 Tryz.ze29 rfl rfl s x H nx K
@[go_sem] theorem Tryz.bs64 (n : Nat) (ps : List (Nat × Abs.AV)) (H : Nat → Abs.AObj) (nx : Nat) (K : Abs.Cont) : Abs.buildSliceA prog 64 n ps H nx K = Abs.bsC n ps H nx K := Abs.buildSliceA_box Tryz.sl64 Tryz.sz29 Tryz.ze29 rfl rfl n ps H nx K
@[go_sem] theorem Tryz.ap75 (s x : Abs.AV) (H : Nat → Abs.AObj) (nx : Nat) (K : Abs.Cont) : Abs.appendA prog 75 s x H nx K = Abs.appC 24 s x H nx K := Abs.appendA_box Tryz.sl75 Tryz.sz78 Tryz.by78 Tryz.ze78 rfl rfl s x H nx K
@[go_sem] theorem Tryz.bs75 (n : Nat) (ps : List (Nat × Abs.AV)) (H : Nat → Abs.AObj) (nx : Nat) (K : Abs.Cont) : Abs.buildSliceA prog 75 n ps H nx K = Abs.bsC n ps H nx K := Abs.buildSliceA_box Tryz.sl75 Tryz.sz78 Tryz.ze78 rfl rfl n ps H nx K
@[go_sem] theorem Tryz.ap78 (s x : Abs.AV) (H : Nat → Abs.AObj) (nx : Nat) (K : Abs.Cont) : Abs.appendA prog 78 s x H nx K = Abs.appC 24 s x H nx K := Abs.appendA_box Tryz.sl78 Tryz.sz50 Tryz.by50 Tryz.ze50 rfl rfl s x H nx K
@[go_sem] theorem Tryz.bs78 (n : Nat) (ps : List (Nat × Abs.AV)) (H : Nat → Abs.AObj) (nx : Nat) (K : Abs.Cont) : Abs.buildSliceA prog 78 n ps H nx K = Abs.bsC n ps H nx K := Abs.buildSliceA_box Tryz.sl78 Tryz.sz50 Tryz.ze50 rfl rfl n ps H nx K
@[go_sem] theorem Tryz.bs87 (n : Nat) (ps : List (Nat × Abs.AV)) (H : Nat → Abs.AObj) (nx : Nat) (K : Abs.Cont) : Abs.buildSliceA prog 87 n ps H nx K = Abs.bsR 3 n ps H nx K := Abs.buildSliceA_row Tryz.sl87 Tryz.sz62 Tryz.ze62 rfl (by decide) rfl n ps H nx K
@[go_sem] theorem Tryz.ap87 (s x : Abs.AV) (H : Nat → Abs.AObj) (nx : Nat) (K : Abs.Cont) : Abs.appendA prog 87 s x H nx K = Abs.appR 3 72 s x H nx K := Abs.appendA_row Tryz.sl87 Tryz.sz62 Tryz.by62 Tryz.ze62 rfl (by decide) rfl s x H nx K
@[go_sem] theorem Tryz.bs105 (n : Nat) (ps : List (Nat × Abs.AV)) (H : Nat → Abs.AObj) (nx : Nat) (K : Abs.Cont) : Abs.buildSliceA prog 105 n ps H nx K = Abs.bsR 2 n ps H nx K := Abs.buildSliceA_row Tryz.sl105 Tryz.sz26 Tryz.ze26 rfl (by decide) rfl n ps H nx K
@[go_sem] theorem Tryz.ap105 (s x : Abs.AV) (H : Nat → Abs.AObj) (nx : Nat) (K : Abs.Cont) : Abs.appendA prog 105 s x H nx K = Abs.appR 2 16 s x H nx K := Abs.appendA_row Tryz.sl105 Tryz.sz26 Tryz.by26 Tryz.ze26 rfl (by decide) rfl s x H nx K
@[go_sem] theorem Tryz.bs137 (n : Nat) (ps : List (Nat × Abs.AV)) (H : Nat → Abs.AObj) (nx : Nat) (K : Abs.Cont) : Abs.buildSliceA prog 137 n ps H nx K = Abs.bsR 3 n ps H nx K := Abs.buildSliceA_row Tryz.sl137 Tryz.sz141 Tryz.ze141 rfl (by decide) rfl n ps H nx K
@[go_sem] theorem Tryz.ap137 (s x : Abs.AV) (H : Nat → Abs.AObj) (nx : Nat) (K : Abs.Cont) : Abs.appendA prog 137 s x H nx K = Abs.appR 3 56 s x H nx K := Abs.appendA_row Tryz.sl137 Tryz.sz141 Tryz.by141 Tryz.ze141 rfl (by decide) rfl s x H nx K
@[go_sem] theorem Tryz.bs147 (n : Nat) (ps : List (Nat × Abs.AV)) (H : Nat → Abs.AObj) (nx : Nat) (K : Abs.Cont) : Abs.buildSliceA prog 147 n ps H nx K = Abs.bsR 6 n ps H nx K := Abs.buildSliceA_row Tryz.sl147 Tryz.sz149 Tryz.ze149 rfl (by decide) rfl n ps H nx K
@[go_sem] theorem Tryz.ap147 (s x : Abs.AV) (H : Nat → Abs.AObj) (nx : Nat) (K : Abs.Cont) : Abs.appendA prog 147 s x H nx K = Abs.appR 6 48 s x H nx K := Abs.appendA_row Tryz.sl147 Tryz.sz149 Tryz.by149 Tryz.ze149 rfl (by decide) rfl s x H nx K
@[go_sem] theorem Tryz.bs151 (n : Nat) (ps : List (Nat × Abs.AV)) (H : Nat → Abs.AObj) (nx : Nat) (K : Abs.Cont) : Abs.buildSliceA prog 151 n ps H nx K = Abs.bsR 3 n ps H nx K := Abs.buildSliceA_row Tryz.sl151 Tryz.sz154 Tryz.ze154 rfl (by decide) rfl n ps H nx K
@[go_sem] theorem Tryz.ap151 (s x : Abs.AV) (H : Nat → Abs.AObj) (nx : Nat) (K : Abs.Cont) : Abs.appendA prog 151 s x H nx K = Abs.appR 3 72 s x H nx K := Abs.appendA_row Tryz.sl151 Tryz.sz154 Tryz.by154 Tryz.ze154 rfl (by decide) rfl s x H nx K
@[go_sem] theorem Tryz.bs220 (n : Nat) (ps : List (Nat × Abs.AV)) (H : Nat → Abs.AObj) (nx : Nat) (K : Abs.Cont) : Abs.buildSliceA prog 220 n ps H nx K = Abs.bsR 1 n ps H nx K := Abs.buildSliceA_row Tryz.sl220 Tryz.sz217 Tryz.ze217 rfl (by decide) rfl n ps H nx K
@[go_sem] theorem Tryz.ap220 (s x : Abs.AV) (H : Nat → Abs.AObj) (nx : Nat) (K : Abs.Cont) : Abs.appendA prog 220 s x H nx K = Abs.appR 1 8 s x H nx K := Abs.appendA_row Tryz.sl220 Tryz.sz217 Tryz.by217 Tryz.ze217 rfl (by decide) rfl s x H nx K
@[go_sem] theorem Tryz.eq7 (a0 b0 : Int) (a1 b1 : Int) (a2 b2 : Bool) (a3 b3 : Int) : Abs.eqC prog 7 [.int .i64 a0, .int .i64 a1, .bool a2, .int .u8 a3] [.int .i64 b0, .int .i64 b1, .bool b2, .int .u8 b3] = some (a0 == b0 && a1 == b1 && a2 == b2 && a3 == b3) := by
 refine Abs.eqC_V (by kernel_rfl) ?_
 have h : Abs.eqV prog 5 7 [.int .i64 a0, .int .i64 a1, .bool a2, .int .u8 a3] [.int .i64 b0, .int .i64 b1, .bool b2, .int .u8 b3] = Abs.andO (some (a0 == b0)) (Abs.andO (some (a1 == b1)) (Abs.andO (some (a2 == b2)) (Abs.andO (some (a3 == b3)) (some true)))) := by kernel_rfl
 rw [h]; generalize (a0 == b0) = x0; generalize (a1 == b1) = x1; generalize (a2 == b2) = x2; generalize (a3 == b3) = x3; revert x0 x1 x2 x3; decide
@[go_sem] theorem Tryz.eq8 (a0 b0 : Int) (a1 b1 : Int) (a2 b2 : Bool) (a3 b3 : Int) : Abs.eqC prog 8 [.int .i64 a0, .int .i64 a1, .bool a2, .int .u8 a3] [.int .i64 b0, .int .i64 b1, .bool b2, .int .u8 b3] = some (a0 == b0 && a1 == b1 && a2 == b2 && a3 == b3) := by
 refine Abs.eqC_V (by kernel_rfl) ?_
 have h : Abs.eqV prog 5 8 [.int .i64 a0, .int .i64 a1, .bool a2, .int .u8 a3] [.int .i64 b0, .int .i64 b1, .bool b2, .int .u8 b3] = Abs.andO (some (a0 == b0)) (Abs.andO (some (a1 == b1)) (Abs.andO (some (a2 == b2)) (Abs.andO (some (a3 == b3)) (some true)))) := by kernel_rfl
 rw [h]; generalize (a0 == b0) = x0; generalize (a1 == b1) = x1; generalize (a2 == b2) = x2; generalize (a3 == b3) = x3; revert x0 x1 x2 x3; decide
@[go_sem] theorem Tryz.eq25 (a0 b0 : Int) (a1 b1 : Int) : Abs.eqC prog 25 [.int .i64 a0, .int .i64 a1] [.int .i64 b0, .int .i64 b1] = some (a0 == b0 && a1 == b1) := by
 refine Abs.eqC_V (by kernel_rfl) ?_
 have h : Abs.eqV prog 5 25 [.int .i64 a0, .int .i64 a1] [.int .i64 b0, .int .i64 b1] = Abs.andO (some (a0 == b0)) (Abs.andO (some (a1 == b1)) (some true)) := by kernel_rfl
 rw [h]; generalize (a0 == b0) = x0; generalize (a1 == b1) = x1; revert x0 x1; decide
@[go_sem] theorem Tryz.eq26 (a0 b0 : Int) (a1 b1 : Int) : Abs.eqC prog 26 [.int .i64 a0, .int .i64 a1] [.int .i64 b0, .int .i64 b1] = some (a0 == b0 && a1 == b1) := by
 refine Abs.eqC_V (by kernel_rfl) ?_
 have h : Abs.eqV prog 5 26 [.int .i64 a0, .int .i64 a1] [.int .i64 b0, .int .i64 b1] = Abs.andO (some (a0 == b0)) (Abs.andO (some (a1 == b1)) (some true)) := by kernel_rfl
 rw [h]; generalize (a0 == b0) = x0; generalize (a1 == b1) = x1; revert x0 x1; decide
@[go_sem] theorem Tryz.eq27 (a0 b0 : Int) (a1 b1 : Int) (a2 b2 : Int) (a3 b3 : Int) (a4 b4 : Int) (a5 b5 : Int) (a6 b6 : Int) : Abs.eqC prog 27 [.int .i64 a0, .int .i64 a1, .int .i64 a2, .int .i64 a3, .int .i64 a4, .int .i64 a5, .int .i64 a6] [.int .i64 b0, .int .i64 b1, .int .i64 b2, .int .i64 b3, .int .i64 b4, .int .i64 b5, .int .i64 b6] = some (a0 == b0 && a1 == b1 && a2 == b2 && a3 == b3 && a4 == b4 && a5 == b5 && a6 == b6) := by
 refine Abs.eqC_V (by kernel_rfl) ?_
 have h : Abs.eqV prog 5 27 [.int .i64 a0, .int .i64 a1, .int .i64 a2, .int .i64 a3, .int .i64 a4, .int .i64 a5, .int .i64 a6] [.int .i64 b0, .int .i64 b1, .int .i64 b2, .int .i64 b3, .int .i64 b4, .int .i64 b5, .int .i64 b6] = Abs.andO (some (a0 == b0)) (Abs.andO (some (a1 == b1)) (Abs.andO (some (a2 == b2)) (Abs.andO (Abs.andO (some (a3 == b3)) (Abs.andO (some (a4 == b4)) (some true))) (Abs.andO (Abs.andO (some (a5 == b5)) (Abs.andO (some (a6 == b6)) (some true))) (some true))))) := by kernel_rfl
 rw [h]; generalize (a0 == b0) = x0; generalize (a1 == b1) = x1; generalize (a2 == b2) = x2; generalize (a3 == b3) = x3; generalize (a4 == b4) = x4; generalize (a5 == b5) = x5; generalize (a6 == b6) = x6; revert x0 x1 x2 x3 x4 x5 x6; decide
@[go_sem] theorem Tryz.eq28 (a0 b0 : Int) (a1 b1 : Int) (a2 b2 : Int) (a3 b3 : Int) (a4 b4 : Int) (a5 b5 : Int) (a6 b6 : Int) : Abs.eqC prog 28 [.int .i64 a0, .int .i64 a1, .int .i64 a2, .int .i64 a3, .int .i64 a4, .int .i64 a5, .int .i64 a6] [.int .i64 b0, .int .i64 b1, .int .i64 b2, .int .i64 b3, .int .i64 b4, .int .i64 b5, .int .i64 b6] = some (a0 == b0 && a1 == b1 && a2 == b2 && a3 == b3 && a4 == b4 && a5 == b5 && a6 == b6) := by
 refine Abs.eqC_V (by kernel_rfl) ?_
 have h : Abs.eqV prog 5 28 [.int .i64 a0, .int .i64 a1, .int .i64 a2, .int .i64 a3, .int .i64 a4, .int .i64 a5, .int .i64 a6] [.int .i64 b0, .int .i64 b1, .int .i64 b2, .int .i64 b3, .int .i64 b4, .int .i64 b5, .int .i64 b6] = Abs.andO (some (a0 == b0)) (Abs.andO (some (a1 == b1)) (Abs.andO (some (a2 == b2)) (Abs.andO (Abs.andO (some (a3 == b3)) (Abs.andO (some (a4 == b4)) (some true))) (Abs.andO (Abs.andO (some (a5 == b5)) (Abs.andO (some (a6 == b6)) (some true))) (some true))))) := by kernel_rfl
 rw [h]; generalize (a0 == b0) = x0; generalize (a1 == b1) = x1; generalize (a2 == b2) = x2; generalize (a3 == b3) = x3; generalize (a4 == b4) = x4; generalize (a5 == b5) = x5; generalize (a6 == b6) = x6; revert x0 x1 x2 x3 x4 x5 x6; decide
@[go_sem] theorem Tryz.eq56 (a0 b0 : Int) (a1 b1 : Int) (a2 b2 : Int) : Abs.eqC prog 56 [.int .i64 a0, .int .i64 a1, .int .i64 a2] [.int .i64 b0, .int .i64 b1, .int .i64 b2] = some (a0 == b0 && a1 == b1 && a2 == b2) := by
 refine Abs.eqC_V (by kernel_rfl) ?_
 have h : Abs.eqV prog 5 56 [.int .i64 a0, .int .i64 a1, .int .i64 a2] [.int .i64 b0, .int .i64 b1, .int .i64 b2] = Abs.andO (some (a0 == b0)) (Abs.andO (Abs.andO (some (a1 == b1)) (Abs.andO (some (a2 == b2)) (some true))) (some true)) := by kernel_rfl
 rw [h]; generalize (a0 == b0) = x0; generalize (a1 == b1) = x1; generalize (a2 == b2) = x2; revert x0 x1 x2; decide
@[go_sem] theorem Tryz.eq57 (a0 b0 : Int) (a1 b1 : Int) (a2 b2 : Int) : Abs.eqC prog 57 [.int .i64 a0, .int .i64 a1, .int .i64 a2] [.int .i64 b0, .int .i64 b1, .int .i64 b2] = some (a0 == b0 && a1 == b1 && a2 == b2) := by
 refine Abs.eqC_V (by kernel_rfl) ?_
 have h : Abs.eqV prog 5 57 [.int .i64 a0, .int .i64 a1, .int .i64 a2] [.int .i64 b0, .int .i64 b1, .int .i64 b2] = Abs.andO (some (a0 == b0)) (Abs.andO (Abs.andO (some (a1 == b1)) (Abs.andO (some (a2 == b2)) (some true))) (some true)) := by kernel_rfl
 rw [h]; generalize (a0 == b0) = x0; generalize (a1 == b1) = x1; generalize (a2 == b2) = x2; revert x0 x1 x2; decide
@[go_sem] theorem Tryz.eq71 (a0 b0 : Int) (a1 b1 : Int) (a2 b2 : Int) (a3 b3 : Int) (a4 b4 : Int) (a5 b5 : Int) : Abs.eqC prog 71 [.int .i64 a0, .int .i64 a1, .int .i64 a2, .int .i64 a3, .int .i64 a4, .int .i64 a5] [.int .i64 b0, .int .i64 b1, .int .i64 b2, .int .i64 b3, .int .i64 b4, .int .i64 b5] = some (a0 == b0 && a1 == b1 && a2 == b2 && a3 == b3 && a4 == b4 && a5 == b5) := by
 refine Abs.eqC_V (by kernel_rfl) ?_
 have h : Abs.eqV prog 5 71 [.int .i64 a0, .int .i64 a1, .int .i64 a2, .int .i64 a3, .int .i64 a4, .int .i64 a5] [.int .i64 b0, .int .i64 b1, .int .i64 b2, .int .i64 b3, .int .i64 b4, .int .i64 b5] = Abs.andO (Abs.andO (some (a0 == b0)) (Abs.andO (Abs.andO (some (a1 == b1)) (Abs.andO (some (a2 == b2)) (some true))) (some true))) (Abs.andO (Abs.andO (some (a3 == b3)) (Abs.andO (Abs.andO (some (a4 == b4)) (Abs.andO (some (a5 == b5)) (some true))) (some true))) (some true)) := by kernel_rfl
 rw [h]; generalize (a0 == b0) = x0; generalize (a1 == b1) = x1; generalize (a2 == b2) = x2; generalize (a3 == b3) = x3; generalize (a4 == b4) = x4; generalize (a5 == b5) = x5; revert x0 x1 x2 x3 x4 x5; decide
@[go_sem] theorem Tryz.eq72 (a0 b0 : Int) (a1 b1 : Int) (a2 b2 : Int) (a3 b3 : Int) (a4 b4 : Int) (a5 b5 : Int) : Abs.eqC prog 72 [.int .i64 a0, .int .i64 a1, .int .i64 a2, .int .i64 a3, .int .i64 a4, .int .i64 a5] [.int .i64 b0, .int .i64 b1, .int .i64 b2, .int .i64 b3, .int .i64 b4, .int .i64 b5] = some (a0 == b0 && a1 == b1 && a2 == b2 && a3 == b3 && a4 == b4 && a5 == b5) := by
 refine Abs.eqC_V (by kernel_rfl) ?_
 have h : Abs.eqV prog 5 72 [.int .i64 a0, .int .i64 a1, .int .i64 a2, .int .i64 a3, .int .i64 a4, .int .i64 a5] [.int .i64 b0, .int .i64 b1, .int .i64 b2, .int .i64 b3, .int .i64 b4, .int .i64 b5] = Abs.andO (Abs.andO (some (a0 == b0)) (Abs.andO (Abs.andO (some (a1 == b1)) (Abs.andO (some (a2 == b2)) (some true))) (some true))) (Abs.andO (Abs.andO (some (a3 == b3)) (Abs.andO (Abs.andO (some (a4 == b4)) (Abs.andO (some (a5 == b5)) (some true))) (some true))) (some true)) := by kernel_rfl
 rw [h]; generalize (a0 == b0) = x0; generalize (a1 == b1) = x1; generalize (a2 == b2) = x2; generalize (a3 == b3) = x3; generalize (a4 == b4) = x4; generalize (a5 == b5) = x5; revert x0 x1 x2 x3 x4 x5; decide
@[go_sem] theorem Tryz.eq149 (a0 b0 : Int) (a1 b1 : Int) (a2 b2 : Int) (a3 b3 : Int) (a4 b4 : Int) (a5 b5 : Int) : Abs.eqC prog 149 [.int .i64 a0, .int .i64 a1, .int .i64 a2, .int .i64 a3, .int .i64 a4, .int .i64 a5] [.int .i64 b0, .int .i64 b1, .int .i64 b2, .int .i64 b3, .int .i64 b4, .int .i64 b5] = some (a0 == b0 && a1 == b1 && a2 == b2 && a3 == b3 && a4 == b4 && a5 == b5) := by
 refine Abs.eqC_V (by kernel_rfl) ?_
 have h : Abs.eqV prog 5 149 [.int .i64 a0, .int .i64 a1, .int .i64 a2, .int .i64 a3, .int .i64 a4, .int .i64 a5] [.int .i64 b0, .int .i64 b1, .int .i64 b2, .int .i64 b3, .int .i64 b4, .int .i64 b5] = Abs.andO (Abs.andO (some (a0 == b0)) (Abs.andO (Abs.andO (some (a1 == b1)) (Abs.andO (some (a2 == b2)) (some true))) (some true))) (Abs.andO (Abs.andO (some (a3 == b3)) (Abs.andO (Abs.andO (some (a4 == b4)) (Abs.andO (some (a5 == b5)) (some true))) (some true))) (some true)) := by kernel_rfl
 rw [h]; generalize (a0 == b0) = x0; generalize (a1 == b1) = x1; generalize (a2 == b2) = x2; generalize (a3 == b3) = x3; generalize (a4 == b4) = x4; generalize (a5 == b5) = x5; revert x0 x1 x2 x3 x4 x5; decide
@[go_sem] theorem Tryz.eq218 (a0 b0 : Int) (a1 b1 : Int) : Abs.eqC prog 218 [.int .i64 a0, .int .i64 a1] [.int .i64 b0, .int .i64 b1] = some (a0 == b0 && a1 == b1) := by
 refine Abs.eqC_V (by kernel_rfl) ?_
 have h : Abs.eqV prog 5 218 [.int .i64 a0, .int .i64 a1] [.int .i64 b0, .int .i64 b1] = Abs.andO (some (a0 == b0)) (Abs.andO (some (a1 == b1)) (some true)) := by kernel_rfl
 rw [h]; generalize (a0 == b0) = x0; generalize (a1 == b1) = x1; revert x0 x1; decide
theorem Tryz.mixed : prog.follows .mixedOrders = true := by kernel_rfl
end Go.Proofs
namespace Go.Abs
open Go Go.Proofs Tryz
noncomputable abbrev zza := U9 prog
noncomputable abbrev zzb := bytesT prog
noncomputable abbrev zzc := p9 prog
noncomputable abbrev zzd := zMn prog
noncomputable abbrev zze := s5 prog
noncomputable abbrev zzf := sizeT prog
noncomputable abbrev zzg := sliceT prog
noncomputable abbrev zzh := I8 prog
noncomputable abbrev zzi := I9 prog
noncomputable abbrev zzj := zeroT prog
@[go_sem] theorem Tryz.facts0 : zze 1 = some false ∧ zzf 1 = some 1 ∧ zzb 1 = some 8 ∧ zzj 1 = some (.nilFunc) ∧ zzg 1 = none ∧ zze 2 = some false ∧ zzf 2 = some 1 ∧ zzb 2 = some 8 ∧ zzj 2 = some (.int .i64 0) ∧ zzg 2 = none ∧ zzd 2 = some .i64 ∧ prog.underlying 2 = some (.int .i64) ∧ zze 3 = some false ∧ zzg 3 = none ∧ zzd 3 = some .i64 ∧ prog.underlying 3 = some (.int .i64) ∧ zze 4 = some false ∧ zzf 4 = some 1 ∧ zzb 4 = some 1 ∧ zzj 4 = some (.bool false) := by (repeat' apply And.intro) <;> kernel_rfl
@[go_sem] theorem Tryz.facts1 : zzg 4 = none ∧ prog.underlying 4 = some (.bool) ∧ zze 5 = some false ∧ zzf 5 = some 1 ∧ zzb 5 = some 1 ∧ zzj 5 = some (.int .u8 0) ∧ zzg 5 = none ∧ zzd 5 = some .u8 ∧ prog.underlying 5 = some (.int .u8) ∧ zze 6 = some false ∧ zzf 6 = some 1 ∧ zzb 6 = some 1 ∧ zzj 6 = some (.int .u8 0) ∧ zzg 6 = none ∧ zzd 6 = some .u8 ∧ prog.underlying 6 = some (.int .u8) ∧ zze 7 = some true ∧ zzf 7 = some 4 ∧ zzb 7 = some 24 ∧ zzj 7 = some (.agg #[.int .i64 0, .int .i64 0, .bool false, .int .u8 0]) := by (repeat' apply And.intro) <;> kernel_rfl
@[go_sem] theorem Tryz.facts2 : zzg 7 = none ∧ zzi 7 = true ∧ y8 prog 7 0 = some (2, 0) ∧ y8 prog 7 1 = some (3, 1) ∧ y8 prog 7 2 = some (4, 2) ∧ y8 prog 7 3 = some (6, 3) ∧ zzi 8 = true ∧ zze 9 = some false ∧ zzf 9 = some 1 ∧ zzb 9 = some 16 ∧ zzj 9 = some (.string ⟨#[]⟩) ∧ zzg 9 = none ∧ zzh 9 = true ∧ prog.underlying 9 = some (.string) ∧ zzh 10 = true ∧ zzh 11 = true ∧ zzd 12 = some .u64 ∧ zzi 13 = true ∧ zze 14 = some true ∧ zzf 14 = some 2 := by (repeat' apply And.intro) <;> kernel_rfl
@[go_sem] theorem Tryz.facts3 : zzb 14 = some 24 ∧ zzj 14 = some (.agg #[.string ⟨#[]⟩, .int .u64 0]) ∧ zzg 14 = none ∧ zzi 14 = true ∧ y8 prog 14 0 = some (9, 0) ∧ y8 prog 14 1 = some (12, 1) ∧ zze 15 = some false ∧ zzf 15 = some 1 ∧ zzb 15 = some 8 ∧ zzj 15 = some (.pointer none) ∧ zzg 15 = none ∧ zze 16 = some false ∧ zzf 16 = some 1 ∧ zzb 16 = some 8 ∧ zzj 16 = some (.pointer none) ∧ zzg 16 = none ∧ zze 17 = some false ∧ zzf 17 = some 1 ∧ zzb 17 = some 8 ∧ zzj 17 = some (.pointer none) := by (repeat' apply And.intro) <;> kernel_rfl
@[go_sem] theorem Tryz.facts4 : zzg 17 = none ∧ zze 18 = some true ∧ zzf 18 = some 1 ∧ zzb 18 = some 8 ∧ zzj 18 = some (.agg #[.pointer none]) ∧ zzg 18 = none ∧ zzi 18 = true ∧ y8 prog 18 0 = some (17, 0) ∧ zze 19 = some true ∧ zzf 19 = some 1 ∧ zzb 19 = some 8 ∧ zzj 19 = some (.agg #[.pointer none]) ∧ zzg 19 = none ∧ zzi 19 = true ∧ y8 prog 19 0 = some (17, 0) ∧ zze 20 = some false ∧ zzf 20 = some 1 ∧ zzb 20 = some 16 ∧ zzj 20 = some (.nilIface) ∧ zzg 20 = none := by (repeat' apply And.intro) <;> kernel_rfl
@[go_sem] theorem Tryz.facts5 : zze 21 = some false ∧ zzf 21 = some 1 ∧ zzb 21 = some 4 ∧ zzj 21 = some (.int .i32 0) ∧ zzg 21 = none ∧ zzd 21 = some .i32 ∧ prog.underlying 21 = some (.int .i32) ∧ zze 22 = some false ∧ zzf 22 = some 1 ∧ zzb 22 = some 24 ∧ zzj 22 = some (.slice none 0 0) ∧ prog.underlying 22 = some (.slice 105) ∧ zze 23 = some true ∧ zzf 23 = some 1 ∧ zzb 23 = some 24 ∧ zzj 23 = some (.agg #[.slice none 0 0]) ∧ zzg 23 = none ∧ zzi 23 = true ∧ y8 prog 23 0 = some (22, 0) ∧ zze 24 = some true := by (repeat' apply And.intro) <;> kernel_rfl
@[go_sem] theorem Tryz.facts6 : zzg 24 = none ∧ zzi 24 = true ∧ y8 prog 24 0 = some (22, 0) ∧ zze 25 = some true ∧ zzf 25 = some 2 ∧ zzb 25 = some 16 ∧ zzj 25 = some (.agg #[.int .i64 0, .int .i64 0]) ∧ zzg 25 = none ∧ zzi 25 = true ∧ y8 prog 25 0 = some (3, 0) ∧ y8 prog 25 1 = some (3, 1) ∧ zze 26 = some true ∧ zzg 26 = none ∧ zzi 26 = true ∧ y8 prog 26 0 = some (3, 0) ∧ y8 prog 26 1 = some (3, 1) ∧ zze 27 = some true ∧ zzf 27 = some 7 ∧ zzb 27 = some 56 ∧ zzj 27 = some (.agg #[.int .i64 0, .int .i64 0, .int .i64 0, .int .i64 0, .int .i64 0, .int .i64 0, .int .i64 0]) := by (repeat' apply And.intro) <;> kernel_rfl
@[go_sem] theorem Tryz.facts7 : zzg 27 = none ∧ zzi 27 = true ∧ y8 prog 27 0 = some (3, 0) ∧ y8 prog 27 1 = some (3, 1) ∧ y8 prog 27 2 = some (3, 2) ∧ y8 prog 27 3 = some (26, 3) ∧ y8 prog 27 4 = some (26, 5) ∧ zze 28 = some true ∧ zzg 28 = none ∧ zzi 28 = true ∧ y8 prog 28 0 = some (3, 0) ∧ y8 prog 28 1 = some (3, 1) ∧ y8 prog 28 2 = some (3, 2) ∧ y8 prog 28 3 = some (26, 3) ∧ y8 prog 28 4 = some (26, 5) ∧ zze 29 = some false ∧ prog.underlying 29 = some (.slice 3) ∧ zze 30 = some false ∧ zzf 30 = some 1 ∧ zzb 30 = some 8 := by (repeat' apply And.intro) <;> kernel_rfl
@[go_sem] theorem Tryz.facts8 : zzj 30 = some (.nilFunc) ∧ zzg 30 = none ∧ zze 31 = some false ∧ zzf 31 = some 1 ∧ zzb 31 = some 8 ∧ zzj 31 = some (.nilFunc) ∧ zzg 31 = none ∧ zze 32 = some false ∧ zzf 32 = some 1 ∧ zzb 32 = some 8 ∧ zzj 32 = some (.pointer none) ∧ zzg 32 = none ∧ zze 33 = some false ∧ zzf 33 = some 1 ∧ zzb 33 = some 8 ∧ zzj 33 = some (.nilFunc) ∧ zzg 33 = none ∧ zze 34 = some false ∧ zzf 34 = some 1 ∧ zzb 34 = some 8 := by (repeat' apply And.intro) <;> kernel_rfl
@[go_sem] theorem Tryz.facts9 : zzj 34 = some (.nilFunc) ∧ zzg 34 = none ∧ zze 35 = some false ∧ zzf 35 = some 1 ∧ zzb 35 = some 24 ∧ zzj 35 = some (.slice none 0 0) ∧ prog.underlying 35 = some (.slice 24) ∧ zze 36 = some false ∧ zzf 36 = some 1 ∧ zzb 36 = some 8 ∧ zzj 36 = some (.nilFunc) ∧ zzg 36 = none ∧ zze 37 = some false ∧ zzf 37 = some 1 ∧ zzb 37 = some 24 ∧ zzj 37 = some (.slice none 0 0) ∧ prog.underlying 37 = some (.slice 28) ∧ zze 38 = some false ∧ zzf 38 = some 1 ∧ zzb 38 = some 8 := by (repeat' apply And.intro) <;> kernel_rfl
@[go_sem] theorem Tryz.facts10 : zzj 38 = some (.nilFunc) ∧ zzg 38 = none ∧ zze 39 = some false ∧ zzf 39 = some 1 ∧ zzb 39 = some 8 ∧ zzj 39 = some (.int .i64 0) ∧ zzg 39 = none ∧ zzd 39 = some .i64 ∧ prog.underlying 39 = some (.int .i64) ∧ zze 41 = some false ∧ zzf 41 = some 1 ∧ zzb 41 = some 8 ∧ zzj 41 = some (.nilFunc) ∧ zzg 41 = none ∧ zze 42 = some false ∧ zzf 42 = some 1 ∧ zzb 42 = some 8 ∧ zzj 42 = some (.nilFunc) ∧ zzg 42 = none ∧ zze 43 = some false := by (repeat' apply And.intro) <;> kernel_rfl
@[go_sem] theorem Tryz.facts11 : zzf 43 = some 1 ∧ zzb 43 = some 8 ∧ zzj 43 = some (.nilFunc) ∧ zzg 43 = none ∧ zze 44 = some false ∧ zzf 44 = some 1 ∧ zzb 44 = some 8 ∧ zzj 44 = some (.nilFunc) ∧ zzg 44 = none ∧ zze 45 = some false ∧ zzf 45 = some 1 ∧ zzb 45 = some 8 ∧ zzj 45 = some (.nilFunc) ∧ zzg 45 = none ∧ zze 49 = some false ∧ zzf 49 = some 1 ∧ zzb 49 = some 8 ∧ zzj 49 = some (.nilFunc) ∧ zzg 49 = none ∧ zze 50 = some false := by (repeat' apply And.intro) <;> kernel_rfl
@[go_sem] theorem Tryz.facts12 : prog.underlying 50 = some (.slice 57) ∧ zze 51 = some false ∧ zzf 51 = some 1 ∧ zzb 51 = some 8 ∧ zzj 51 = some (.nilFunc) ∧ zzg 51 = none ∧ zze 52 = some false ∧ zzf 52 = some 1 ∧ zzb 52 = some 8 ∧ zzj 52 = some (.nilFunc) ∧ zzg 52 = none ∧ zze 53 = some false ∧ zzf 53 = some 1 ∧ zzb 53 = some 8 ∧ zzj 53 = some (.nilFunc) ∧ zzg 53 = none ∧ zze 55 = some false ∧ zzf 55 = some 1 ∧ zzb 55 = some 8 ∧ zzj 55 = some (.nilFunc) := by (repeat' apply And.intro) <;> kernel_rfl
@[go_sem] theorem Tryz.facts13 : zzg 55 = none ∧ zze 56 = some true ∧ zzf 56 = some 3 ∧ zzb 56 = some 24 ∧ zzj 56 = some (.agg #[.int .i64 0, .int .i64 0, .int .i64 0]) ∧ zzg 56 = none ∧ zzi 56 = true ∧ y8 prog 56 0 = some (3, 0) ∧ y8 prog 56 1 = some (26, 1) ∧ zze 57 = some true ∧ zzg 57 = none ∧ zzi 57 = true ∧ y8 prog 57 0 = some (3, 0) ∧ y8 prog 57 1 = some (26, 1) ∧ zze 58 = some false ∧ zzf 58 = some 1 ∧ zzb 58 = some 8 ∧ zzj 58 = some (.nilFunc) ∧ zzg 58 = none ∧ zze 59 = some false := by (repeat' apply And.intro) <;> kernel_rfl
@[go_sem] theorem Tryz.facts14 : zzf 59 = some 1 ∧ zzb 59 = some 24 ∧ zzj 59 = some (.slice none 0 0) ∧ prog.underlying 59 = some (.slice 135) ∧ zze 60 = some false ∧ zzf 60 = some 1 ∧ zzb 60 = some 24 ∧ zzj 60 = some (.slice none 0 0) ∧ prog.underlying 60 = some (.slice 72) ∧ zze 61 = some true ∧ zzf 61 = some 3 ∧ zzb 61 = some 72 ∧ zzj 61 = some (.agg #[.slice none 0 0, .slice none 0 0, .slice none 0 0]) ∧ zzg 61 = none ∧ zzi 61 = true ∧ y8 prog 61 0 = some (24, 0) ∧ y8 prog 61 1 = some (59, 1) ∧ y8 prog 61 2 = some (60, 2) ∧ zze 62 = some true ∧ zzg 62 = none := by (repeat' apply And.intro) <;> kernel_rfl
@[go_sem] theorem Tryz.facts15 : zzi 62 = true ∧ y8 prog 62 0 = some (24, 0) ∧ y8 prog 62 1 = some (59, 1) ∧ y8 prog 62 2 = some (60, 2) ∧ zze 63 = some false ∧ zzf 63 = some 1 ∧ zzb 63 = some 8 ∧ zzj 63 = some (.nilFunc) ∧ zzg 63 = none ∧ zze 64 = some false ∧ zzf 64 = some 1 ∧ zzb 64 = some 24 ∧ zzj 64 = some (.slice none 0 0) ∧ prog.underlying 64 = some (.slice 29) ∧ zze 66 = some false ∧ zzf 66 = some 1 ∧ zzb 66 = some 8 ∧ zzj 66 = some (.nilFunc) ∧ zzg 66 = none ∧ zze 67 = some false := by (repeat' apply And.intro) <;> kernel_rfl
@[go_sem] theorem Tryz.facts16 : zzf 67 = some 1 ∧ zzb 67 = some 8 ∧ zzj 67 = some (.nilFunc) ∧ zzg 67 = none ∧ zze 68 = some false ∧ zzf 68 = some 1 ∧ zzb 68 = some 8 ∧ zzj 68 = some (.nilFunc) ∧ zzg 68 = none ∧ zze 70 = some false ∧ zzf 70 = some 1 ∧ zzb 70 = some 8 ∧ zzj 70 = some (.nilFunc) ∧ zzg 70 = none ∧ zze 71 = some true ∧ zzf 71 = some 6 ∧ zzb 71 = some 48 ∧ zzj 71 = some (.agg #[.int .i64 0, .int .i64 0, .int .i64 0, .int .i64 0, .int .i64 0, .int .i64 0]) ∧ zzg 71 = none ∧ zzi 71 = true := by (repeat' apply And.intro) <;> kernel_rfl
@[go_sem] theorem Tryz.facts17 : y8 prog 71 0 = some (57, 0) ∧ y8 prog 71 1 = some (57, 3) ∧ zze 72 = some true ∧ zzg 72 = none ∧ zzi 72 = true ∧ y8 prog 72 0 = some (57, 0) ∧ y8 prog 72 1 = some (57, 3) ∧ zze 73 = some false ∧ zzf 73 = some 1 ∧ zzb 73 = some 8 ∧ zzj 73 = some (.nilFunc) ∧ zzg 73 = none ∧ zze 74 = some false ∧ zzf 74 = some 1 ∧ zzb 74 = some 8 ∧ zzj 74 = some (.nilFunc) ∧ zzg 74 = none ∧ zze 75 = some false ∧ zzf 75 = some 1 ∧ zzb 75 = some 24 := by (repeat' apply And.intro) <;> kernel_rfl
@[go_sem] theorem Tryz.facts18 : zzj 75 = some (.slice none 0 0) ∧ prog.underlying 75 = some (.slice 78) ∧ zze 77 = some false ∧ zzf 77 = some 1 ∧ zzb 77 = some 8 ∧ zzj 77 = some (.nilFunc) ∧ zzg 77 = none ∧ zze 78 = some false ∧ prog.underlying 78 = some (.slice 50) ∧ zze 80 = some false ∧ zzf 80 = some 1 ∧ zzb 80 = some 8 ∧ zzj 80 = some (.nilFunc) ∧ zzg 80 = none ∧ zze 82 = some false ∧ zzf 82 = some 1 ∧ zzb 82 = some 8 ∧ zzj 82 = some (.nilFunc) ∧ zzg 82 = none ∧ zze 83 = some false := by (repeat' apply And.intro) <;> kernel_rfl
@[go_sem] theorem Tryz.facts19 : zzf 83 = some 1 ∧ zzb 83 = some 8 ∧ zzj 83 = some (.nilFunc) ∧ zzg 83 = none ∧ zze 84 = some false ∧ zzf 84 = some 1 ∧ zzb 84 = some 8 ∧ zzj 84 = some (.nilFunc) ∧ zzg 84 = none ∧ zze 85 = some false ∧ zzf 85 = some 1 ∧ zzb 85 = some 8 ∧ zzj 85 = some (.nilFunc) ∧ zzg 85 = none ∧ zze 86 = some false ∧ zzf 86 = some 1 ∧ zzb 86 = some 8 ∧ zzj 86 = some (.nilFunc) ∧ zzg 86 = none ∧ zze 87 = some false := by (repeat' apply And.intro) <;> kernel_rfl
@[go_sem] theorem Tryz.facts20 : zzf 87 = some 1 ∧ zzb 87 = some 24 ∧ zzj 87 = some (.slice none 0 0) ∧ prog.underlying 87 = some (.slice 62) ∧ zze 89 = some false ∧ zzf 89 = some 1 ∧ zzb 89 = some 8 ∧ zzj 89 = some (.nilFunc) ∧ zzg 89 = none ∧ zze 90 = some false ∧ zzf 90 = some 1 ∧ zzb 90 = some 8 ∧ zzj 90 = some (.nilFunc) ∧ zzg 90 = none ∧ zze 91 = some false ∧ zzf 91 = some 1 ∧ zzb 91 = some 8 ∧ zzj 91 = some (.nilFunc) ∧ zzg 91 = none ∧ zze 92 = some false := by (repeat' apply And.intro) <;> kernel_rfl
@[go_sem] theorem Tryz.facts21 : zzf 92 = some 1 ∧ zzb 92 = some 8 ∧ zzj 92 = some (.nilFunc) ∧ zzg 92 = none ∧ zze 93 = some false ∧ zzf 93 = some 1 ∧ zzb 93 = some 8 ∧ zzj 93 = some (.nilFunc) ∧ zzg 93 = none ∧ zze 94 = some false ∧ zzf 94 = some 1 ∧ zzb 94 = some 8 ∧ zzj 94 = some (.nilFunc) ∧ zzg 94 = none ∧ zze 96 = some false ∧ zzf 96 = some 1 ∧ zzb 96 = some 8 ∧ zzj 96 = some (.nilFunc) ∧ zzg 96 = none ∧ zze 97 = some false := by (repeat' apply And.intro) <;> kernel_rfl
@[go_sem] theorem Tryz.facts22 : zzf 97 = some 1 ∧ zzb 97 = some 8 ∧ zzj 97 = some (.nilFunc) ∧ zzg 97 = none ∧ zze 98 = some false ∧ zzf 98 = some 1 ∧ zzb 98 = some 8 ∧ zzj 98 = some (.nilFunc) ∧ zzg 98 = none ∧ zze 99 = some false ∧ zzf 99 = some 1 ∧ zzb 99 = some 8 ∧ zzj 99 = some (.nilFunc) ∧ zzg 99 = none ∧ zze 100 = some false ∧ zzf 100 = some 1 ∧ zzb 100 = some 8 ∧ zzj 100 = some (.nilFunc) ∧ zzg 100 = none ∧ zze 101 = some false := by (repeat' apply And.intro) <;> kernel_rfl
@[go_sem] theorem Tryz.facts23 : zzf 101 = some 1 ∧ zzb 101 = some 8 ∧ zzj 101 = some (.nilFunc) ∧ zzg 101 = none ∧ zze 102 = some false ∧ zzf 102 = some 1 ∧ zzb 102 = some 8 ∧ zzj 102 = some (.nilFunc) ∧ zzg 102 = none ∧ zze 103 = some false ∧ zzf 103 = some 1 ∧ zzb 103 = some 8 ∧ zzj 103 = some (.nilFunc) ∧ zzg 103 = none ∧ zze 104 = some false ∧ zzf 104 = some 1 ∧ zzb 104 = some 8 ∧ zzj 104 = some (.nilFunc) ∧ zzg 104 = none ∧ zze 105 = some false := by (repeat' apply And.intro) <;> kernel_rfl
@[go_sem] theorem Tryz.facts24 : prog.underlying 105 = some (.slice 26) ∧ zze 106 = some false ∧ zzf 106 = some 1 ∧ zzb 106 = some 8 ∧ zzj 106 = some (.nilFunc) ∧ zzg 106 = none ∧ zze 107 = some false ∧ zzf 107 = some 1 ∧ zzb 107 = some 8 ∧ zzj 107 = some (.nilFunc) ∧ zzg 107 = none ∧ zze 108 = some false ∧ zzf 108 = some 1 ∧ zzb 108 = some 8 ∧ zzj 108 = some (.nilFunc) ∧ zzg 108 = none ∧ zze 109 = some false ∧ zzf 109 = some 1 ∧ zzb 109 = some 8 ∧ zzj 109 = some (.nilFunc) := by (repeat' apply And.intro) <;> kernel_rfl
@[go_sem] theorem Tryz.facts25 : zzg 109 = none ∧ zze 110 = some false ∧ zzf 110 = some 1 ∧ zzb 110 = some 8 ∧ zzj 110 = some (.nilFunc) ∧ zzg 110 = none ∧ zze 111 = some false ∧ zzf 111 = some 1 ∧ zzb 111 = some 8 ∧ zzj 111 = some (.nilFunc) ∧ zzg 111 = none ∧ zze 112 = some false ∧ zzf 112 = some 1 ∧ zzb 112 = some 8 ∧ zzj 112 = some (.nilFunc) ∧ zzg 112 = none ∧ zze 113 = some false ∧ zzf 113 = some 1 ∧ zzb 113 = some 8 ∧ zzj 113 = some (.int .u64 0) := by (repeat' apply And.intro) <;> kernel_rfl
@[go_sem] theorem Tryz.facts26 : zzg 113 = none ∧ zzd 113 = some .u64 ∧ prog.underlying 113 = some (.int .u64) ∧ zze 114 = some true ∧ zzf 114 = some 3 ∧ zzb 114 = some 40 ∧ zzj 114 = some (.agg #[.slice none 0 0, .int .i64 0, .int .u64 0]) ∧ zzg 114 = none ∧ zzi 114 = true ∧ y8 prog 114 0 = some (29, 0) ∧ y8 prog 114 1 = some (3, 1) ∧ y8 prog 114 2 = some (113, 2) ∧ zze 115 = some true ∧ zzf 115 = some 3 ∧ zzb 115 = some 40 ∧ zzj 115 = some (.agg #[.slice none 0 0, .int .i64 0, .int .u64 0]) ∧ zzg 115 = none ∧ zzi 115 = true ∧ y8 prog 115 0 = some (29, 0) ∧ y8 prog 115 1 = some (3, 1) := by (repeat' apply And.intro) <;> kernel_rfl
@[go_sem] theorem Tryz.facts27 : y8 prog 115 2 = some (113, 2) ∧ zze 116 = some false ∧ zzf 116 = some 1 ∧ zzb 116 = some 8 ∧ zzj 116 = some (.nilFunc) ∧ zzg 116 = none ∧ zze 117 = some false ∧ zzf 117 = some 1 ∧ zzb 117 = some 8 ∧ zzj 117 = some (.nilFunc) ∧ zzg 117 = none ∧ zze 118 = some false ∧ zzf 118 = some 1 ∧ zzb 118 = some 8 ∧ zzj 118 = some (.nilFunc) ∧ zzg 118 = none ∧ zze 119 = some false ∧ zzf 119 = some 1 ∧ zzb 119 = some 8 ∧ zzj 119 = some (.nilFunc) := by (repeat' apply And.intro) <;> kernel_rfl
@[go_sem] theorem Tryz.facts28 : zzg 119 = none ∧ zze 120 = some false ∧ zzf 120 = some 1 ∧ zzb 120 = some 8 ∧ zzj 120 = some (.map none) ∧ zzg 120 = none ∧ zze 121 = some false ∧ zzf 121 = some 1 ∧ zzb 121 = some 8 ∧ zzj 121 = some (.map none) ∧ zzg 121 = none ∧ zze 123 = some false ∧ zzf 123 = some 1 ∧ zzb 123 = some 8 ∧ zzj 123 = some (.nilFunc) ∧ zzg 123 = none ∧ zze 124 = some false ∧ zzf 124 = some 1 ∧ zzb 124 = some 8 ∧ zzj 124 = some (.nilFunc) := by (repeat' apply And.intro) <;> kernel_rfl
@[go_sem] theorem Tryz.facts29 : zzg 124 = none ∧ zze 125 = some false ∧ zzf 125 = some 1 ∧ zzb 125 = some 8 ∧ zzj 125 = some (.nilFunc) ∧ zzg 125 = none ∧ zze 126 = some false ∧ zzf 126 = some 1 ∧ zzb 126 = some 8 ∧ zzj 126 = some (.nilFunc) ∧ zzg 126 = none ∧ zze 127 = some false ∧ zzf 127 = some 1 ∧ zzb 127 = some 8 ∧ zzj 127 = some (.nilFunc) ∧ zzg 127 = none ∧ zze 128 = some false ∧ zzf 128 = some 1 ∧ zzb 128 = some 8 ∧ zzj 128 = some (.nilFunc) := by (repeat' apply And.intro) <;> kernel_rfl
@[go_sem] theorem Tryz.facts30 : zzg 128 = none ∧ zze 129 = some false ∧ zzf 129 = some 1 ∧ zzb 129 = some 8 ∧ zzj 129 = some (.int .u64 0) ∧ zzg 129 = none ∧ zzd 129 = some .u64 ∧ prog.underlying 129 = some (.int .u64) ∧ zze 131 = some false ∧ zzf 131 = some 1 ∧ zzb 131 = some 8 ∧ zzj 131 = some (.nilFunc) ∧ zzg 131 = none ∧ zze 133 = some false ∧ zzf 133 = some 1 ∧ zzb 133 = some 8 ∧ zzj 133 = some (.nilFunc) ∧ zzg 133 = none ∧ zze 134 = some true ∧ zzf 134 = some 1 := by (repeat' apply And.intro) <;> kernel_rfl
@[go_sem] theorem Tryz.facts31 : zzb 134 = some 24 ∧ zzj 134 = some (.agg #[.slice none 0 0]) ∧ zzg 134 = none ∧ zzi 134 = true ∧ y8 prog 134 0 = some (37, 0) ∧ zze 135 = some true ∧ zzg 135 = none ∧ zzi 135 = true ∧ y8 prog 135 0 = some (37, 0) ∧ zze 136 = some false ∧ zzf 136 = some 1 ∧ zzb 136 = some 8 ∧ zzj 136 = some (.pointer none) ∧ zzg 136 = none ∧ zze 137 = some false ∧ zzf 137 = some 1 ∧ zzb 137 = some 24 ∧ zzj 137 = some (.slice none 0 0) ∧ prog.underlying 137 = some (.slice 141) ∧ zze 139 = some false := by (repeat' apply And.intro) <;> kernel_rfl
@[go_sem] theorem Tryz.facts32 : zzf 139 = some 1 ∧ zzb 139 = some 8 ∧ zzj 139 = some (.nilFunc) ∧ zzg 139 = none ∧ zze 140 = some true ∧ zzf 140 = some 3 ∧ zzb 140 = some 56 ∧ zzj 140 = some (.agg #[.slice none 0 0, .slice none 0 0, .map none]) ∧ zzg 140 = none ∧ zzi 140 = true ∧ y8 prog 140 0 = some (29, 0) ∧ y8 prog 140 1 = some (24, 1) ∧ y8 prog 140 2 = some (121, 2) ∧ zze 141 = some true ∧ zzg 141 = none ∧ zzi 141 = true ∧ y8 prog 141 0 = some (29, 0) ∧ y8 prog 141 1 = some (24, 1) ∧ y8 prog 141 2 = some (121, 2) ∧ zze 142 = some true := by (repeat' apply And.intro) <;> kernel_rfl
@[go_sem] theorem Tryz.facts33 : zzf 142 = some 4 ∧ zzb 142 = some 96 ∧ zzj 142 = some (.agg #[.slice none 0 0, .slice none 0 0, .slice none 0 0, .slice none 0 0]) ∧ zzg 142 = none ∧ zzi 142 = true ∧ y8 prog 142 0 = some (62, 0) ∧ y8 prog 142 1 = some (50, 3) ∧ zze 143 = some true ∧ zzf 143 = some 4 ∧ zzb 143 = some 96 ∧ zzj 143 = some (.agg #[.slice none 0 0, .slice none 0 0, .slice none 0 0, .slice none 0 0]) ∧ zzg 143 = none ∧ zzi 143 = true ∧ y8 prog 143 0 = some (62, 0) ∧ y8 prog 143 1 = some (50, 3) ∧ zze 144 = some false ∧ zzf 144 = some 1 ∧ zzb 144 = some 8 ∧ zzj 144 = some (.nilFunc) ∧ zzg 144 = none := by (repeat' apply And.intro) <;> kernel_rfl
@[go_sem] theorem Tryz.facts34 : zze 145 = some false ∧ zzf 145 = some 1 ∧ zzb 145 = some 8 ∧ zzj 145 = some (.nilFunc) ∧ zzg 145 = none ∧ zze 146 = some false ∧ zzf 146 = some 1 ∧ zzb 146 = some 8 ∧ zzj 146 = some (.nilFunc) ∧ zzg 146 = none ∧ zze 147 = some false ∧ zzf 147 = some 1 ∧ zzb 147 = some 24 ∧ zzj 147 = some (.slice none 0 0) ∧ prog.underlying 147 = some (.slice 149) ∧ zze 148 = some false ∧ zzf 148 = some 1 ∧ zzb 148 = some 8 ∧ zzj 148 = some (.nilFunc) ∧ zzg 148 = none := by (repeat' apply And.intro) <;> kernel_rfl
@[go_sem] theorem Tryz.facts35 : zze 149 = some true ∧ zzg 149 = none ∧ zzi 149 = true ∧ y8 prog 149 0 = some (57, 0) ∧ y8 prog 149 1 = some (57, 3) ∧ zze 150 = some false ∧ zzf 150 = some 1 ∧ zzb 150 = some 8 ∧ zzj 150 = some (.nilFunc) ∧ zzg 150 = none ∧ zze 151 = some false ∧ zzf 151 = some 1 ∧ zzb 151 = some 24 ∧ zzj 151 = some (.slice none 0 0) ∧ prog.underlying 151 = some (.slice 154) ∧ zze 152 = some false ∧ zzf 152 = some 1 ∧ zzb 152 = some 8 ∧ zzj 152 = some (.nilFunc) ∧ zzg 152 = none := by (repeat' apply And.intro) <;> kernel_rfl
@[go_sem] theorem Tryz.facts36 : zze 153 = some true ∧ zzf 153 = some 3 ∧ zzb 153 = some 72 ∧ zzj 153 = some (.agg #[.slice none 0 0, .slice none 0 0, .slice none 0 0]) ∧ zzg 153 = none ∧ zzi 153 = true ∧ y8 prog 153 0 = some (29, 0) ∧ y8 prog 153 1 = some (24, 1) ∧ y8 prog 153 2 = some (78, 2) ∧ zze 154 = some true ∧ zzg 154 = none ∧ zzi 154 = true ∧ y8 prog 154 0 = some (29, 0) ∧ y8 prog 154 1 = some (24, 1) ∧ y8 prog 154 2 = some (78, 2) ∧ zze 155 = some false ∧ zzf 155 = some 1 ∧ zzb 155 = some 8 ∧ zzj 155 = some (.nilFunc) ∧ zzg 155 = none := by (repeat' apply And.intro) <;> kernel_rfl
@[go_sem] theorem Tryz.facts37 : zze 156 = some false ∧ zzf 156 = some 1 ∧ zzb 156 = some 8 ∧ zzj 156 = some (.nilFunc) ∧ zzg 156 = none ∧ zze 157 = some false ∧ zzf 157 = some 1 ∧ zzb 157 = some 8 ∧ zzj 157 = some (.nilFunc) ∧ zzg 157 = none ∧ zze 158 = some false ∧ zzf 158 = some 1 ∧ zzb 158 = some 8 ∧ zzj 158 = some (.nilFunc) ∧ zzg 158 = none ∧ zze 159 = some false ∧ zzf 159 = some 1 ∧ zzb 159 = some 8 ∧ zzj 159 = some (.nilFunc) ∧ zzg 159 = none := by (repeat' apply And.intro) <;> kernel_rfl
@[go_sem] theorem Tryz.facts38 : zze 160 = some false ∧ zzf 160 = some 1 ∧ zzb 160 = some 8 ∧ zzj 160 = some (.nilFunc) ∧ zzg 160 = none ∧ zze 161 = some false ∧ zzf 161 = some 1 ∧ zzb 161 = some 8 ∧ zzj 161 = some (.nilFunc) ∧ zzg 161 = none ∧ zze 162 = some false ∧ zzf 162 = some 1 ∧ zzb 162 = some 8 ∧ zzj 162 = some (.nilFunc) ∧ zzg 162 = none ∧ zze 163 = some false ∧ zzf 163 = some 1 ∧ zzb 163 = some 8 ∧ zzj 163 = some (.nilFunc) ∧ zzg 163 = none := by (repeat' apply And.intro) <;> kernel_rfl
@[go_sem] theorem Tryz.facts39 : zze 164 = some false ∧ zzf 164 = some 1 ∧ zzb 164 = some 8 ∧ zzj 164 = some (.nilFunc) ∧ zzg 164 = none ∧ zze 165 = some false ∧ zzf 165 = some 1 ∧ zzb 165 = some 8 ∧ zzj 165 = some (.nilFunc) ∧ zzg 165 = none ∧ zze 167 = some false ∧ zzf 167 = some 1 ∧ zzb 167 = some 8 ∧ zzj 167 = some (.nilFunc) ∧ zzg 167 = none ∧ zze 168 = some false ∧ zzf 168 = some 1 ∧ zzb 168 = some 8 ∧ zzj 168 = some (.nilFunc) ∧ zzg 168 = none := by (repeat' apply And.intro) <;> kernel_rfl
@[go_sem] theorem Tryz.facts40 : zze 169 = some false ∧ zzf 169 = some 1 ∧ zzb 169 = some 8 ∧ zzj 169 = some (.nilFunc) ∧ zzg 169 = none ∧ zze 171 = some false ∧ zzf 171 = some 1 ∧ zzb 171 = some 8 ∧ zzj 171 = some (.nilFunc) ∧ zzg 171 = none ∧ zze 172 = some false ∧ zzf 172 = some 1 ∧ zzb 172 = some 8 ∧ zzj 172 = some (.nilFunc) ∧ zzg 172 = none ∧ zze 173 = some false ∧ zzf 173 = some 1 ∧ zzb 173 = some 8 ∧ zzj 173 = some (.nilFunc) ∧ zzg 173 = none := by (repeat' apply And.intro) <;> kernel_rfl
@[go_sem] theorem Tryz.facts41 : zze 174 = some false ∧ zzf 174 = some 1 ∧ zzb 174 = some 8 ∧ zzj 174 = some (.nilFunc) ∧ zzg 174 = none ∧ zze 175 = some false ∧ zzf 175 = some 1 ∧ zzb 175 = some 8 ∧ zzj 175 = some (.nilFunc) ∧ zzg 175 = none ∧ zze 176 = some false ∧ zzf 176 = some 1 ∧ zzb 176 = some 8 ∧ zzj 176 = some (.nilFunc) ∧ zzg 176 = none ∧ zze 180 = some false ∧ zzf 180 = some 1 ∧ zzb 180 = some 8 ∧ zzj 180 = some (.nilFunc) ∧ zzg 180 = none := by (repeat' apply And.intro) <;> kernel_rfl
@[go_sem] theorem Tryz.facts42 : zze 185 = some false ∧ zzf 185 = some 1 ∧ zzb 185 = some 8 ∧ zzj 185 = some (.nilFunc) ∧ zzg 185 = none ∧ zze 186 = some true ∧ zzf 186 = some 8 ∧ zzb 186 = some 64 ∧ zzg 186 = none ∧ zza 186 = some (8, 185) ∧ prog.underlying 186 = some (.array 8 185) ∧ zze 194 = some false ∧ zzf 194 = some 1 ∧ zzb 194 = some 8 ∧ zzj 194 = some (.nilFunc) ∧ zzg 194 = none ∧ zze 195 = some false ∧ zzf 195 = some 1 ∧ zzb 195 = some 8 ∧ zzj 195 = some (.nilFunc) := by (repeat' apply And.intro) <;> kernel_rfl
@[go_sem] theorem Tryz.facts43 : zzg 195 = none ∧ zze 196 = some false ∧ zzf 196 = some 1 ∧ zzb 196 = some 8 ∧ zzj 196 = some (.nilFunc) ∧ zzg 196 = none ∧ zze 197 = some false ∧ zzf 197 = some 1 ∧ zzb 197 = some 8 ∧ zzj 197 = some (.nilFunc) ∧ zzg 197 = none ∧ zze 198 = some false ∧ zzf 198 = some 1 ∧ zzb 198 = some 8 ∧ zzj 198 = some (.nilFunc) ∧ zzg 198 = none ∧ zze 199 = some false ∧ zzf 199 = some 1 ∧ zzb 199 = some 8 ∧ zzj 199 = some (.nilFunc) := by (repeat' apply And.intro) <;> kernel_rfl
@[go_sem] theorem Tryz.facts44 : zzg 199 = none ∧ zze 201 = some false ∧ zzf 201 = some 1 ∧ zzb 201 = some 8 ∧ zzj 201 = some (.int .i64 0) ∧ zzg 201 = none ∧ zzd 201 = some .i64 ∧ prog.underlying 201 = some (.int .i64) ∧ zze 209 = some false ∧ zzf 209 = some 1 ∧ zzb 209 = some 4 ∧ zzj 209 = some (.int .u32 0) ∧ zzg 209 = none ∧ zzd 209 = some .u32 ∧ prog.underlying 209 = some (.int .u32) ∧ zze 217 = some false ∧ zzg 217 = none ∧ zze 218 = some true ∧ zzf 218 = some 2 ∧ zzb 218 = some 16 := by (repeat' apply And.intro) <;> kernel_rfl
@[go_sem] theorem Tryz.facts45 : zzj 218 = some (.agg #[.int .i64 0, .int .i64 0]) ∧ zzg 218 = none ∧ zzi 218 = true ∧ y8 prog 218 0 = some (3, 0) ∧ y8 prog 218 1 = some (3, 1) ∧ zze 220 = some false ∧ zzf 220 = some 1 ∧ zzb 220 = some 24 ∧ zzj 220 = some (.slice none 0 0) ∧ prog.underlying 220 = some (.slice 217) ∧ zze 222 = some false ∧ zzf 222 = some 1 ∧ zzb 222 = some 8 ∧ zzj 222 = some (.int .u64 0) ∧ zzg 222 = none ∧ zzd 222 = some .u64 ∧ prog.underlying 222 = some (.int .u64) ∧ zze 225 = some false ∧ zzf 225 = some 1 ∧ zzb 225 = some 8 := by (repeat' apply And.intro) <;> kernel_rfl
@[go_sem] theorem Tryz.facts46 : zzj 225 = some (.pointer none) ∧ zzg 225 = none ∧ zze 229 = some false ∧ zzf 229 = some 1 ∧ zzb 229 = some 8 ∧ zzj 229 = some (.pointer none) ∧ zzg 229 = none ∧ zzi 234 = true ∧ zzi 235 = true ∧ zza 236 = some (0, 16) ∧ zzi 237 = true ∧ zzi 238 = true ∧ zzd 240 = some .u8 ∧ zzd 241 = some .u8 ∧ zzd 244 = some .i32 ∧ zzd 245 = some .i32 ∧ zzi 246 = true ∧ zzi 247 = true ∧ zzc 14 = true ∧ zzc 15 = true := by (repeat' apply And.intro) <;> kernel_rfl
@[go_sem] theorem Tryz.facts47 : zzc 16 = true ∧ zzc 17 = true ∧ zzc 18 = true ∧ zzc 19 = true ∧ zzc 20 = true ∧ zzc 21 = true ∧ zzc 22 = true ∧ zzc 23 = true ∧ zzc 24 = true ∧ zzc 25 = true ∧ zzc 26 = true ∧ zzc 27 = true ∧ zzc 28 = true ∧ zzc 29 = true ∧ zzc 30 = true ∧ zzc 31 = true ∧ zzc 32 = true ∧ zzc 33 = true ∧ zzc 34 = true ∧ zzc 35 = true := by (repeat' apply And.intro) <;> kernel_rfl
@[go_sem] theorem Tryz.facts48 : zzc 36 = true ∧ zzc 37 = true ∧ zzc 38 = true ∧ zzc 39 = true ∧ zzc 40 = true ∧ zzc 41 = true ∧ zzc 42 = true ∧ zzc 43 = true ∧ zzc 44 = true ∧ zzc 45 = true ∧ zzc 46 = true ∧ zzc 49 = true ∧ zzc 50 = true ∧ zzc 51 = true ∧ zzc 52 = true ∧ zzc 53 = true ∧ zzc 54 = true ∧ zzc 55 = true ∧ zzc 56 = true ∧ zzc 57 = true := by (repeat' apply And.intro) <;> kernel_rfl
@[go_sem] theorem Tryz.facts49 : zzc 58 = true ∧ zzc 59 = true ∧ zzc 60 = true ∧ zzc 61 = true ∧ zzc 62 = true ∧ zzc 63 = true ∧ zzc 64 = true ∧ zzc 65 = true ∧ zzc 66 = true ∧ zzc 67 = true ∧ zzc 68 = true ∧ zzc 69 = true ∧ zzc 70 = true ∧ zzc 71 = true ∧ zzc 72 = true ∧ zzc 73 = true ∧ zzc 74 = true ∧ zzc 75 = true ∧ zzc 76 = true ∧ zzc 77 = true := by (repeat' apply And.intro) <;> kernel_rfl
@[go_sem] theorem Tryz.facts50 : zzc 78 = true ∧ zzc 79 = true ∧ zzc 80 = true ∧ zzc 81 = true ∧ zzc 82 = true ∧ zzc 83 = true ∧ zzc 84 = true ∧ zzc 85 = true ∧ zzc 86 = true ∧ zzc 87 = true ∧ zzc 88 = true ∧ zzc 89 = true ∧ zzc 90 = true ∧ zzc 91 = true ∧ zzc 92 = true ∧ zzc 93 = true ∧ zzc 94 = true ∧ zzc 95 = true ∧ zzc 96 = true ∧ zzc 97 = true := by (repeat' apply And.intro) <;> kernel_rfl
@[go_sem] theorem Tryz.facts51 : zzc 98 = true ∧ zzc 99 = true ∧ zzc 100 = true ∧ zzc 101 = true ∧ zzc 102 = true ∧ zzc 103 = true ∧ zzc 104 = true ∧ zzc 105 = true ∧ zzc 106 = true ∧ zzc 107 = true ∧ zzc 108 = true ∧ zzc 109 = true ∧ zzc 110 = true ∧ zzc 111 = true ∧ zzc 112 = true ∧ zzc 113 = true ∧ zzc 114 = true ∧ zzc 115 = true ∧ zzc 116 = true ∧ zzc 117 = true := by (repeat' apply And.intro) <;> kernel_rfl
@[go_sem] theorem Tryz.facts52 : zzc 118 = true ∧ zzc 119 = true ∧ zzc 120 = true ∧ zzc 121 = true ∧ zzc 122 = true ∧ zzc 123 = true ∧ zzc 124 = true ∧ zzc 125 = true ∧ zzc 126 = true ∧ zzc 127 = true ∧ zzc 128 = true ∧ zzc 129 = true ∧ zzc 130 = true ∧ zzc 131 = true ∧ zzc 132 = true ∧ zzc 133 = true ∧ zzc 134 = true ∧ zzc 135 = true ∧ zzc 136 = true ∧ zzc 137 = true := by (repeat' apply And.intro) <;> kernel_rfl
@[go_sem] theorem Tryz.facts53 : zzc 138 = true ∧ zzc 139 = true ∧ zzc 140 = true ∧ zzc 141 = true ∧ zzc 142 = true ∧ zzc 143 = true ∧ zzc 144 = true ∧ zzc 145 = true ∧ zzc 146 = true ∧ zzc 147 = true ∧ zzc 148 = true ∧ zzc 149 = true ∧ zzc 150 = true ∧ zzc 151 = true ∧ zzc 152 = true ∧ zzc 153 = true ∧ zzc 154 = true ∧ zzc 155 = true ∧ zzc 156 = true ∧ zzc 157 = true := by (repeat' apply And.intro) <;> kernel_rfl
@[go_sem] theorem Tryz.facts54 : zzc 158 = true ∧ zzc 159 = true ∧ zzc 160 = true ∧ zzc 161 = true ∧ zzc 162 = true ∧ zzc 163 = true ∧ zzc 164 = true ∧ zzc 165 = true ∧ zzc 166 = true ∧ zzc 167 = true ∧ zzc 168 = true ∧ zzc 169 = true ∧ zzc 170 = true ∧ zzc 171 = true ∧ zzc 172 = true ∧ zzc 173 = true ∧ zzc 174 = true ∧ zzc 175 = true ∧ zzc 176 = true ∧ zzc 177 = true := by (repeat' apply And.intro) <;> kernel_rfl
@[go_sem] theorem Tryz.facts55 : zzc 178 = true ∧ zzc 179 = true ∧ zzc 180 = true ∧ zzc 181 = true ∧ zzc 182 = true ∧ zzc 183 = true ∧ zzc 184 = true ∧ zzc 185 = true ∧ zzc 186 = true ∧ zzc 187 = true ∧ zzc 188 = true ∧ zzc 189 = true ∧ zzc 190 = true ∧ zzc 191 = true ∧ zzc 192 = true ∧ zzc 193 = true ∧ zzc 194 = true ∧ zzc 195 = true ∧ zzc 196 = true ∧ zzc 197 = true := by (repeat' apply And.intro) <;> kernel_rfl
@[go_sem] theorem Tryz.facts56 : zzc 198 = true ∧ zzc 199 = true ∧ zzc 201 = true ∧ zzc 202 = true ∧ zzc 205 = true ∧ zzc 206 = true ∧ zzc 207 = true ∧ zzc 209 = true := by (repeat' apply And.intro) <;> kernel_rfl
end Go.Abs
namespace Go.Proofs
end Go.Proofs

namespace Go.Abs
open Go
abbrev iV (n : Int) : AV := .raw (.int .i64 n)
abbrev bV (b : Bool) : AV := .raw (.bool b)
abbrev zLz : AV := .raw (.slice none 0 0)
@[go_sem] theorem zFJ {α β : Type} [Inhabited α] {f : α → β} {l : List α} {i : Nat} {d : β} (h : i < l.length) : (l.map f).getD i d = f (l.getD i default) := by
 simp [List.getD, h]
@[go_sem] theorem zKl (n : Nat) : (0 ≤ (n : Int)) = True := by simp
@[go_sem] theorem zKi (m n : Nat) : ((m : Int) < (n : Int)) = (m < n) := by simp
@[go_sem] theorem zKg (m n : Nat) : ((m : Int) ≤ (n : Int)) = (m ≤ n) := by simp
attribute [go_sem] Int.toNat_natCast List.length_map List.length_append List.length_take Nat.zero_add Nat.add_zero
theorem wrap_i64 {n : Int} (h0 : -9223372036854775808 ≤ n) (h1 : n ≤ 9223372036854775807) : IntKind.i64.wrap n = n := by
 rw [IntKind.wrap_i64]; omega
theorem t8 {n : Nat} (h : n < 9223372036854775807) : IntKind.i64.wrap ((n : Int) + 1) = ((n + 1 : Nat) : Int) := by
 rw [wrap_i64 (by omega) (by omega)]; omega
structure Plate where
 number : Int
 letter : Int
 deriving DecidableEq, Inhabited
structure House where
 street : Int
 plate : Plate
 deriving DecidableEq, Inhabited
abbrev zLo := List (List Plate)
@[reducible] def Plate.enc (p : Plate) : AV := .agg [iV p.number, iV p.letter]
@[reducible] def House.enc (p : House) : AV := .agg [iV p.street, iV p.plate.number, iV p.plate.letter]
@[reducible] def y7 (l : List Plate) : AV := .list (l.map Plate.enc)
@[reducible] def x7 (p : zLo) : AV := .agg [.list (p.map y7)]
attribute [go_sem] Plate.enc House.enc y7 x7
def p8 : Nat → zLo → List House
 | _, [] => []
 | i, l :: r => l.map (fun x => ⟨i, x⟩) ++ p8 (i + 1) r
def q9 (p : zLo) : List House := p8 0 p
end Go.Abs

namespace Go.Abs
open Go
structure Change where
 kind : Int
 street : Int
 other : Int
 src : Plate
 dst : Plate
 deriving DecidableEq, Inhabited
structure Fact where
 src : House
 dst : House
 deriving DecidableEq, Inhabited
structure Story where
 first : zLo
 steps : List (List Change)
 facts : List Fact
 deriving DecidableEq, Inhabited
@[reducible] def Change.enc (c : Change) : AV := .agg [iV c.kind, iV c.street, iV c.other, iV c.src.number, iV c.src.letter, iV c.dst.number, iV c.dst.letter]
@[reducible] def Fact.enc (f : Fact) : AV := .agg [iV f.src.street, iV f.src.plate.number, iV f.src.plate.letter, iV f.dst.street, iV f.dst.plate.number, iV f.dst.plate.letter]
@[reducible] def i9 (l : List Change) : AV := .agg [.list (l.map Change.enc)]
@[reducible] def Story.enc (s : Story) : AV := .agg [.list (s.first.map y7), .list (s.steps.map i9), .list (s.facts.map Fact.enc)]
@[reducible] def Q3 (l : List House) : AV := .list (l.map House.enc)
attribute [go_sem] Change.enc Fact.enc i9 Story.enc Q3
theorem u0 {α : Type} [Inhabited α] {l : List α} {i : Nat} (h : i < l.length) : l.drop i = l.getD i default :: l.drop (i + 1) := by
 rw [List.drop_eq_getElem_cons h]; simp [List.getD, h]
theorem u7 {α : Type} {l : List α} {i : Nat} (h : l.length ≤ i) : l.drop i = [] := List.drop_of_length_le h
theorem w8 {α : Type} [Inhabited α] {l : List α} {i : Nat} (h : i < l.length) : l.getD i default ∈ l := by simp [List.getD, h]
def zLr (n lo hi : Int) : Bool := decide (lo ≤ n) && decide (n ≤ hi)
def Plate.ok (x : Plate) : Bool := zLr x.number 1 40 && zLr x.letter 0 4
def Plate.lt (a b : Plate) : Bool := decide (a.number < b.number) || (decide (a.number = b.number) && decide (a.letter < b.letter))
def House.lt (a b : House) : Bool := decide (a.street < b.street) || (decide (a.street = b.street) && a.plate.lt b.plate)
def zML (a b : Int) : Int := if a < b then -1 else if b < a then 1 else 0
def orI (a b : Int) : Int := if a = 0 then b else a
def zL0 (a b : Plate) : Int := orI (zML a.number b.number) (zML a.letter b.letter)
def zME (a b : House) : Int := orI (zML a.street b.street) (zL0 a.plate b.plate)
def p4 : Option Plate → List Plate → Int
 | _, [] => 0
 | none, x :: r => if x.ok = true then p4 (some x) r else 1
 | some y, x :: r => if x.ok = true then (if y.lt x = true then p4 (some x) r else 5) else 1
def j3 : zLo → Int
 | [] => 0
 | l :: r => if 8 < l.length then 6 else if p4 none l = 0 then j3 r else p4 none l
def check (p : zLo) : Int := if p.length = 0 then 7 else if 3 < p.length then 6 else j3 p
structure Sound (l : List Plate) : Prop where
 len : l.length ≤ 8
 ok : ∀ x, x ∈ l → x.ok = true
 sorted : l.Pairwise (fun x y => x.lt y = true)
structure Valid (p : zLo) : Prop where
 ne : 0 < p.length
 len : p.length ≤ 3
 rows : ∀ l, l ∈ p → Sound l
def q7 (p : zLo) (s : Int) : List Plate := p.getD s.toNat default
def zLv (x : Plate) : Bool := decide (x.number % 2 = 1)
def base (l : List Plate) : Int := let n := l.foldl (fun n x => max n x.number) 0; n + n % 2
def zMI (l : List Plate) (x : Plate) : Int := if x ∈ l then (l.idxOf x : Nat) else -1
def letter (l : List Plate) (n : Int) : Int :=
 if ⟨n, 1⟩ ∉ l then 1 else if ⟨n, 2⟩ ∉ l then 2 else if ⟨n, 3⟩ ∉ l then 3 else if ⟨n, 4⟩ ∉ l then 4 else 0
def x9 (p : zLo) (c : Change) : Int :=
 let l := q7 p c.street
 if c.kind = 4 then
  let o := q7 p c.other
  if 8 < l.length + o.length then 6 else if l.any (fun x => decide (40 < x.number + base o)) = true then 1 else 0
 else if c.kind = 5 then if c.src ∉ l then 3 else if l.length = 8 ∨ letter l c.src.number = 0 then 6 else 0
 else if c.kind = 6 then if c.src ∉ l then 3 else 0
 else if c.kind = 7 then if c.src ∉ l ∨ c.dst ∉ l then 3 else if c.dst.lt c.src = true then 5 else if 0 < (q7 p c.other).length then 12 else 0
 else 0
def zeroPlate : Plate := ⟨0, 0⟩
def can (p : zLo) (c : Change) : Int :=
 if zLr c.kind 1 7 = false then 8
 else if zLr c.street 0 (p.length - 1) = false then 3
 else if (c.kind = 4 ∨ c.kind = 7) ∧ zLr c.other 0 (p.length - 1) = false then 3
 else if (c.kind = 4 ∨ c.kind = 7) ∧ c.other = c.street then 4
 else if (¬ (c.kind = 4 ∨ c.kind = 7) ∧ c.other ≠ 0) ∨ (¬ 5 ≤ c.kind ∧ c.src ≠ zeroPlate) ∨ (¬ c.kind = 7 ∧ c.dst ≠ zeroPlate) then 1
 else x9 p c
def toP (p : zLo) (c : Change) (x : Plate) : List House :=
 let l := q7 p c.street
 let own := l.filter (fun y => zLv y == zLv x)
 let k := own.idxOf x
 if c.kind = 1 then [⟨c.street, own.getD (own.length - 1 - k) default⟩]
 else if c.kind = 2 then [⟨c.street, ⟨if zLv x = true then x.number + 1 else x.number - 1, x.letter⟩⟩]
 else if c.kind = 3 then [⟨c.street, ⟨2 * (k : Nat) + 2 - x.number % 2, 0⟩⟩]
 else if c.kind = 4 then [⟨c.other, ⟨x.number + base (q7 p c.other), x.letter⟩⟩]
 else if c.kind = 5 then if x = c.src then [⟨c.street, x⟩, ⟨c.street, ⟨x.number, letter l x.number⟩⟩] else [⟨c.street, x⟩]
 else if c.kind = 6 then if x = c.src then [] else [⟨c.street, x⟩]
 else if c.kind = 7 then if x.lt c.src = false ∧ c.dst.lt x = false then [⟨c.other, ⟨zMI l x - zMI l c.src + 1, 0⟩⟩] else [⟨c.street, x⟩]
 else [⟨c.street, x⟩]
def mv (p : zLo) (c : Change) (h : House) : List House := if h.street = c.street then toP p c h.plate else [h]
def zL2 (x : House) : List House → List House
 | [] => [x]
 | y :: r => if y.lt x = true then y :: zL2 x r else if y = x then y :: r else x :: y :: r
def s6 (l : List House) : List House := l.foldl (fun out x => zL2 x out) []
def zL6 (l : List House) (n : Nat) : zLo := (List.range n).map fun (s : Nat) => ((s6 l).filter (fun h => h.street == (s : Int))).map House.plate
def j8 (p : zLo) (c : Change) : List House := (q9 p).flatMap (mv p c)
def s9 (p : zLo) (c : Change) : zLo := zL6 (j8 p c) p.length
def o4 (p : zLo) (c : Change) : Int := if check p = 0 then can p c else check p
def B8 (kind : Int) (p : zLo) (s : Nat) : List Change :=
 if kind = 4 then (List.range p.length).map fun o => ⟨4, s, (o : Nat), zeroPlate, zeroPlate⟩
 else if kind = 5 ∨ kind = 6 then (p.getD s default).map fun x => ⟨kind, s, 0, x, zeroPlate⟩
 else [⟨kind, s, 0, zeroPlate, zeroPlate⟩]
def B9 (p : zLo) : List Change := ([1, 2, 3, 4, 5, 6] : List Int).flatMap fun k => (List.range p.length).flatMap fun s => (B8 k p s).filter fun c => decide (can p c = 0)
def l3 {α β : Type} (f : α → Option β) : List α → Option β
 | [] => none
 | x :: r => match f x with
  | some y => some y
  | none => l3 f r
def r7 : Nat → zLo → zLo → Option (List Change)
 | 0, p, q => if p = q then some [] else none
 | n + 1, p, q => l3 (fun c => (r7 n (s9 p c) q).map (c :: ·)) (B9 p)
def O0 (p q : zLo) : Option (List Change) := l3 (fun n => r7 n p q) [0, 1, 2]
end Go.Abs

namespace Go.Abs
open Go
theorem Plate.lt_iff (a b : Plate) : a.lt b = true ↔ a.number < b.number ∨ (a.number = b.number ∧ a.letter < b.letter) := by simp [Plate.lt]
theorem House.lt_iff (a b : House) : a.lt b = true ↔ a.street < b.street ∨ (a.street = b.street ∧ (a.plate.number < b.plate.number ∨ (a.plate.number = b.plate.number ∧ a.plate.letter < b.plate.letter))) := by simp [House.lt, Plate.lt]
theorem Plate.eq_iff (a b : Plate) : a = b ↔ a.number = b.number ∧ a.letter = b.letter := by cases a; cases b; simp
theorem House.eq_iff (a b : House) : a = b ↔ a.street = b.street ∧ a.plate.number = b.plate.number ∧ a.plate.letter = b.plate.letter := by
 cases a with | mk s p => cases b with | mk t q => cases p; cases q; simp
theorem Plate.lt_trans {a b c : Plate} (h1 : a.lt b = true) (h2 : b.lt c = true) : a.lt c = true := by rw [Plate.lt_iff] at *; omega
theorem House.lt_trans {a b c : House} (h1 : a.lt b = true) (h2 : b.lt c = true) : a.lt c = true := by rw [House.lt_iff] at *; omega
theorem Plate.lt_irrefl (a : Plate) : ¬ a.lt a = true := by rw [Plate.lt_iff]; omega
theorem House.lt_irrefl (a : House) : ¬ a.lt a = true := by rw [House.lt_iff]; omega
theorem House.lt_tri (a b : House) : a.lt b = true ∨ a = b ∨ b.lt a = true := by rw [House.lt_iff, House.lt_iff, House.eq_iff]; omega
theorem Plate.lt_tri (a b : Plate) : a.lt b = true ∨ a = b ∨ b.lt a = true := by rw [Plate.lt_iff, Plate.lt_iff, Plate.eq_iff]; omega
theorem L6 (a b : Plate) : zL0 a b < 0 ↔ a.lt b = true := by
 rw [Plate.lt_iff]; unfold zL0 orI zML; repeat' split
 all_goals omega
theorem A0 (a b : House) : zME a b < 0 ↔ a.lt b = true := by
 rw [House.lt_iff]; unfold zME zL0 orI zML; repeat' split
 all_goals omega
theorem mem_insH {x z : House} : ∀ {l : List House}, z ∈ zL2 x l ↔ z = x ∨ z ∈ l
 | [] => by simp [zL2]
 | y :: r => by
  simp only [zL2]
  split
  ·simp only [List.mem_cons, mem_insH (l := r)]
   constructor
   ·rintro (h | h | h) <;> simp [h]
   ·rintro (h | h | h) <;> simp [h]
  ·split
   ·rename_i e; subst e; simp
   ·simp
abbrev Strict (l : List House) : Prop := l.Pairwise (fun a b => a.lt b = true)
theorem zDM {x : House} : ∀ {l : List House}, Strict l → Strict (zL2 x l)
 | [], _ => by simp [zL2, Strict]
 | y :: r, h => by
  obtain ⟨h1, h2⟩ := List.pairwise_cons.1 h
  simp only [zL2]
  split
  ·rename_i hy
   refine List.pairwise_cons.2 ⟨fun z hz => ?_, zDM h2⟩
   rcases mem_insH.1 hz with rfl | hz
   ·exact hy
   ·exact h1 z hz
  ·rename_i hy
   split
   ·exact h
   ·rename_i hne
    have hxy : x.lt y = true := by
     rcases House.lt_tri x y with h | h | h
     ·exact h
     ·exact absurd h.symm hne
     ·exact absurd h hy
    refine List.pairwise_cons.2 ⟨fun z hz => ?_, h⟩
    rcases List.mem_cons.1 hz with rfl | hz
    ·exact hxy
    ·exact House.lt_trans hxy (h1 z hz)
theorem zCu (l : List House) : ∀ out : List House, Strict out → Strict (l.foldl (fun out x => zL2 x out) out) ∧ ∀ z, z ∈ l.foldl (fun out x => zL2 x out) out ↔ z ∈ out ∨ z ∈ l := by
 induction l with
 | nil => intro out h; exact ⟨h, fun z => by simp⟩
 | cons x r ih =>
  intro out h
  obtain ⟨h1, h2⟩ := ih (zL2 x out) (zDM h)
  refine ⟨h1, fun z => ?_⟩
  simp only [List.foldl_cons]
  rw [h2, mem_insH, List.mem_cons]
  constructor
  ·rintro ((h | h) | h) <;> simp [h]
  ·rintro (h | h | h) <;> simp [h]
theorem R3 (l : List House) : Strict (s6 l) := (zCu l [] List.Pairwise.nil).1
theorem mem_sortH {l : List House} {z : House} : z ∈ s6 l ↔ z ∈ l := by
 have := (zCu l [] List.Pairwise.nil).2 z
 simpa [s6] using this
theorem I7 : ∀ {a b : List House}, Strict a → Strict b → (∀ z, z ∈ a ↔ z ∈ b) → a = b
 | [], [], _, _, _ => rfl
 | [], y :: b, _, _, h => absurd ((h y).2 (by simp)) (by simp)
 | x :: a, [], _, _, h => absurd ((h x).1 (by simp)) (by simp)
 | x :: a, y :: b, ha, hb, h => by
  obtain ⟨a1, a2⟩ := List.pairwise_cons.1 ha
  obtain ⟨b1, b2⟩ := List.pairwise_cons.1 hb
  have hxy : x = y := by
   rcases List.mem_cons.1 ((h x).1 (by simp)) with e | h1
   ·exact e
   ·rcases List.mem_cons.1 ((h y).2 (by simp)) with e | h2
    ·exact e.symm
    ·exact absurd (House.lt_trans (b1 x h1) (a1 y h2)) (House.lt_irrefl _)
  subst hxy
  have : a = b := I7 a2 b2 (fun z => by
   have hz := h z
   simp only [List.mem_cons] at hz
   constructor
   ·intro hm
    rcases hz.1 (.inr hm) with e | hm'
    ·subst e; exact absurd (a1 z hm) (House.lt_irrefl _)
    ·exact hm'
   ·intro hm
    rcases hz.2 (.inr hm) with e | hm'
    ·subst e; exact absurd (b1 z hm) (House.lt_irrefl _)
    ·exact hm')
  rw [this]
theorem zG9 {a b : List House} (h : ∀ z, z ∈ a ↔ z ∈ b) : s6 a = s6 b := I7 (R3 _) (R3 _) (fun z => by rw [mem_sortH, mem_sortH, h])
theorem Strict.nodup {l : List House} (h : Strict l) : l.Nodup := h.imp (fun {a b} hab e => by subst e; exact House.lt_irrefl _ hab)
theorem zBP : ∀ (l : List Plate) (o : Option Plate), p4 o l = 0 ↔ (∀ x, x ∈ l → x.ok = true) ∧ l.Pairwise (fun x y => x.lt y = true) ∧ ∀ y, o = some y → ∀ x, x ∈ l → y.lt x = true
 | [], o => by cases o <;> simp [p4]
 | x :: r, o => by
  have key : p4 o (x :: r) = 0 ↔ x.ok = true ∧ (∀ y, o = some y → y.lt x = true) ∧ p4 (some x) r = 0 := by
   cases o with
   | none => simp only [p4]; by_cases h : x.ok = true <;> simp [h]
   | some y => simp only [p4]; by_cases h : x.ok = true <;> by_cases h' : y.lt x = true <;> simp [h, h']
  rw [key, zBP r (some x)]
  constructor
  ·rintro ⟨h1, h2, h3, h4, h5⟩
   refine ⟨fun z hz => ?_, List.pairwise_cons.2 ⟨fun z hz => h5 x rfl z hz, h4⟩, fun y e z hz => ?_⟩
   ·rcases List.mem_cons.1 hz with rfl | hz
    ·exact h1
    ·exact h3 z hz
   ·rcases List.mem_cons.1 hz with rfl | hz
    ·exact h2 y e
    ·exact Plate.lt_trans (h2 y e) (h5 x rfl z hz)
  ·rintro ⟨h1, h2, h3⟩
   obtain ⟨h4, h5⟩ := List.pairwise_cons.1 h2
   exact ⟨h1 x (by simp), fun y e => h3 y e x (by simp), fun z hz => h1 z (by simp [hz]), h5, fun y e z hz => by cases e; exact h4 z hz⟩
theorem zBQ : ∀ (p : zLo), j3 p = 0 ↔ ∀ l, l ∈ p → Sound l
 | [] => by simp [j3]
 | l :: r => by
  have key : j3 (l :: r) = 0 ↔ l.length ≤ 8 ∧ p4 none l = 0 ∧ j3 r = 0 := by
   simp only [j3]
   by_cases h : 8 < l.length
   ·rw [if_pos h]; exact ⟨fun e => by omega, fun e => by omega⟩
   ·rw [if_neg h]
    by_cases h' : p4 none l = 0
    ·rw [if_pos h']; exact ⟨fun e => ⟨by omega, h', e⟩, fun e => e.2.2⟩
    ·rw [if_neg h']; exact ⟨fun e => absurd e h', fun e => absurd e.2.1 h'⟩
  rw [key, zBQ r, zBP]
  constructor
  ·rintro ⟨h1, ⟨h2, h3, _⟩, h4⟩ m hm
   rcases List.mem_cons.1 hm with rfl | hm
   ·exact ⟨h1, h2, h3⟩
   ·exact h4 m hm
  ·intro h
   have hl := h l (by simp)
   exact ⟨hl.len, ⟨hl.ok, hl.sorted, fun y e => by cases e⟩, fun m hm => h m (by simp [hm])⟩
theorem T1 (p : zLo) : check p = 0 ↔ Valid p := by
 unfold check
 by_cases h : p.length = 0
 ·simp only [h, if_true]; exact ⟨fun e => by omega, fun v => absurd v.ne (by omega)⟩
 ·by_cases h' : 3 < p.length
  ·simp only [h, h', if_true, if_false]; exact ⟨fun e => by omega, fun v => absurd v.len (by omega)⟩
  ·simp only [h, h', if_false, zBQ]
   exact ⟨fun hr => ⟨by omega, by omega, hr⟩, fun v => v.rows⟩
theorem zFn (k : Nat) (p : zLo) : p8 k p = (List.range p.length).flatMap fun s => (p.getD s default).map fun x => (⟨((k + s : Nat) : Int), x⟩ : House) := by
 induction p generalizing k with
 | nil => simp [p8]
 | cons l r ih =>
  simp only [p8, List.length_cons, List.range_succ_eq_map, List.flatMap_cons, List.flatMap_map, ih]
  simp [Nat.add_assoc, Nat.add_comm 1]
theorem F0 (p : zLo) : q9 p = (List.range p.length).flatMap fun s => (p.getD s default).map fun x => (⟨(s : Nat), x⟩ : House) := by
 have := zFn 0 p
 simpa [q9] using this
theorem mem_houses {p : zLo} {h : House} : h ∈ q9 p ↔ 0 ≤ h.street ∧ h.street < p.length ∧ h.plate ∈ q7 p h.street := by
 rw [F0]
 simp only [List.mem_flatMap, List.mem_range, List.mem_map, q7]
 constructor
 ·rintro ⟨s, hs, x, hx, rfl⟩
  exact ⟨by simp, by simp; exact hs, by simpa using hx⟩
 ·rintro ⟨h0, h1, h2⟩
  refine ⟨h.street.toNat, by omega, h.plate, h2, ?_⟩
  cases h; simp at *; omega
theorem zGr {p : zLo} {s : Int} (h0 : 0 ≤ s) (h1 : s < p.length) : q7 p s ∈ p := w8 (by omega)
theorem Valid.row {p : zLo} (v : Valid p) (s : Int) : Sound (q7 p s) := by
 unfold q7
 by_cases h : s.toNat < p.length
 ·exact v.rows _ (w8 h)
 ·simp only [List.getD_eq_getElem?_getD, List.getElem?_eq_none (Nat.le_of_not_lt h), Option.getD_none]
  show Sound []
  exact ⟨by simp, fun x hx => by simp at hx, List.Pairwise.nil⟩
theorem zDL {p : zLo} (v : Valid p) : Strict (q9 p) := by
 rw [F0]
 have key : ∀ n, n ≤ p.length → Strict ((List.range n).flatMap fun s => (p.getD s default).map fun x => (⟨(s : Nat), x⟩ : House)) := by
  intro n
  induction n with
  | zero => intro _; simp [Strict]
  | succ n ih =>
   intro hn
   rw [List.range_succ, List.flatMap_append]
   refine List.pairwise_append.2 ⟨ih (by omega), ?_, fun a ha b hb => ?_⟩
   ·simp only [List.flatMap_cons, List.flatMap_nil, List.append_nil]
    rw [List.pairwise_map]
    exact (v.rows _ (w8 (by omega))).sorted.imp (fun {x y} h => by rw [House.lt_iff]; rw [Plate.lt_iff] at h; exact .inr ⟨rfl, h⟩)
   ·simp only [List.mem_flatMap, List.mem_range, List.mem_map, List.flatMap_cons, List.flatMap_nil, List.append_nil] at ha hb
    obtain ⟨s, hs, x, _, rfl⟩ := ha
    obtain ⟨y, _, rfl⟩ := hb
    rw [House.lt_iff]; left; simp; omega
 exact key _ (Nat.le_refl _)
end Go.Abs

namespace Go.Abs
open Go
theorem N2 {α : Type} [DecidableEq α] : ∀ {a b : List α}, a.Nodup → (∀ x, x ∈ a → x ∈ b) → a.length ≤ b.length
 | [], _, _, _ => by simp
 | y :: r, b, hn, hs => by
  obtain ⟨hy, hr⟩ := List.nodup_cons.1 hn
  have hyb := hs y (by simp)
  have hlen := List.length_erase_of_mem hyb
  have hpos : 0 < b.length := List.length_pos_of_mem hyb
  have := N2 (b := b.erase y) hr (fun z hz => (List.mem_erase_of_ne (fun e => by subst e; exact hy hz)).2 (hs z (by simp [hz])))
  simp; omega
theorem zIH {p : zLo} (v : ∀ l, l ∈ p → l.Pairwise (fun x y : Plate => x.lt y = true)) : Strict (q9 p) := by
 rw [F0]
 have key : ∀ n, n ≤ p.length → Strict ((List.range n).flatMap fun s => (p.getD s default).map fun x => (⟨(s : Nat), x⟩ : House)) := by
  intro n
  induction n with
  | zero => intro _; simp [Strict]
  | succ n ih =>
   intro hn
   rw [List.range_succ, List.flatMap_append]
   refine List.pairwise_append.2 ⟨ih (by omega), ?_, fun a ha b hb => ?_⟩
   ·simp only [List.flatMap_cons, List.flatMap_nil, List.append_nil]
    rw [List.pairwise_map]
    exact (v _ (w8 (by omega))).imp (fun {x y} h => by rw [House.lt_iff]; rw [Plate.lt_iff] at h; exact .inr ⟨rfl, h⟩)
   ·simp only [List.mem_flatMap, List.mem_range, List.mem_map, List.flatMap_cons, List.flatMap_nil, List.append_nil] at ha hb
    obtain ⟨s, hs, x, _, rfl⟩ := ha
    obtain ⟨y, _, rfl⟩ := hb
    rw [House.lt_iff]; left; simp; omega
 exact key _ (Nat.le_refl _)
theorem O5 (l : List House) (n : Nat) : (zL6 l n).length = n := by simp [zL6]
theorem zCE (l : List House) (n : Nat) {s : Int} (h0 : 0 ≤ s) (h1 : s < n) : q7 (zL6 l n) s = ((s6 l).filter (fun h => h.street == s)).map House.plate := by
 unfold q7 zL6
 have : s.toNat < n := by omega
 simp only [List.getD_eq_getElem?_getD, List.getElem?_map, List.getElem?_range this, Option.map_some, Option.getD_some]
 congr 1
 refine List.filter_congr (fun h _ => ?_)
 rw [Int.toNat_of_nonneg h0]
theorem S3 {l : List House} {n : Nat} {s : Int} (h0 : 0 ≤ s) (h1 : s < n) {x : Plate} : x ∈ q7 (zL6 l n) s ↔ (⟨s, x⟩ : House) ∈ l := by
 rw [zCE l n h0 h1]
 simp only [List.mem_map, List.mem_filter, mem_sortH, beq_iff_eq]
 constructor
 ·rintro ⟨h, ⟨hm, rfl⟩, rfl⟩; exact hm
 ·intro h; exact ⟨_, ⟨h, rfl⟩, rfl⟩
theorem I3 {l : List House} {n : Nat} {s : Int} (h0 : 0 ≤ s) (h1 : s < n) : (q7 (zL6 l n) s).Pairwise (fun x y => x.lt y = true) := by
 rw [zCE l n h0 h1, List.pairwise_map]
 refine ((R3 l).filter _).imp_of_mem (fun {a b} ha hb hab => ?_)
 have e1 : a.street = s := by simpa using (List.mem_filter.1 ha).2
 have e2 : b.street = s := by simpa using (List.mem_filter.1 hb).2
 rw [House.lt_iff] at hab; rw [Plate.lt_iff]; omega
theorem zCP {p : zLo} {l : List Plate} (h : l ∈ p) : ∃ s : Int, 0 ≤ s ∧ s < p.length ∧ q7 p s = l := by
 obtain ⟨i, hi, rfl⟩ := List.getElem_of_mem h
 exact ⟨i, by omega, by omega, by simp [q7, hi]⟩
theorem zFp {l : List House} {n : Nat} (h : ∀ z, z ∈ l → 0 ≤ z.street ∧ z.street < n) : q9 (zL6 l n) = s6 l := by
 refine I7 (zIH (fun r hr => ?_)) (R3 l) (fun z => ?_)
 ·obtain ⟨s, h0, h1, rfl⟩ := zCP hr
  rw [O5] at h1
  exact I3 h0 h1
 ·rw [mem_houses, mem_sortH, O5]
  constructor
  ·rintro ⟨h0, h1, h2⟩; exact (S3 h0 h1).1 h2
  ·intro hz
   obtain ⟨h0, h1⟩ := h z hz
   exact ⟨h0, h1, (S3 h0 h1).2 hz⟩
theorem zGa {p q : zLo} (h : p.length = q.length) (hr : ∀ s : Int, 0 ≤ s → s < p.length → q7 p s = q7 q s) : p = q := by
 apply List.ext_getElem h
 intro i h1 h2
 have := hr i (by omega) (by omega)
 simpa [q7, h1, h2] using this
theorem zCg : ∀ {a b : List Plate}, a.Pairwise (fun x y => x.lt y = true) → b.Pairwise (fun x y => x.lt y = true) → (∀ z, z ∈ a ↔ z ∈ b) → a = b := by
 intro a b ha hb h
 have key : ∀ {l : List Plate}, l.Pairwise (fun x y => x.lt y = true) → Strict (l.map fun x => (⟨0, x⟩ : House)) := fun {l} hl => by
  rw [Strict, List.pairwise_map]
  exact hl.imp (fun {x y} h => by rw [House.lt_iff]; rw [Plate.lt_iff] at h; exact .inr ⟨rfl, h⟩)
 have := I7 (key ha) (key hb) (fun z => by
  simp only [List.mem_map]
  constructor
  ·rintro ⟨x, hx, rfl⟩; exact ⟨x, (h x).1 hx, rfl⟩
  ·rintro ⟨x, hx, rfl⟩; exact ⟨x, (h x).2 hx, rfl⟩)
 have h2 := congrArg (List.map House.plate) this
 simpa [List.map_map, Function.comp_def] using h2
theorem zKK {p : zLo} (v : Valid p) : zL6 (q9 p) p.length = p := by
 refine zGa (O5 _ _) (fun s h0 h1 => ?_)
 rw [O5] at h1
 refine zCg (I3 h0 h1) (v.row s).sorted (fun z => ?_)
 rw [S3 h0 h1, mem_houses]
 exact ⟨fun h => h.2.2, fun h => ⟨h0, h1, h⟩⟩
structure Fit (p : zLo) (c : Change) : Prop where
 kind : 1 ≤ c.kind ∧ c.kind ≤ 7
 street : 0 ≤ c.street ∧ c.street < p.length
 other : c.kind = 4 ∨ c.kind = 7 → 0 ≤ c.other ∧ c.other < p.length ∧ c.other ≠ c.street
 fits : x9 p c = 0
theorem betw_iff {n a b : Int} : zLr n a b = true ↔ a ≤ n ∧ n ≤ b := by simp [zLr]
theorem betw_no {n a b : Int} : zLr n a b = false ↔ ¬ (a ≤ n ∧ n ≤ b) := by rw [← betw_iff]; simp
theorem Fit.of_can {p : zLo} {c : Change} (h : can p c = 0) : Fit p c := by
 unfold can at h
 split at h
 ·omega
 rename_i h1
 split at h
 ·omega
 rename_i h2
 split at h
 ·omega
 rename_i h3
 split at h
 ·omega
 rename_i h4
 split at h
 ·omega
 simp only [Bool.not_eq_false, betw_iff, betw_no] at h1 h2 h3
 exact ⟨by omega, by omega, fun hk => by omega, h⟩
theorem X0 {l : List Plate} {x : Plate} (h : x ∈ l) : l.idxOf x < l.length := List.idxOf_lt_length_of_mem h
theorem S0 {l : List Plate} {x : Plate} (h : x ∈ l) : l[l.idxOf x]'(X0 h) = x := by simp [List.getElem_idxOf]
theorem F1 {l : List Plate} {x y : Plate} (hx : x ∈ l) (hy : y ∈ l) (h : l.idxOf x = l.idxOf y) : x = y := by
 rw [← S0 hx, ← S0 hy]; congr 1
theorem Sound.nodup {l : List Plate} (h : Sound l) : l.Nodup := h.sorted.imp (fun {a b} hab e => by subst e; exact Plate.lt_irrefl _ hab)
theorem o3 (x : Plate) : x.ok = true ↔ (1 ≤ x.number ∧ x.number ≤ 40) ∧ 0 ≤ x.letter ∧ x.letter ≤ 4 := by simp [Plate.ok, zLr]
theorem zDt {l : List Plate} {x : Plate} (h : x ∈ l) : x.number ≤ base l := by
  have key : ∀ (l : List Plate) (n : Int), n ≤ l.foldl (fun n x => max n x.number) n ∧ ∀ x, x ∈ l → x.number ≤ l.foldl (fun n x => max n x.number) n := by
    intro l
    induction l with
    | nil => intro n; simp
    | cons y r ih =>
      intro n
      obtain ⟨h1, h2⟩ := ih (max n y.number)
      simp only [List.foldl_cons]
      exact ⟨by omega, fun x hx => by rcases List.mem_cons.1 hx with rfl | hx; · omega
                                      · exact h2 x hx⟩
  have := (key l 0).2 x h
  unfold base; simp only; omega
theorem zBI (l : List Plate) : 0 ≤ base l := by
 have key : ∀ (l : List Plate) (n : Int), n ≤ l.foldl (fun n x => max n x.number) n := by
  intro l
  induction l with
  | nil => intro n; simp
  | cons y r ih => intro n; have := ih (max n y.number); simp only [List.foldl_cons]; omega
 have := key l 0
 unfold base; simp only; omega
theorem zAS {l : List Plate} {n : Int} (h : letter l n ≠ 0) : 1 ≤ letter l n ∧ letter l n ≤ 4 ∧ (⟨n, letter l n⟩ : Plate) ∉ l := by
 unfold letter at *
 repeat' split
 all_goals simp_all
section
variable {p : zLo} {c : Change} {x : Plate}
theorem M5 (h : c.kind = 1) : toP p c x = [⟨c.street, ((q7 p c.street).filter (fun y => zLv y == zLv x)).getD (((q7 p c.street).filter (fun y => zLv y == zLv x)).length - 1 - ((q7 p c.street).filter (fun y => zLv y == zLv x)).idxOf x) default⟩] := by simp [toP, h]
theorem R7 (h : c.kind = 2) : toP p c x = [⟨c.street, ⟨if zLv x = true then x.number + 1 else x.number - 1, x.letter⟩⟩] := by simp [toP, h]
theorem M4 (h : c.kind = 3) : toP p c x = [⟨c.street, ⟨2 * (((q7 p c.street).filter (fun y => zLv y == zLv x)).idxOf x : Nat) + 2 - x.number % 2, 0⟩⟩] := by simp [toP, h]
theorem R6 (h : c.kind = 4) : toP p c x = [⟨c.other, ⟨x.number + base (q7 p c.other), x.letter⟩⟩] := by simp [toP, h]
theorem U7 (h : c.kind = 5) : toP p c x = if x = c.src then [⟨c.street, x⟩, ⟨c.street, ⟨x.number, letter (q7 p c.street) x.number⟩⟩] else [⟨c.street, x⟩] := by simp [toP, h]
theorem R5 (h : c.kind = 6) : toP p c x = if x = c.src then [] else [⟨c.street, x⟩] := by simp [toP, h]
theorem R4 (h : c.kind = 7) : toP p c x = if x.lt c.src = false ∧ c.dst.lt x = false then [⟨c.other, ⟨zMI (q7 p c.street) x - zMI (q7 p c.street) c.src + 1, 0⟩⟩] else [⟨c.street, x⟩] := by simp [toP, h]
end
theorem N0 {l : List Plate} {x : Plate} (h : x ∈ l) : x ∈ l.filter (fun y => zLv y == zLv x) := List.mem_filter.2 ⟨h, by simp⟩
theorem zBf {p : zLo} {c : Change} (h : c.kind = 4) (hf : x9 p c = 0) : (q7 p c.street).length + (q7 p c.other).length ≤ 8 ∧ ∀ x, x ∈ q7 p c.street → x.number + base (q7 p c.other) ≤ 40 := by
 unfold x9 at hf
 simp only [h, if_true] at hf
 split at hf
 ·omega
 ·split at hf
  ·omega
  ·rename_i h1 h2
   refine ⟨by omega, fun x hx => ?_⟩
   simp only [List.any_eq_true, decide_eq_true_eq, not_exists, not_and] at h2
   have := h2 x hx; omega
theorem L9 {p : zLo} {c : Change} (h : c.kind = 5) : x9 p c = if c.src ∉ q7 p c.street then 3 else if (q7 p c.street).length = 8 ∨ letter (q7 p c.street) c.src.number = 0 then 6 else 0 := by
 unfold x9; rw [if_neg (by omega), if_pos h]
theorem zBe {p : zLo} {c : Change} (h : c.kind = 6) : x9 p c = if c.src ∉ q7 p c.street then 3 else 0 := by
 unfold x9; rw [if_neg (by omega), if_neg (by omega), if_pos h]
theorem G2 {p : zLo} {c : Change} (h : c.kind = 7) : x9 p c = if c.src ∉ q7 p c.street ∨ c.dst ∉ q7 p c.street then 3 else if c.dst.lt c.src = true then 5 else if 0 < (q7 p c.other).length then 12 else 0 := by
 unfold x9; rw [if_neg (by omega), if_neg (by omega), if_neg (by omega), if_pos h]
theorem K1 {p : zLo} {c : Change} (h : c.kind = 5) (hf : x9 p c = 0) : c.src ∈ q7 p c.street ∧ (q7 p c.street).length ≠ 8 ∧ letter (q7 p c.street) c.src.number ≠ 0 := by
 rw [L9 h] at hf
 split at hf
 ·exact absurd hf (by omega)
 ·split at hf
  ·exact absurd hf (by omega)
  ·rename_i h1 h2
   exact ⟨Decidable.not_not.1 h1, fun e => h2 (.inl e), fun e => h2 (.inr e)⟩
theorem G3 {p : zLo} {c : Change} (h : c.kind = 7) (hf : x9 p c = 0) : c.src ∈ q7 p c.street ∧ c.dst ∈ q7 p c.street ∧ ¬ c.dst.lt c.src = true ∧ q7 p c.other = [] := by
 rw [G2 h] at hf
 split at hf
 ·exact absurd hf (by omega)
 ·split at hf
  ·exact absurd hf (by omega)
  ·split at hf
   ·exact absurd hf (by omega)
   ·rename_i h1 h2 h3
    exact ⟨Decidable.not_not.1 fun e => h1 (.inl e), Decidable.not_not.1 fun e => h1 (.inr e), h2, List.eq_nil_of_length_eq_zero (by omega)⟩
end Go.Abs

namespace Go.Abs
open Go
theorem V9 (x : Plate) : zLv x = true ↔ x.number % 2 = 1 := by simp [zLv]
theorem F6 (x y : Plate) : (zLv x == zLv y) = true ↔ x.number % 2 = y.number % 2 := by
 rw [beq_iff_eq, Bool.eq_iff_iff, V9, V9]; omega
theorem zAe {p : zLo} {c : Change} {x : Plate} (hx : x ∈ q7 p c.street) (j : Nat) :
  let o := (q7 p c.street).filter (fun y => zLv y == zLv x)
  o.getD (o.length - 1 - j) default ∈ q7 p c.street ∧ (o.getD (o.length - 1 - j) default).number % 2 = x.number % 2 := by
 intro o
 have hm := N0 hx
 have hpos : 0 < o.length := List.length_pos_of_mem hm
 have := w8 (l := o) (i := o.length - 1 - j) (by omega)
 obtain ⟨h1, h2⟩ := List.mem_filter.1 this
 exact ⟨h1, (F6 _ _).1 h2⟩
theorem Q5 {l : List Plate} {x : Plate} (h : x ∈ l) : zMI l x = (l.idxOf x : Nat) := by simp [zMI, h]
theorem D5 {l : List Plate} (hs : l.Pairwise (fun x y => x.lt y = true)) {x y : Plate} (hx : x ∈ l) (hy : y ∈ l) : x.lt y = true ↔ l.idxOf x < l.idxOf y := by
 have key : ∀ {a b : Plate}, a ∈ l → b ∈ l → l.idxOf a < l.idxOf b → a.lt b = true := fun {a b} ha hb h => by
  have := (List.pairwise_iff_getElem.1 hs) _ _ (X0 ha) (X0 hb) h
  rwa [S0 ha, S0 hb] at this
 constructor
 ·intro h
  rcases Nat.lt_trichotomy (l.idxOf x) (l.idxOf y) with h' | h' | h'
  ·exact h'
  ·exact absurd h (by rw [F1 hx hy h']; exact Plate.lt_irrefl _)
  ·exact absurd (Plate.lt_trans h (key hy hx h')) (Plate.lt_irrefl _)
 ·exact key hx hy
theorem K7 {k : Int} (h : 1 ≤ k ∧ k ≤ 7) : k = 1 ∨ k = 2 ∨ k = 3 ∨ k = 4 ∨ k = 5 ∨ k = 6 ∨ k = 7 := by omega
theorem zAz {p : zLo} {c : Change} (v : Valid p) (f : Fit p c) {x : Plate} (hx : x ∈ q7 p c.street) {z : House} (hz : z ∈ toP p c x) :
  (z.street = c.street ∨ ((c.kind = 4 ∨ c.kind = 7) ∧ z.street = c.other)) ∧ z.plate.ok = true := by
 have hs := v.row c.street
 have hxo := (o3 x).1 (hs.ok x hx)
 rcases K7 f.kind with h | h | h | h | h | h | h
 ·rw [M5 h] at hz
  simp only [List.mem_cons, List.not_mem_nil, or_false] at hz
  subst hz
  exact ⟨.inl rfl, hs.ok _ (zAe hx _).1⟩
 ·rw [R7 h] at hz
  simp only [List.mem_cons, List.not_mem_nil, or_false] at hz
  subst hz
  refine ⟨.inl rfl, (o3 _).2 ?_⟩
  simp only
  split
  ·rename_i ho; rw [V9] at ho; omega
  ·rename_i ho; rw [V9] at ho; omega
 ·rw [M4 h] at hz
  simp only [List.mem_cons, List.not_mem_nil, or_false] at hz
  subst hz
  refine ⟨.inl rfl, (o3 _).2 ?_⟩
  have h1 := X0 (N0 hx)
  have h2 := List.length_filter_le (fun y => zLv y == zLv x) (q7 p c.street)
  have h3 := hs.len
  simp only
  omega
 ·rw [R6 h] at hz
  simp only [List.mem_cons, List.not_mem_nil, or_false] at hz
  subst hz
  refine ⟨.inr ⟨.inl h, rfl⟩, (o3 _).2 ?_⟩
  have h1 := (zBf h f.fits).2 x hx
  have h2 := zBI (q7 p c.other)
  simp only
  omega
 ·rw [U7 h] at hz
  split at hz
  ·rename_i e
   simp only [List.mem_cons, List.not_mem_nil, or_false] at hz
   rcases hz with rfl | rfl
   ·exact ⟨.inl rfl, hs.ok x hx⟩
   ·subst e
    have := zAS (K1 h f.fits).2.2
    exact ⟨.inl rfl, (o3 _).2 (by simp only; omega)⟩
  ·simp only [List.mem_cons, List.not_mem_nil, or_false] at hz
   subst hz
   exact ⟨.inl rfl, hs.ok x hx⟩
 ·rw [R5 h] at hz
  split at hz
  ·simp at hz
  ·simp only [List.mem_cons, List.not_mem_nil, or_false] at hz
   subst hz
   exact ⟨.inl rfl, hs.ok x hx⟩
 ·rw [R4 h] at hz
  obtain ⟨g1, g2, g3, g4⟩ := G3 h f.fits
  split at hz
  ·rename_i e
   simp only [List.mem_cons, List.not_mem_nil, or_false] at hz
   subst hz
   refine ⟨.inr ⟨.inr h, rfl⟩, (o3 _).2 ?_⟩
   rw [Q5 hx, Q5 g1]
   have h1 := X0 hx
   have h3 := hs.len
   have h4 : ¬ (q7 p c.street).idxOf x < (q7 p c.street).idxOf c.src := fun hlt => by
    have := (D5 hs.sorted hx g1).2 hlt
    rw [this] at e; exact absurd e.1 (by simp)
   simp only
   omega
  ·simp only [List.mem_cons, List.not_mem_nil, or_false] at hz
   subst hz
   exact ⟨.inl rfl, hs.ok x hx⟩
theorem zGN {p : zLo} {c : Change} (v : Valid p) (f : Fit p c) {h : House} (hh : h ∈ q9 p) {z : House} (hz : z ∈ mv p c h) : 0 ≤ z.street ∧ z.street < p.length ∧ z.plate.ok = true := by
 obtain ⟨h0, h1, h2⟩ := mem_houses.1 hh
 unfold mv at hz
 split at hz
 ·rename_i e
  rw [e] at h2
  obtain ⟨g1, g2⟩ := zAz v f h2 hz
  have := f.street
  rcases g1 with g | ⟨g, g'⟩
  ·exact ⟨by omega, by omega, g2⟩
  ·have := f.other g; exact ⟨by omega, by omega, g2⟩
 ·simp only [List.mem_cons, List.not_mem_nil, or_false] at hz
  subst hz
  exact ⟨h0, h1, (v.row z.street).ok _ h2⟩
theorem zIK {p : zLo} {c : Change} (v : Valid p) (f : Fit p c) {x y : Plate} (hx : x ∈ q7 p c.street) (hy : y ∈ q7 p c.street) {z : House} (hzx : z ∈ toP p c x) (hzy : z ∈ toP p c y) : x = y := by
 have hs := v.row c.street
 rcases K7 f.kind with h | h | h | h | h | h | h
 ·rw [M5 h] at hzx hzy
  simp only [List.mem_cons, List.not_mem_nil, or_false] at hzx hzy
  have px := (zAe hx ((((q7 p c.street).filter (fun y => zLv y == zLv x))).idxOf x)).2
  have py := (zAe hy ((((q7 p c.street).filter (fun z => zLv z == zLv y))).idxOf y)).2
  have e := hzx.symm.trans hzy
  have e2 := congrArg (fun h : House => h.plate) e
  simp only at e2 px py
  have hpar : x.number % 2 = y.number % 2 := by rw [← px, ← py, e2]
  have hob : zLv x = zLv y := by have := (F6 x y).2 hpar; simpa using this
  rw [← hob] at e2
  have hmx := N0 hx
  have hmy : y ∈ (q7 p c.street).filter (fun z => zLv z == zLv x) := by rw [hob]; exact N0 hy
  have hnd : ((q7 p c.street).filter (fun z => zLv z == zLv x)).Nodup := hs.nodup.filter _
  revert e2 hmx hmy hnd
  generalize (q7 p c.street).filter (fun z => zLv z == zLv x) = o
  intro e2 hmx hmy hnd
  have hlx := X0 hmx
  have hly := X0 hmy
  simp only [List.getD_eq_getElem?_getD] at e2
  rw [List.getElem?_eq_getElem (by omega), List.getElem?_eq_getElem (by omega)] at e2
  simp only [Option.getD_some] at e2
  have := (X5 hnd).1 e2
  exact F1 hmx hmy (by omega)
 ·rw [R7 h] at hzx hzy
  simp only [List.mem_cons, List.not_mem_nil, or_false] at hzx hzy
  have e := hzx.symm.trans hzy
  rw [House.eq_iff] at e
  rw [Plate.eq_iff]
  simp only at e
  have := V9 x; have := V9 y
  split at e <;> split at e <;> simp_all <;> omega
 ·rw [M4 h] at hzx hzy
  simp only [List.mem_cons, List.not_mem_nil, or_false] at hzx hzy
  have e := hzx.symm.trans hzy
  rw [House.eq_iff] at e
  simp only at e
  have hpar : x.number % 2 = y.number % 2 := by omega
  have hob : zLv x = zLv y := by have := (F6 x y).2 hpar; simpa using this
  rw [← hob] at e
  have hmy : y ∈ (q7 p c.street).filter (fun z => zLv z == zLv x) := by rw [hob]; exact N0 hy
  exact F1 (N0 hx) hmy (by omega)
 ·rw [R6 h] at hzx hzy
  simp only [List.mem_cons, List.not_mem_nil, or_false] at hzx hzy
  have e := hzx.symm.trans hzy
  rw [House.eq_iff] at e
  rw [Plate.eq_iff]
  simp only at e
  omega
 ·rw [U7 h] at hzx hzy
  have hl := zAS (K1 h f.fits).2.2
  have hsrc := (K1 h f.fits).1
  split at hzx <;> split at hzy
  ·simp_all
  ·rename_i e1 e2
   simp only [List.mem_cons, List.not_mem_nil, or_false] at hzx hzy
   subst hzy
   rcases hzx with e | e
   ·exact ((House.mk.injEq ..).mp e).2.symm
   ·have := ((House.mk.injEq ..).mp e).2
    rw [e1] at this
    exact absurd (this ▸ hy) hl.2.2
  ·rename_i e1 e2
   simp only [List.mem_cons, List.not_mem_nil, or_false] at hzx hzy
   subst hzx
   rcases hzy with e | e
   ·exact ((House.mk.injEq ..).mp e).2
   ·have := ((House.mk.injEq ..).mp e).2
    rw [e2] at this
    exact absurd (this ▸ hx) hl.2.2
  ·simp only [List.mem_cons, List.not_mem_nil, or_false] at hzx hzy
   have e := hzx.symm.trans hzy
   exact ((House.mk.injEq ..).mp e).2
 ·rw [R5 h] at hzx hzy
  split at hzx <;> split at hzy <;> simp_all
 ·rw [R4 h] at hzx hzy
  have hne := (f.other (.inr h)).2.2
  obtain ⟨g1, _⟩ := G3 h f.fits
  split at hzx <;> split at hzy <;> simp only [List.mem_cons, List.not_mem_nil, or_false] at hzx hzy
  ·have e := hzx.symm.trans hzy
   rw [House.eq_iff] at e
   simp only at e
   rw [Q5 hx, Q5 hy] at e
   exact F1 hx hy (by omega)
  ·have e := hzx.symm.trans hzy
   exact absurd ((House.mk.injEq ..).mp e).1 hne
  ·have e := hzy.symm.trans hzx
   exact absurd ((House.mk.injEq ..).mp e).1 hne
  ·have e := hzx.symm.trans hzy
   exact ((House.mk.injEq ..).mp e).2
theorem zDT {p : zLo} {c : Change} (v : Valid p) (f : Fit p c) {x : Plate} (hx : x ∈ q7 p c.street) {z : House} (hz : z ∈ toP p c x) (hne : z.street ≠ c.street) : z ∉ q9 p := by
 intro hm
 obtain ⟨_, _, hm⟩ := mem_houses.1 hm
 obtain ⟨h1, _⟩ := zAz v f hx hz
 rcases h1 with h1 | ⟨hk, h1⟩
 ·exact hne h1
 rw [h1] at hm
 rcases hk with h | h
 ·rw [R6 h] at hz
  simp only [List.mem_cons, List.not_mem_nil, or_false] at hz
  subst hz
  have := zDt hm
  have := (o3 x).1 ((v.row c.street).ok x hx)
  simp only at *
  omega
 ·rw [(G3 h f.fits).2.2.2] at hm
  simp at hm
theorem zCR {p : zLo} {c : Change} (v : Valid p) (f : Fit p c) {a b : House} (ha : a ∈ q9 p) (hb : b ∈ q9 p) {z : House} (hza : z ∈ mv p c a) (hzb : z ∈ mv p c b) : a = b := by
 have ha' := mem_houses.1 ha
 have hb' := mem_houses.1 hb
 unfold mv at hza hzb
 split at hza <;> split at hzb
 ·rename_i e1 e2
  rw [e1] at ha'; rw [e2] at hb'
  have := zIK v f ha'.2.2 hb'.2.2 hza hzb
  cases a; cases b; simp_all
 ·rename_i e1 e2
  rw [e1] at ha'
  simp only [List.mem_cons, List.not_mem_nil, or_false] at hzb
  subst hzb
  exact absurd hb (zDT v f ha'.2.2 hza e2)
 ·rename_i e1 e2
  rw [e2] at hb'
  simp only [List.mem_cons, List.not_mem_nil, or_false] at hza
  subst hza
  exact absurd ha (zDT v f hb'.2.2 hzb e1)
 ·simp only [List.mem_cons, List.not_mem_nil, or_false] at hza hzb
  exact hza.symm.trans hzb
theorem zCS {p : zLo} {c : Change} (f : Fit p c) {h : House} (hh : h ∈ q9 p) : (mv p c h).Nodup := by
 obtain ⟨_, _, hm⟩ := mem_houses.1 hh
 unfold mv
 split
 ·rename_i e
  rw [e] at hm
  rcases K7 f.kind with k | k | k | k | k | k | k
  ·rw [M5 k]; simp
  ·rw [R7 k]; simp
  ·rw [M4 k]; simp
  ·rw [R6 k]; simp
  ·rw [U7 k]
   split
   ·rename_i e
    have := zAS (K1 k f.fits).2.2
    rw [← e] at this
    have hne : h.plate ≠ ⟨h.plate.number, letter (q7 p c.street) h.plate.number⟩ := fun e => this.2.2 (e ▸ hm)
    simpa using hne
   ·simp
  ·rw [R5 k]; split <;> simp
  ·rw [R4 k]; split <;> simp
 ·simp
theorem zAc {α β : Type} {f : α → List β} : ∀ {l : List α}, l.Nodup → (∀ a, a ∈ l → (f a).Nodup) → (∀ a b, a ∈ l → b ∈ l → ∀ z, z ∈ f a → z ∈ f b → a = b) → (l.flatMap f).Nodup
 | [], _, _, _ => by simp
 | x :: r, hn, h1, h2 => by
  obtain ⟨hx, hr⟩ := List.nodup_cons.1 hn
  rw [List.flatMap_cons, List.nodup_append]
  refine ⟨h1 x (by simp), zAc hr (fun a ha => h1 a (by simp [ha])) (fun a b ha hb => h2 a b (by simp [ha]) (by simp [hb])), fun a ha b hb e => ?_⟩
  subst e
  obtain ⟨y, hy, hay⟩ := List.mem_flatMap.1 hb
  exact hx (h2 x y (by simp) (by simp [hy]) a ha hay ▸ hy)
theorem zBk {p : zLo} {c : Change} (v : Valid p) (f : Fit p c) : (j8 p c).Nodup :=
 zAc (zDL v).nodup (fun _ ha => zCS f ha) (fun _ _ ha hb _ hza hzb => zCR v f ha hb hza hzb)
theorem mem_flatMv {p : zLo} {c : Change} {z : House} : z ∈ j8 p c ↔ ∃ h, h ∈ q9 p ∧ z ∈ mv p c h := by simp [j8, List.mem_flatMap]
theorem G5 {p : zLo} {c : Change} (v : Valid p) (f : Fit p c) {z : House} (hz : z ∈ j8 p c) : 0 ≤ z.street ∧ z.street < p.length ∧ z.plate.ok = true := by
 obtain ⟨h, hh, hz⟩ := mem_flatMv.1 hz
 exact zGN v f hh hz
theorem zFo {p : zLo} {c : Change} (v : Valid p) (f : Fit p c) : q9 (s9 p c) = s6 (j8 p c) := zFp (fun z hz => ⟨(G5 v f hz).1, (G5 v f hz).2.1⟩)
theorem zBj {α β : Type} [DecidableEq α] {f : α → List β} (a : α) : ∀ {l : List α}, l.Nodup → (∀ x, x ∈ l → x ≠ a → (f x).length ≤ 1) → (a ∈ l → (f a).length ≤ 2) → (l.flatMap f).length ≤ l.length + 1 ∧ (a ∉ l → (l.flatMap f).length ≤ l.length)
 | [], _, _, _ => by simp
 | x :: r, hn, h1, h2 => by
  obtain ⟨hx, hr⟩ := List.nodup_cons.1 hn
  obtain ⟨i1, i2⟩ := zBj a (l := r) hr (fun y hy => h1 y (by simp [hy])) (fun ha => h2 (by simp [ha]))
  simp only [List.flatMap_cons, List.length_append, List.length_cons]
  by_cases e : x = a
  ·subst e
   have := h2 (by simp); have := i2 hx
   exact ⟨by omega, fun hn => absurd (by simp) hn⟩
  ·have := h1 x (by simp) e
   refine ⟨by omega, fun hn => ?_⟩
   have := i2 (fun h => hn (by simp [h]))
   omega
theorem zBC {p : zLo} {c : Change} (v : Valid p) (f : Fit p c) {s : Int} (h0 : 0 ≤ s) (h1 : s < p.length) : (q7 (s9 p c) s).length ≤ 8 := by
  have hlen : ∀ s, (q7 p s).length ≤ 8 := fun s => (v.row s).len
  have hnd : (q7 (s9 p c) s).Nodup := (I3 (l := j8 p c) (n := p.length) h0 h1).imp (fun {a b} hab e => by subst e; exact Plate.lt_irrefl _ hab)
  have hmem : ∀ x, x ∈ q7 (s9 p c) s → (s ≠ c.street ∧ x ∈ q7 p s) ∨ ∃ y, y ∈ q7 p c.street ∧ (⟨s, x⟩ : House) ∈ toP p c y := fun x hx => by
    rw [s9, S3 h0 h1, mem_flatMv] at hx
    obtain ⟨h, hh, hz⟩ := hx
    obtain ⟨_, _, hm⟩ := mem_houses.1 hh
    unfold mv at hz
    split at hz
    · rename_i e; rw [e] at hm; exact .inr ⟨_, hm, hz⟩
    · rename_i e
      simp only [List.mem_cons, List.not_mem_nil, or_false] at hz
      subst hz
      exact .inl ⟨e, hm⟩
  have one : ∀ {x : Plate}, c.kind ≠ 5 → x ∈ q7 p c.street → (toP p c x).length ≤ 1 := fun {x} hk hx => by
    rcases K7 f.kind with k | k | k | k | k | k | k
    · rw [M5 k]; simp
    · rw [R7 k]; simp
    · rw [M4 k]; simp
    · rw [R6 k]; simp
    · exact absurd k hk
    · rw [R5 k]; split <;> simp
    · rw [R4 k]; split <;> simp
  have total : ((q7 p c.street).flatMap (toP p c)).length ≤ 8 ∧ (c.kind ≠ 5 → ((q7 p c.street).flatMap (toP p c)).length ≤ (q7 p c.street).length) := by
    by_cases hk : c.kind = 5
    · have hf := K1 hk f.fits
      have := (zBj (f := toP p c) c.src (v.row c.street).nodup (fun x hx hne => by rw [U7 hk, if_neg hne]; simp) (fun _ => by rw [U7 hk]; simp)).1
      have := hlen c.street
      exact ⟨by omega, fun h => absurd hk h⟩
    · have key : ∀ l : List Plate, (∀ x, x ∈ l → x ∈ q7 p c.street) → (l.flatMap (toP p c)).length ≤ l.length := by
        intro l
        induction l with
        | nil => simp
        | cons y r ih =>
          intro hl
          have h1 := one hk (hl y (by simp))
          have h2 := ih (fun x hx => hl x (by simp [hx]))
          simp only [List.flatMap_cons, List.length_append, List.length_cons]; omega
      have := key _ (fun _ h => h)
      have := hlen c.street
      exact ⟨by omega, fun _ => by omega⟩
  by_cases hs : s = c.street
  · refine Nat.le_trans ?_ total.1
    rw [show ((q7 p c.street).flatMap (toP p c)).length = (((q7 p c.street).flatMap (toP p c)).map House.plate).length by rw [List.length_map]]
    refine N2 hnd (fun x hx => ?_)
    rcases hmem x hx with ⟨h, _⟩ | ⟨y, hy, hz⟩
    · exact absurd hs h
    · exact List.mem_map.2 ⟨_, List.mem_flatMap.2 ⟨y, hy, hz⟩, rfl⟩
  · by_cases hk : (c.kind = 4 ∨ c.kind = 7) ∧ s = c.other
    · obtain ⟨hk, rfl⟩ := hk
      have hb : (q7 p c.other).length + (q7 p c.street).length ≤ 8 := by
        rcases hk with k | k
        · have := (zBf k f.fits).1; omega
        · rw [(G3 k f.fits).2.2.2]; have := hlen c.street; simpa using this
      have := total.2 (by omega)
      refine Nat.le_trans ?_ (show (q7 p c.other ++ ((q7 p c.street).flatMap (toP p c)).map House.plate).length ≤ 8 by simp only [List.length_append, List.length_map]; omega)
      refine N2 hnd (fun x hx => ?_)
      rcases hmem x hx with ⟨_, h⟩ | ⟨y, hy, hz⟩
      · exact List.mem_append.2 (.inl h)
      · exact List.mem_append.2 (.inr (List.mem_map.2 ⟨_, List.mem_flatMap.2 ⟨y, hy, hz⟩, rfl⟩))
    · refine Nat.le_trans ?_ (hlen s)
      refine N2 hnd (fun x hx => ?_)
      rcases hmem x hx with ⟨_, h⟩ | ⟨y, hy, hz⟩
      · exact h
      · rcases (zAz v f hy hz).1 with h | h
        · exact absurd h hs
        · exact absurd h hk
theorem zDW {p : zLo} {c : Change} (v : Valid p) (f : Fit p c) : Valid (s9 p c) := by
 have hl : (s9 p c).length = p.length := O5 _ _
 refine ⟨by rw [hl]; exact v.ne, by rw [hl]; exact v.len, fun l hm => ?_⟩
 obtain ⟨s, h0, h1, rfl⟩ := zCP hm
 rw [hl] at h1
 refine ⟨zBC v f h0 h1, fun x hx => ?_, I3 h0 h1⟩
 exact (G5 v f ((S3 h0 h1).1 hx)).2.2
end Go.Abs

