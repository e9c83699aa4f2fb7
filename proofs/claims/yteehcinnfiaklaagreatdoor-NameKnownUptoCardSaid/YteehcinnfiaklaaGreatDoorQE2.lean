/-
  WHAT THE PROOF STANDS ON, PART 2: contracts of the program's functions and the logic that they are proved in. No condition.
-/
import Derived.Orders
import Derived.RangeFuncLeaves
import Derived.RangeFuncRecord
import Derived.Scope
import Derived.RangeFuncCalls
import Derived.Laws.RangeString
import Derived.Below
import Derived.Test.YteehcinnfiaklaaGreatDoorProg
import Derived.KernelRfl
import Derived.Test.YteehcinnfiaklaaGreatDoorQE1
set_option maxRecDepth 100000
set_option maxHeartbeats 4000000
set_option linter.unusedVariables false
set_option linter.unusedSimpArgs false
set_option linter.unusedSectionVars false
namespace Go.Abs
open Go
section
variable {P : Program} {E : Env} {I : Nat → Prop} {loc : Nat → Loc} {σ : AS} {a : Act} {w : World}
theorem SR.putD (h : SR E I loc σ a w) {d : Option Tmp} {v : AV} {x : Value} (hv : VR w I loc v x) (hd : ∀ t, d = some t → t < σ.n) : SR E I loc (σ.putD d v) (a.put d x) w := by
 cases d with
 | none => exact h
 | some t => exact h.put hv (hd t rfl)
theorem S7 {o : Oper} {x : Value} {w' : World} {next : Act → World → Prop} {Q : Exit → Act → World → Prop} (hr : (execOp a.eval o).run P w = .ok (.value x) w') (h : next (a.put o.dst x) w') : o.wp P a w next Q := by
 unfold Oper.wp; rw [hr]; exact h
theorem zAl {o : Oper} {w' : World} {next : Act → World → Prop} {Q : Exit → Act → World → Prop} (hr : (execOp a.eval o).run P w = .ok .skip w') (h : next (a.put o.dst undef) w') : o.wp P a w next Q := by
 unfold Oper.wp; rw [hr]; exact h
theorem zAk {o : Oper} {f : FuncId} {args : Array Value} {w' : World} {next : Act → World → Prop} {Q : Exit → Act → World → Prop} (hr : (execOp a.eval o).run P w = .ok (.enter f args) w')
  (h : Calls P f args w' fun e w'' => ∃ v, e = .returned v ∧ next (a.put o.dst v) w'') : o.wp P a w next Q := by
 unfold Oper.wp; rw [hr]
 exact h.mono (fun e w'' ⟨v, he, hv⟩ => by subst he; exact hv)
theorem Y5 : VR w I loc (.tup []) undef := .tup [] #[] rfl (fun i h => by simp at h)
theorem J7 {f : FuncId} (h : t7 P f = true) (args : Array Value) : (callFunc f args).run P w = .ok (.enter f args) w := by
 unfold t7 at h
 cases hf : P.funcs[f]? with
 | none => rw [hf] at h; cases h
 | some fn =>
  rw [hf] at h
  simp at h
  obtain ⟨h1, h2⟩ := h
  have h3 : fn.body.isNone = false := by cases hb : fn.body <;> simp_all
  simp only [callFunc, Sem.run_bind, run_program, Result.andThen_ok, hf]
  have h4 : (fn.name == "runtime.NumGoroutine") = false := by simpa using h2
  simp [h4, h3]
theorem Y8 (hs : SR E I loc σ a w) (args : Array Operand) : (args.toList.map σ.ev).length = (args.map a.eval).size ∧ ∀ i (h : i < (args.toList.map σ.ev).length) (h' : i < (args.map a.eval).size), VR w I loc (args.toList.map σ.ev)[i] (args.map a.eval)[i] := by
 refine ⟨by simp, fun i h h' => ?_⟩
 simp only [List.getElem_map, Array.getElem_toList, Array.getElem_map]
 exact hs.ev _
theorem L3 (hs : SR E I loc σ a w) {o : Oper} {nx : Nat} {K : Cont} (h : zNT P o σ.ev σ.obj nx K) (hd : ∀ d, o.dst = some d → d < σ.n) {next : Act → World → Prop} {Q : Exit → Act → World → Prop}
    (hn : ∀ v rd wr a' w', K v rd wr → St E ((σ.writes wr).putD o.dst v) a' w' → next a' w') : o.wp P a w next Q := by
  have hdw : ∀ wr, ∀ d, o.dst = some d → d < (σ.writes wr).n := fun wr d e => by rw [(f9 wr σ).1]; exact hd d e
  -- the ways to end
  have val : ∀ {v rd x}, K v rd [] → (execOp a.eval o).run P w = .ok (.value x) w → VR w I loc v x → o.wp P a w next Q := fun {v rd x} hK hr hv =>
    S7 hr (hn v rd [] _ _ hK ⟨I, loc, hs.putD hv hd⟩)
  have mem : ∀ {v rd wr x w' I' loc'}, K v rd wr → (execOp a.eval o).run P w = .ok (.value x) w' → SR E I' loc' (σ.writes wr) a w' → VR w' I' loc' v x → o.wp P a w next Q := fun {v rd wr x w' I' loc'} hK hr hsr hv =>
    S7 hr (hn v rd wr _ _ hK ⟨I', loc', hsr.putD hv (hdw wr)⟩)
  have call : ∀ {f avs vs}, (execOp a.eval o).run P w = .ok (.enter f vs) w → y9 P f avs σ.obj nx K → avs.length = vs.size → (∀ i (h : i < avs.length) (h' : i < vs.size), VR w I loc avs[i] vs[i]) → o.wp P a w next Q := by
    intro f avs vs hr hc hl hv
    obtain ⟨r, rd, wr, hK, hc⟩ := zEK hs hl hv hc
    refine zAk hr (hc.mono ?_)
    rintro e w' ⟨v, I', loc', he, hsr, hvr⟩
    exact ⟨v, he, hn _ _ _ _ _ hK ⟨I', loc', hsr.putD hvr (hdw _)⟩⟩
  unfold zNT at h
  cases hop : o.op <;> rw [hop] at h <;> simp only at h <;> try (first | exact h.elim | skip)
  case move x => exact val h (by simp [execOp, hop]) (hs.ev x)
  case assign x => exact val h (by simp [execOp, hop]) (hs.ev x)
  case pick c x y =>
    obtain ⟨v, z, hK, hr, hv⟩ := zGw (P := P) (hs.ev c) (hs.ev x) (hs.ev y) h
    exact val hK (by simp only [execOp, hop]; exact hr) hv
  case alloc t =>
    obtain ⟨v, rd, A, w', loc', y, hK, hr, hsr, hv⟩ := zDe hs h
    exact mem hK (by simp only [execOp, hop, Sem.run_bind, hr, Result.andThen_ok, Sem.run_pure]) hsr hv
  case box t x =>
    obtain ⟨v, rd, A, w', loc', y, hK, hr, hsr, hv⟩ := zEF (P := P) (t := t) hs (hs.ev x) h
    exact mem hK (by simp only [execOp, hop, Sem.run_bind, hr, Result.andThen_ok, Sem.run_pure]) hsr hv
  case build t ps =>
    obtain ⟨v, y, hK, hr, hv⟩ := zEH hs h
    exact val hK (by simp only [execOp, hop, Sem.run_bind, hr, Result.andThen_ok, Sem.run_pure]) hv
  case buildSlice t n ps =>
    obtain ⟨v, rd, wr, w', I', loc', y, hK, hr, hsr, hv⟩ := zEJ hs h
    exact mem hK (by simp only [execOp, hop, Sem.run_bind, hr, Result.andThen_ok, Sem.run_pure]) hsr hv
  case load t x =>
    obtain ⟨v, rd, y, hK, hr, hv⟩ := zCG (P := P) hs (hs.ev x) h
    exact val hK (by simp only [execOp, hop, Sem.run_bind, hr, Result.andThen_ok, Sem.run_pure]) hv
  case store t x y =>
    obtain ⟨rd, ob, A, w', hK, hr, hsr⟩ := zIz (P := P) hs (hs.ev x) (hs.ev y) h
    exact zAl (by simp only [execOp, hop, Sem.run_bind, hr, Result.andThen_ok, Sem.run_pure]) (hn _ _ _ _ _ hK ⟨I, loc, SR.putD (σ := σ.writes [(ob, A)]) hsr Y5 (hdw [(ob, A)])⟩)
  case nilCheck x =>
    obtain ⟨hK, hv⟩ := zGi (hs.ev x) h
    refine val hK ?_ (hs.ev x)
    simp only [execOp, hop]
    revert hv
    generalize a.eval x = v
    intro hv
    cases v with
    | pointer p => cases p with
      | none => exact hv.elim
      | some p => simp
    | func fn f c => cases fn with
      | method n => exact hv.elim
      | _ => simp
    | nilFunc => exact hv.elim
    | nilIface => exact hv.elim
    | _ => simp
  case binOp op t x y u =>
    obtain ⟨z, r, hK, rfl, hr1, hr⟩ := zEC (P := P) (ox := x) (oy := y) (hs.ev x) (hs.ev y) h
    unfold H4 at hr
    exact val hK (by simp only [execOp, hop]; rw [Sem.run_bind, hr]; rfl) (.pure (.raw _ hr1))
  case unOp op t x =>
    obtain ⟨z, r, hK, rfl, hr1, hr⟩ := zJA (P := P) (w := w) (hs.ev x) h
    exact val hK (by simp only [execOp, hop, Sem.run_bind, hr, Result.andThen_ok, Sem.run_pure]) (.pure (.raw _ hr1))
  case convert s d x =>
    obtain ⟨z, rd, r, hK, rfl, hr1, hr⟩ := zEg (P := P) (w := w) hs h.1 (hs.ev x) h.2
    exact val hK (by simp only [execOp, hop, Sem.run_bind, hr, Result.andThen_ok, Sem.run_pure]) (.pure (.raw _ hr1))
  case makeFunc fn first cs =>
    cases fn with
    | func f =>
      obtain ⟨rfl, h⟩ := h
      obtain ⟨h1, h2⟩ := Y8 hs cs
      exact val h (by simp [execOp, hop, Instr.makeFunc]) (.fn _ _ _ h1 h2)
    | _ => exact h.elim
  case makeSlice t x y =>
    obtain ⟨v, rd, A, w', loc', r, hK, hr, hsr, hv⟩ := zGX hs (hs.ev x) (hs.ev y) h
    exact mem hK (by simp only [execOp, hop, Sem.run_bind, hr, Result.andThen_ok, Sem.run_pure]) hsr hv
  case slice t x lo hi mx =>
    have hopt : ∀ (z : Option Operand), (∀ x, z.map σ.ev = some x → ∃ v, z.map a.eval = some v ∧ VR w I loc x v) ∧ (z.map σ.ev = none → z.map a.eval = none) := fun z => by
      cases z with
      | none => exact ⟨fun x h => by simp at h, fun _ => rfl⟩
      | some z => exact ⟨fun x h => by simp at h; subst h; exact ⟨_, rfl, hs.ev z⟩, fun h => by simp at h⟩
    obtain ⟨v, y, hK, hr, hv⟩ := zHd (P := P) (hs.ev x) (hopt lo).1 (hopt lo).2 (hopt hi).1 (hopt hi).2 (hopt mx).2 h
    exact val hK (by simp only [execOp, hop, Sem.run_bind, hr, Result.andThen_ok, Sem.run_pure]) hv
  case fieldAddr s x f =>
    obtain ⟨v, y, hK, hr, hv⟩ := zE1 (P := P) (hs.ev x) h
    exact val hK (by simp only [execOp, hop, Sem.run_bind, hr, Result.andThen_ok, Sem.run_pure]) hv
  case field s x f =>
    obtain ⟨v, y, hK, hr, hv⟩ := zE0 (P := P) (hs.ev x) h
    exact val hK (by simp only [execOp, hop, Sem.run_bind, hr, Result.andThen_ok, Sem.run_pure]) hv
  case indexAddr t x i =>
    obtain ⟨v, y, hK, hr, hv⟩ := zF4 (P := P) (hs.ev x) (hs.ev i) h
    exact val hK (by simp only [execOp, hop, Sem.run_bind, hr, Result.andThen_ok, Sem.run_pure]) hv
  case index t x i =>
    obtain ⟨v, y, hK, hr, hv⟩ := zF3 (P := P) (hs.ev x) (hs.ev i) h
    exact val hK (by simp only [execOp, hop, Sem.run_bind, hr, Result.andThen_ok, Sem.run_pure]) hv
  case extract x i =>
    obtain ⟨v, y, hK, hr, hv⟩ := zEz (P := P) (hs.ev x) h
    exact val hK (by simp only [execOp, hop, Sem.run_bind, hr, Result.andThen_ok, Sem.run_pure]) hv
  case makeMap t r =>
    have hopt : ∀ (z : Option Operand), (∀ x, z.map σ.ev = some x → ∃ v, z.map a.eval = some v ∧ VR w I loc x v) ∧ (z.map σ.ev = none → z.map a.eval = none) := fun z => by
      cases z with
      | none => exact ⟨fun x h => by simp at h, fun _ => rfl⟩
      | some z => exact ⟨fun x h => by simp at h; subst h; exact ⟨_, rfl, hs.ev z⟩, fun h => by simp at h⟩
    obtain ⟨v, rd, A, w', loc', y, hK, hr, hsr, hv⟩ := zGW (P := P) hs (hopt r).1 (hopt r).2 h
    exact mem hK (by simp only [execOp, hop, Sem.run_bind, hr, Result.andThen_ok, Sem.run_pure]) hsr hv
  case mapUpdate t m k x =>
    obtain ⟨rd, wr, w', I', hK, hr, hsr⟩ := zCK (P := P) hs (hs.ev m) (hs.ev k) (hs.ev x) h
    exact zAl (by simp only [execOp, hop, Sem.run_bind, hr, Result.andThen_ok, Sem.run_pure]) (hn _ _ _ _ _ hK ⟨I', loc, SR.putD (σ := σ.writes wr) hsr Y5 (hdw wr)⟩)
  case insert t m k x =>
    obtain ⟨rd, wr, w', I', hK, hr, hsr⟩ := zCK (P := P) hs (hs.ev m) (hs.ev k) (hs.ev x) h
    exact zAl (by simp only [execOp, hop, Sem.run_bind, hr, Result.andThen_ok, Sem.run_pure]) (hn _ _ _ _ _ hK ⟨I', loc, SR.putD (σ := σ.writes wr) hsr Y5 (hdw wr)⟩)
  case lookup t m k ok =>
    obtain ⟨v, rd, y, hK, hr, hv⟩ := zGT (P := P) hs (hs.ev m) (hs.ev k) h
    exact val hK (by simp only [execOp, hop, Sem.run_bind, hr, Result.andThen_ok, Sem.run_pure]) hv
  case range t x =>
    obtain ⟨v, rd, A, w', loc', y, hK, hr, hsr, hv⟩ := zG2 (P := P) hs (hs.ev x) h
    exact mem hK (by simp only [execOp, hop, Sem.run_bind, hr, Result.andThen_ok, Sem.run_pure]) hsr hv
  case next x b =>
    obtain ⟨rfl, h⟩ := h
    obtain ⟨v, rd, wr, y, w', hK, hr, hsr, hv⟩ := zGh (P := P) (ty := o.type) hs (hs.ev x) h
    exact mem hK (by simp only [execOp, hop, Sem.run_bind, hr, Result.andThen_ok, Sem.run_pure]) hsr hv
  case entry x =>
    obtain ⟨v, rd, y, hK, hr, hv⟩ := zEt (P := P) hs (hs.ev x) h
    exact val hK (by simp only [execOp, hop, Sem.run_bind, hr, Result.andThen_ok, Sem.run_pure]) hv
  case call c =>
    obtain ⟨callee, args, ts⟩ := c
    cases callee with
    | invoke r m => exact h.elim
    | builtin b =>
      simp only [R6] at h
      have hexec : (execOp a.eval o).run P w = (builtin b ts o.type (args.map fun | .const _ => true | _ => false) (args.map a.eval)).run P w := by
        simp only [execOp, hop, resolve, Sem.run_bind, Sem.run_pure, Result.andThen_ok, invoke]
        rfl
      unfold M6 at h
      split at h
      · rename_i x hx
        obtain ⟨h0, h⟩ := h
        cases hn' : K3 P (ts.getD 0 0) x with
        | none => simp only [hn'] at h
        | some n =>
          simp only [hn'] at h
          obtain ⟨g1, g2⟩ := Y8 hs args
          rw [hx] at g1
          have hsz : (args.map a.eval).size = 1 := by simpa using g1.symm
          have hargs : args.map a.eval = #[(args.map a.eval)[0]'(by omega)] := by
            apply Array.ext
            · simpa using hsz
            · intro i h1 h2; have : i = 0 := by omega
              subst this; rfl
          have hv0 : VR w I loc x ((args.map a.eval)[0]'(by omega)) := by
            have := g2 0 (by rw [hx]; simp) (by omega)
            simpa only [hx, List.getElem_cons_zero] using this
          have hr := zGN (P := P) hv0 hn' ts rfl h0 o.type
          rw [← hargs] at hr
          exact val h (by rw [hexec]; simp only [builtin, Sem.run_bind, hr, Result.andThen_ok, Sem.run_pure]) (.pure (.raw _ rfl))
      · rename_i s x hx
        obtain ⟨hts, h⟩ := h
        obtain ⟨g1, g2⟩ := Y8 hs args
        rw [hx] at g1
        have hsz : (args.map a.eval).size = 2 := by simpa using g1.symm
        have hargs : args.map a.eval = #[(args.map a.eval)[0]'(by omega), (args.map a.eval)[1]'(by omega)] := by
          apply Array.ext
          · simpa using hsz
          · intro i h1 h2
            have : i = 0 ∨ i = 1 := by omega
            rcases this with rfl | rfl <;> rfl
        have hv0 : VR w I loc s ((args.map a.eval)[0]'(by omega)) := by
          have := g2 0 (by rw [hx]; simp) (by omega)
          simpa only [hx, List.getElem_cons_zero] using this
        have hv1 : VR w I loc x ((args.map a.eval)[1]'(by omega)) := by
          have := g2 1 (by rw [hx]; simp) (by omega)
          simpa only [hx, List.getElem_cons_succ, List.getElem_cons_zero] using this
        obtain ⟨z, rd, wr, w', loc', r, hK, hr, hsr, hv⟩ := zDg (P := P) (ty := o.type) hs hv0 hv1 h
        rw [← hargs, ← hts] at hr
        exact mem hK (by rw [hexec]; simp only [builtin, Sem.run_bind, hr, Result.andThen_ok, Sem.run_pure]) hsr hv
      all_goals first
        | exact h.elim
        | (rename_i k x k' y hx
           obtain ⟨g1, g2⟩ := Y8 hs args
           rw [hx] at g1
           have hsz : (args.map a.eval).size = 2 := by simpa using g1.symm
           have hv0 : (args.map a.eval)[0]'(by omega) = .int k x := by
             have := g2 0 (by rw [hx]; simp) (by omega)
             simp only [hx, List.getElem_cons_zero] at this
             exact this.raw_eq
           have hv1 : (args.map a.eval)[1]'(by omega) = .int k' y := by
             have := g2 1 (by rw [hx]; simp) (by omega)
             simp only [hx, List.getElem_cons_succ, List.getElem_cons_zero] at this
             exact this.raw_eq
           have hargs : args.map a.eval = #[.int k x, .int k' y] := by
             apply Array.ext
             · simpa using hsz
             · intro i h1 h2
               have : i = 0 ∨ i = 1 := by omega
               rcases this with rfl | rfl
               · exact hv0
               · exact hv1
           exact val h (by rw [hexec, hargs]; simp [builtin, Builtin.max_, Builtin.min_, Builtin.max2, Builtin.min2, zOY, zOH]) (.pure (.raw _ rfl)))
    | value fo =>
      simp only [R6] at h
      have hfo := hs.ev fo
      obtain ⟨g1, g2⟩ := Y8 hs args
      unfold M8 at h
      split at h
      · rename_i f fs caps hfe
        obtain ⟨hc, rfl, rfl, h⟩ := h
        rw [hfe] at hfo
        have e := hfo.raw_eq
        refine call ?_ h g1 g2
        simp only [execOp, hop, resolve, e, Deferred.ofValue, Sem.run_bind, Sem.run_pure, Result.andThen_ok, invoke, Array.append_empty, Array.empty_append]
        exact J7 hc _
      · rename_i f caps hfe
        obtain ⟨hc, h⟩ := h
        rw [hfe] at hfo
        generalize hfv : a.eval fo = fv at hfo
        cases hfo with
        | pure hp => cases hp
        | fn _ _ vs q1 q2 =>
          refine call (vs := args.map a.eval ++ vs) ?_ h (by simp only [List.length_append, Array.size_append]; omega) (fun i h1 h2 => ?_)
          · simp only [execOp, hop, resolve, hfv, Deferred.ofValue, Sem.run_bind, Sem.run_pure, Result.andThen_ok, invoke, Array.empty_append]
            exact J7 hc _
          · by_cases hlt : i < (args.toList.map σ.ev).length
            · rw [List.getElem_append_left hlt, Array.getElem_append_left (by omega)]
              exact g2 i hlt _
            · rw [List.getElem_append_right (by omega), Array.getElem_append_right (by omega)]
              have e3 : i - (args.map a.eval).size = i - (args.toList.map σ.ev).length := by omega
              simp only [e3]
              exact q2 _ _ _
      · exact h.elim
end
end Go.Abs

namespace Go.Abs
open Go
def Fix (F : (Nat → AObj) → Cont → Prop) : Prop := ∀ H K, F H K → ∃ v rd wr, K v rd wr ∧ ∀ H', (∀ o, o ∈ rd → H' o = H o) → ∀ K' : Cont, K' v rd wr → F H' K'
theorem Fix.out (v : AV) (rd : List Nat) (wr : List (Nat × AObj)) : Fix (fun _ K => K v rd wr) := fun _ _ h => ⟨v, rd, wr, h, fun _ _ _ h' => h'⟩
theorem Fix.no : Fix (fun _ _ => False) := fun _ _ h => h.elim
theorem Fix.and {A : Prop} {F : (Nat → AObj) → Cont → Prop} (h : Fix F) : Fix (fun H K => A ∧ F H K) := fun H K ⟨ha, hf⟩ =>
 let ⟨v, rd, wr, h1, h2⟩ := h H K hf
 ⟨v, rd, wr, h1, fun H' hh K' hk => ⟨ha, h2 H' hh K' hk⟩⟩
theorem Fix.ite {c : Prop} [Decidable c] {F G : (Nat → AObj) → Cont → Prop} (hf : Fix F) (hg : Fix G) : Fix (fun H K => if c then F H K else G H K) := fun H K h => by
 by_cases hc : c
 ·simp only [hc, if_true] at h ⊢; exact hf H K h
 ·simp only [hc, if_false] at h ⊢; exact hg H K h
theorem zFT (c a b : AV) : Fix (fun _ K => O8 c a b K) := by
 unfold O8
 split
 ·exact Fix.out _ _ _
 ·exact Fix.no
theorem zE5 (P : Program) (t : TypeId) (nx : Nat) : Fix (fun H K => R3 P t H nx K) := by
 intro H K h
 unfold R3 at h ⊢
 cases hz : zeroT P t with
 | none => simp only [hz] at h
 | some z =>
  simp only [hz] at h ⊢
  exact ⟨_, _, _, h.2.2, fun H' hh K' hk => ⟨h.1, by rw [hh nx (by simp)]; exact h.2.1, hk⟩⟩
theorem zE8 (x : AV) (nx : Nat) : Fix (fun H K => zOC x H nx K) := fun H K h =>
 ⟨_, _, _, h.2.2, fun H' hh K' hk => ⟨h.1, by rw [hh nx (by simp)]; exact h.2.1, hk⟩⟩
theorem zFN (P : Program) (t : TypeId) (x : AV) : Fix (fun H K => Q9 P t x H K) := by
 intro H K h
 unfold Q9 at h ⊢
 cases x with
 | ptr o off =>
  simp only at h ⊢
  cases hA : H o with
  | box cs =>
   simp only [hA] at h
   cases hg : r5 P t with
   | none => simp only [hg] at h
   | some ag =>
    cases hs : sizeT P t with
    | none => cases ag <;> simp only [hg, hs] at h
    | some n =>
     cases ag <;> simp only [hg, hs] at h
     ·exact ⟨_, _, _, h.2, fun H' hh K' hk => by simp only [hh o (by simp), hA]; exact ⟨h.1, hk⟩⟩
     ·exact ⟨_, _, _, h.2, fun H' hh K' hk => by simp only [hh o (by simp), hA]; exact ⟨h.1, hk⟩⟩
  | _ => simp only [hA] at h
 | eptr o sz i off =>
  simp only at h ⊢
  cases hA : H o with
  | row sz' xs =>
   simp only [hA] at h
   obtain ⟨h1, h2, h⟩ := h
   cases hg : r5 P t with
   | none => simp only [hg] at h
   | some ag =>
    cases hs : sizeT P t with
    | none => cases ag <;> simp only [hg, hs] at h
    | some n =>
     cases ag <;> simp only [hg, hs] at h
     ·exact ⟨_, _, _, h.2, fun H' hh K' hk => by simp only [hh o (by simp), hA]; exact ⟨h1, h2, h.1, hk⟩⟩
     ·exact ⟨_, _, _, h.2, fun H' hh K' hk => by simp only [hh o (by simp), hA]; exact ⟨h1, h2, h.1, hk⟩⟩
  | box cs =>
   simp only [hA] at h
   cases hg : r5 P t with
   | none => simp only [hg] at h
   | some ag =>
    cases hs : sizeT P t with
    | none => cases ag <;> simp only [hg, hs] at h
    | some n =>
     cases ag <;> simp only [hg, hs] at h
     ·exact ⟨_, _, _, h.2, fun H' hh K' hk => by simp only [hh o (by simp), hA]; exact ⟨h.1, hk⟩⟩
     ·exact ⟨_, _, _, h.2, fun H' hh K' hk => by simp only [hh o (by simp), hA]; exact ⟨h.1, hk⟩⟩
  | _ => simp only [hA] at h
 | elt x =>
  simp only at h ⊢
  cases hg : r5 P t with
  | none => simp only [hg] at h
  | some ag =>
   cases hs : sizeT P t with
   | none => cases ag <;> simp only [hg, hs] at h
   | some n =>
    cases ag <;> simp only [hg, hs] at h
    ·exact ⟨_, _, _, h.2, fun H' hh K' hk => ⟨h.1, hk⟩⟩
    ·exact ⟨_, _, _, h.2, fun H' hh K' hk => ⟨h.1, hk⟩⟩
 | _ => exact h.elim
theorem zFW (P : Program) (t : TypeId) (a x : AV) : Fix (fun H K => U1 P t a x H K) := by
 intro H K h
 unfold U1 at h ⊢
 cases a with
 | ptr o off =>
  simp only at h ⊢
  cases hA : H o with
  | box cs =>
   simp only [hA] at h
   exact ⟨_, _, _, h.2.2.2, fun H' hh K' hk => by simp only [hh o (by simp), hA]; exact ⟨h.1, h.2.1, h.2.2.1, hk⟩⟩
  | _ => simp only [hA] at h
 | eptr o sz i off =>
  simp only at h ⊢
  cases hA : H o with
  | row sz' xs =>
   simp only [hA] at h
   obtain ⟨h1, h2, h3, h4, h5, h⟩ := h
   by_cases hc : off = 0 ∧ x.cells.length = sz
   ·rw [if_pos hc] at h
    exact ⟨_, _, _, h, fun H' hh K' hk => by simp only [hh o (by simp), hA]; exact ⟨h1, h2, h3, h4, h5, by rw [if_pos hc]; exact hk⟩⟩
   ·rw [if_neg hc] at h
    exact ⟨_, _, _, h.2, fun H' hh K' hk => by simp only [hh o (by simp), hA]; exact ⟨h1, h2, h3, h4, h5, by rw [if_neg hc]; exact ⟨h.1, hk⟩⟩⟩
  | box cs =>
   simp only [hA] at h
   exact ⟨_, _, _, h.2.2.2, fun H' hh K' hk => by simp only [hh o (by simp), hA]; exact ⟨h.1, h.2.1, h.2.2.1, hk⟩⟩
  | _ => simp only [hA] at h
 | _ => exact h.elim
theorem zFS (x : AV) : Fix (fun _ K => zN4 x K) := by
 unfold zN4
 split <;> first | exact Fix.out _ _ _ | exact Fix.no
theorem zFM (op : BinOp) (k : IntKind) (a b : Int) : Fix (fun _ K => zNy op k a b K) := by
 unfold zNy
 split
 case h_10 =>
  split <;> first | exact Fix.out _ _ _ | exact Fix.no
 all_goals first | exact Fix.out _ _ _ | exact Fix.and (Fix.out _ _ _)
theorem zFX (op : BinOp) (a b : ByteArray) : Fix (fun _ K => zN7 op a b K) := by
 unfold zN7
 split <;> first | exact Fix.out _ _ _ | exact Fix.and (Fix.out _ _ _) | exact Fix.no
theorem zE7 (P : Program) (op : BinOp) (t : TypeId) (x y : AV) : Fix (fun _ K => zNp P op t x y K) := by
 unfold zNp
 split
 ·split
  ·exact Fix.and (Fix.out _ _ _)
  ·exact Fix.and (Fix.out _ _ _)
  ·exact Fix.and (zFM _ _ _ _)
 ·exact zFX _ _ _
 ·split
  ·split <;> first | exact Fix.out _ _ _ | exact Fix.no
  ·exact Fix.no
 ·unfold H2
  split
  ·split
   ·split <;> first | exact Fix.out _ _ _ | exact Fix.no
   ·exact Fix.no
  ·exact Fix.no
 ·unfold G8
  split
  ·split <;> first | exact Fix.out _ _ _ | exact Fix.no
  ·exact Fix.no
 ·exact Fix.no
theorem zFY (op : UnOp) (x : AV) : Fix (fun _ K => unA op x K) := by
 unfold unA
 split <;> first | exact Fix.out _ _ _ | exact Fix.no
theorem zFJ (P : Program) (s : TypeId) (x : AV) (f : Nat) : Fix (fun _ K => V2 P s x f K) := by
 unfold V2
 split
 ·split
  ·refine Fix.and ?_
   split
   ·exact Fix.out _ _ _
   ·exact Fix.out _ _ _
   ·exact Fix.and (Fix.ite (Fix.out _ _ _) (Fix.and (Fix.and (Fix.and (Fix.out _ _ _)))))
   ·exact Fix.no
  ·exact Fix.no
 ·exact Fix.no
theorem zBY (P : Program) (u : TypeId) (cs : List AV) (off : Nat) : Fix (fun _ K => T8 P u cs off K) := by
 unfold T8
 split <;> first | exact Fix.out _ _ _ | exact Fix.and (Fix.out _ _ _) | exact Fix.no
theorem zFI (P : Program) (s : TypeId) (x : AV) (f : Nat) : Fix (fun _ K => P3 P s x f K) := by
 unfold P3
 split
 ·exact zBY _ _ _ _
 ·exact Fix.no
theorem zFL (P : Program) (t : TypeId) (x i : AV) : Fix (fun _ K => V5 P t x i K) := by
 unfold V5
 split
 ·split
  ·exact Fix.and (Fix.and (Fix.out _ _ _))
  ·exact Fix.and (Fix.and (Fix.out _ _ _))
  ·split
   ·split
    ·exact Fix.and (Fix.out _ _ _)
    ·exact Fix.no
   ·exact Fix.no
  ·exact Fix.no
 ·exact Fix.no
theorem zFK (P : Program) (t : TypeId) (x i : AV) : Fix (fun _ K => P8 P t x i K) := by
 unfold P8
 split
 ·exact Fix.and (Fix.and (Fix.out _ _ _))
 ·split
  ·split
   ·exact Fix.and (zBY _ _ _ _)
   ·exact Fix.no
  ·exact Fix.no
 ·exact Fix.no
theorem zFV (P : Program) (t : TypeId) (x : AV) (lo hi mx : Option AV) : Fix (fun _ K => N7 P t x lo hi mx K) := by
 unfold N7
 split
 ·exact Fix.no
 ·split
  ·refine Fix.and ?_
   split
   ·exact Fix.and (Fix.out _ _ _)
   ·exact Fix.no
  ·split
   ·split
    ·exact Fix.and (Fix.and (Fix.out _ _ _))
    ·exact Fix.no
   ·exact Fix.no
  ·split
   ·exact Fix.and (Fix.and (Fix.out _ _ _))
   ·exact Fix.no
  ·exact Fix.no
theorem zFH (x : AV) (i : Nat) : Fix (fun _ K => P2 x i K) := by
 unfold P2
 split
 ·exact Fix.and (Fix.out _ _ _)
 ·exact Fix.no
theorem zE9 (P : Program) (t : TypeId) (ps : List (Nat × AV)) : Fix (fun _ K => buildA P t ps K) := by
 unfold buildA
 split
 ·refine Fix.and (Fix.and (Fix.and ?_))
  split
  ·exact Fix.out _ _ _
  ·exact Fix.no
 ·refine Fix.and (Fix.and ?_)
  split
  ·split
   ·exact Fix.out _ _ _
   ·exact Fix.no
  ·exact Fix.no
 ·exact Fix.no
theorem B3 {H H' : Nat → AObj} : ∀ (n : Nat) (x : AV), Pure (zNH H n x).1 → (∀ o, o ∈ (zNH H n x).2 → H' o = H o) → zNH H' n x = zNH H n x
 | 0, x, _, _ => rfl
 | n + 1, x, hp, hh => by
  have each : ∀ cs : List AV, (∀ c, c ∈ cs → Pure (zNH H n c).1) → (∀ c, c ∈ cs → ∀ o, o ∈ (zNH H n c).2 → H' o = H o) → ∀ c, c ∈ cs → zNH H' n c = zNH H n c := fun cs h1 h2 c hc => B3 n c (h1 c hc) (h2 c hc)
  unfold zNH at hp hh ⊢
  cases x with
  | own o sz off len =>
   simp only at hp hh ⊢
   cases hA : H o with
   | row sz' xs =>
    simp only [hA] at hp hh
    by_cases hc : sz' = sz ∧ off + len ≤ xs.length
    ·rw [if_pos hc] at hp hh
     rw [hh o (by simp), hA]
    ·rw [if_neg hc] at hp; cases hp
   | box cs =>
    simp only [hA] at hp hh
    by_cases hc : sz = 1 ∧ off = 0 ∧ len = cs.length ∧ cs.all (fun c => Z9 (zNH H n c).1) = true
    ·rw [if_pos hc] at hp hh
     rw [hh o (by simp), hA]
     simp only
     have hall := hc.2.2.2
     rw [List.all_eq_true] at hall
     have heq := each cs (fun c hm => (L6 (hall c hm)).1) (fun c hm q hq => hh q (by simp; exact .inr ⟨_, ⟨c, hm, rfl⟩, hq⟩))
     have e1 : cs.map (fun c => (zNH H' n c).1) = cs.map (fun c => (zNH H n c).1) := List.map_congr_left (fun c hm => by rw [heq c hm])
     have e2 : cs.map (fun c => (zNH H' n c).2) = cs.map (fun c => (zNH H n c).2) := List.map_congr_left (fun c hm => by rw [heq c hm])
     have e3 : cs.all (fun c => Z9 (zNH H' n c).1) = cs.all (fun c => Z9 (zNH H n c).1) := by
      rw [Bool.eq_iff_iff, List.all_eq_true, List.all_eq_true]
      exact ⟨fun g c hm => by rw [← heq c hm]; exact g c hm, fun g c hm => by rw [heq c hm]; exact g c hm⟩
     rw [e1, e2, e3]
    ·rw [if_neg hc] at hp; cases hp
   | _ => simp only [hA] at hp; cases hp
  | mp o =>
   simp only at hp hh ⊢
   cases hA : H o with
   | mapo ks xs => simp only [hA] at hh; rw [hh o (by simp), hA]
   | _ => simp only [hA] at hp; cases hp
  | agg cs =>
   simp only at hp hh ⊢
   have hps : ∀ c, c ∈ cs → Pure (zNH H n c).1 := fun c hm => by
    cases hp with
    | agg _ hp => exact hp _ (List.mem_map.2 ⟨c, hm, rfl⟩)
   have heq := each cs hps (fun c hm q hq => hh q (by simp; exact ⟨_, ⟨c, hm, rfl⟩, hq⟩))
   have e1 : cs.map (fun c => (zNH H' n c).1) = cs.map (fun c => (zNH H n c).1) := List.map_congr_left (fun c hm => by rw [heq c hm])
   have e2 : cs.map (fun c => (zNH H' n c).2) = cs.map (fun c => (zNH H n c).2) := List.map_congr_left (fun c hm => by rw [heq c hm])
   rw [e1, e2]
  | raw v =>
   clear hp hh
   cases v with
   | slice a m c => cases a <;> cases m <;> cases c <;> rfl
   | _ => rfl
  | _ => rfl
theorem zFA (P : Program) (t : TypeId) (n : Nat) (ps : List (Nat × AV)) (nx : Nat) : Fix (fun H K => buildSliceA P t n ps H nx K) := by
 intro H K h
 unfold buildSliceA at h ⊢
 cases ht : sliceT P t with
 | none => simp only [ht] at h
 | some e =>
  simp only [ht] at h ⊢
  cases hs : sizeT P e with
  | none => simp only [hs] at h
  | some sz =>
   cases hz : zeroT P e with
   | none => simp only [hs, hz] at h
   | some z =>
    simp only [hs, hz] at h ⊢
    obtain ⟨h1, h2, h3, h4, h6, h⟩ := h
    by_cases hr : zNb z = true
    ·rw [if_pos hr] at h
     obtain ⟨g1, g2, h⟩ := h
     exact ⟨_, _, _, h, fun H' hh K' hk => ⟨h1, h2, h3, h4, by rw [hh nx (by simp)]; exact h6, by rw [if_pos hr]; exact ⟨g1, g2, hk⟩⟩⟩
    ·rw [if_neg hr] at h
     obtain ⟨g, h⟩ := h
     refine ⟨_, _, _, h, fun H' hh K' hk => ⟨h1, h2, h3, h4, by rw [hh nx (by simp)]; exact h6, ?_⟩⟩
     rw [if_neg hr]
     have heq : ∀ p, p ∈ ps → zNH H' 3 p.2 = zNH H 3 p.2 := fun p hm => B3 3 p.2 (g p hm).1 (fun o ho => hh o (by
      rw [List.mem_append]
      exact .inl (List.mem_flatten.2 ⟨_, List.mem_map.2 ⟨p, hm, rfl⟩, ho⟩)))
     have e1 : ps.map (fun p => (zNH H' 3 p.2).2) = ps.map (fun p => (zNH H 3 p.2).2) := List.map_congr_left (fun p hm => by rw [heq p hm])
     have e2 : ps.map (fun p => (zNH H' 3 p.2).1) = ps.map (fun p => (zNH H 3 p.2).1) := List.map_congr_left (fun p hm => by rw [heq p hm])
     rw [e1, e2]
     exact ⟨fun p hm => by rw [heq p hm]; exact g p hm, hk⟩
theorem zFQ (P : Program) (t : TypeId) (l c : AV) (nx : Nat) : Fix (fun H K => O2 P t l c H nx K) := by
 intro H K h
 unfold O2 at h ⊢
 split at h
 ·rename_i e k n k' m ht
  cases hs : sizeT P e with
  | none => simp only [hs] at h
  | some sz =>
   cases hb : bytesT P e with
   | none => simp only [hs, hb] at h
   | some b =>
    cases hz : zeroT P e with
    | none => simp only [hs, hb, hz] at h
    | some z =>
     simp only [hs, hb, hz] at h
     obtain ⟨h1, h2, h3, h4, h5, h6, h7, h⟩ := h
     by_cases hr : zNb z = true
     ·rw [if_pos hr] at h
      exact ⟨_, _, _, h.2, fun H' hh K' hk => by simp only [ht, hs, hb, hz]; exact ⟨h1, h2, h3, h4, h5, h6, by rw [hh nx (by simp)]; exact h7, by rw [if_pos hr]; exact ⟨h.1, hk⟩⟩⟩
     ·rw [if_neg hr] at h
      exact ⟨_, _, _, h, fun H' hh K' hk => by simp only [ht, hs, hb, hz]; exact ⟨h1, h2, h3, h4, h5, h6, by rw [hh nx (by simp)]; exact h7, by rw [if_neg hr]; exact hk⟩⟩
 ·exact h.elim
theorem J5 {H H' : Nat → AObj} {sz : Nat} {x : AV} {ys : List AV} {rd : List Nat} (h : i8 H sz x = some (ys, rd)) (hh : ∀ o, o ∈ rd → H' o = H o) : i8 H' sz x = some (ys, rd) := by
 unfold i8 at h ⊢
 split at h
 ·exact h
 ·rename_i o sz' off len
  cases hA : H o with
  | row s xs =>
   simp only [hA] at h
   split at h
   ·rename_i hc
    simp at h
    rw [hh o (by rw [← h.2]; simp), hA]
    simp only
    rw [if_pos hc, h.1, h.2]
   ·cases h
  | box cs =>
   simp only [hA] at h
   split at h
   ·rename_i hc
    simp only [Option.some.injEq, Prod.mk.injEq] at h
    rw [hh o (by rw [← h.2]; simp), hA]
    simp only
    rw [if_pos hc, h.1, h.2]
   ·cases h
  | _ => simp [hA] at h
 ·exact h
 ·cases h
theorem zE6 (P : Program) (t : TypeId) (s x : AV) (nx : Nat) : Fix (fun H K => appendA P t s x H nx K) := by
 intro H K h
 unfold appendA at h ⊢
 cases ht : sliceT P t with
 | none => simp only [ht] at h
 | some e =>
  simp only [ht] at h ⊢
  cases hs : sizeT P e with
  | none => simp only [hs] at h
  | some sz =>
   cases hb : bytesT P e with
   | none => simp only [hs, hb] at h
   | some b =>
    cases hz : zeroT P e with
    | none => simp only [hs, hb, hz] at h
    | some z =>
     cases hr : i8 H ((some sz).getD 0) x with
     | none => simp only [hs, hb, hz, hr] at h
     | some yr =>
      obtain ⟨ys, rd⟩ := yr
      simp only [hs, hb, hz, hr] at h
      obtain ⟨h1, h2, h3, h⟩ := h
      by_cases hz' : zNb z = true
      ·rw [if_pos hz'] at h
       split at h
       ·rename_i o sz' len
        generalize hA : H o = A at h
        cases A with
        | box cs =>
         obtain ⟨g1, g2, g3, g4, g5, g6, g7, g⟩ := h
         refine ⟨_, _, _, g, fun H' hh K' hk => ?_⟩
         have hr' := J5 (H' := H') hr (fun o ho => hh o (by simp [ho]))
         simp only [hs, hb, hz, hr', if_pos hz', hh o (by simp), hA]
         exact ⟨h1, h2, h3, g1, g2, g3, g4, by rw [hh nx (by simp)]; exact g5, g6, g7, hk⟩
        | _ => exact h.elim
       ·obtain ⟨g1, g2, g3, g4, g5, g⟩ := h
        refine ⟨_, _, _, g, fun H' hh K' hk => ?_⟩
        have hr' := J5 (H' := H') hr (fun o ho => hh o (by simp [ho]))
        simp only [hs, hb, hz, hr', if_pos hz']
        exact ⟨h1, h2, h3, g1, g2, by rw [hh nx (by simp)]; exact g3, g4, g5, hk⟩
       ·exact h.elim
      ·rw [if_neg hz'] at h
       obtain ⟨hpu, h⟩ := h
       split at h
       ·rename_i o sz' len
        generalize hA : H o = A at h
        cases A with
        | row sz'' xs =>
         obtain ⟨g1, g2, g3, g4, g5, g6, g⟩ := h
         refine ⟨_, _, _, g, fun H' hh K' hk => ?_⟩
         have hr' := J5 (H' := H') hr (fun o ho => hh o (by simp [ho]))
         simp only [hs, hb, hz, hr', if_neg hz', hh o (by simp), hA]
         exact ⟨h1, h2, h3, hpu, g1, g2, g3, by rw [hh nx (by simp)]; exact g4, g5, g6, hk⟩
        | _ => exact h.elim
       ·obtain ⟨g1, g2, g3, g⟩ := h
        refine ⟨_, _, _, g, fun H' hh K' hk => ?_⟩
        have hr' := J5 (H' := H') hr (fun o ho => hh o (by simp [ho]))
        simp only [hs, hb, hz, hr', if_neg hz']
        exact ⟨h1, h2, h3, hpu, by rw [hh nx (by simp)]; exact g1, g2, g3, hk⟩
       ·exact h.elim
theorem zFB (P : Program) (b : Builtin) (ts : Array TypeId) (xs : List AV) (nx : Nat) : Fix (fun H K => M6 P b ts xs H nx K) := by
 unfold M6
 split
 ·refine Fix.and ?_
  split
  ·exact Fix.out _ _ _
  ·exact Fix.no
 ·exact Fix.and (zE6 _ _ _ _ _)
 ·exact Fix.out _ _ _
 ·exact Fix.out _ _ _
 ·exact Fix.no
theorem Xp.congr {H H' : Nat → AObj} {ρ : Nat → Option (Option Nat)} {F : Nat → Prop} (hh : ∀ o, F o → H' o = H o) {x y : AV} (h : Xp H ρ F x y) : Xp H' ρ F x y := by
 induction h with
 | any x => exact .any x
 | same x h => exact .same x h
 | ptr k o off h => exact .ptr k o off h
 | eptr k o sz i off h => exact .eptr k o sz i off h
 | own k o sz off len h => exact .own k o sz off len h
 | mp k o h => exact .mp k o h
 | yld k o h => exact .yld k o h
 | nil k sz h => exact .nil k sz h
 | nill => exact .nill
 | nmapl => exact .nmapl
 | froz o sz off len xs h1 h2 h3 => exact .froz o sz off len xs ((hh o h2).trans h1) h2 h3
 | frozm o ks ks' xs xs' h1 h2 h3 => exact .frozm o ks ks' xs xs' ((hh o h2).trans h1) h2 h3
 | frozb o off len cs xs h1 h2 h3 h4 h5 h6 _ ih => exact .frozb o off len cs xs ((hh o h2).trans h1) h2 h3 h4 h5 h6 ih
 | agg cs ds hl _ ih => exact .agg cs ds hl ih
 | tup cs ds hl _ ih => exact .tup cs ds hl ih
 | fn f cs ds hl _ ih => exact .fn f cs ds hl ih
theorem All2.imp {R S : AV → AV → Prop} (h : ∀ x y, R x y → S x y) {xs ys : List AV} (ha : All2 R xs ys) : All2 S xs ys := by
 induction ha with
 | nil => exact .nil
 | cons h1 _ ih => exact .cons (h _ _ h1) ih
theorem OXp.congr {H H' : Nat → AObj} {ρ : Nat → Option (Option Nat)} {F : Nat → Prop} (hh : ∀ o, F o → H' o = H o) {A B : AObj} (h : OXp H ρ F A B) : OXp H' ρ F A B := by
 cases A <;> cases B <;> first | exact h | exact h.elim | exact ⟨h.1, fun i h1 h2 => (h.2 i h1 h2).congr hh⟩ | exact ⟨h.1, h.2.1, fun t => (h.2.2 t).congr hh⟩
theorem zFC (P : Program) (f : FuncId) (avs : List AV) (nx : Nat) : Fix (fun H K => H5 P f avs H nx K) := by
 intro H K h
 obtain ⟨ids, ex, args, fp, r, out, hm, hK⟩ := h
 refine ⟨_, _, _, hK, fun H' hh K' hk => ⟨ids, ex, args, fp, r, out, ?_, hk⟩⟩
 have hex : ∀ o, o ∈ ex → H' o = H o := fun o ho => hh o (by simp [ho])
 refine ⟨hm.spec, hm.nodup, hm.apart, hm.args.imp (fun _ _ h => h.congr hex), hm.fpl, fun k hk' => ?_, hm.scal, fun j hj => ?_, hm.unb⟩
 ·obtain ⟨h1, h2⟩ := hm.fps k hk'
  have hid : ids.getD k 0 ∈ ids := by
   have : k < ids.length := by rw [← hm.fpl]; exact hk'
   rw [w5 this]; exact List.getElem_mem this
  rw [hh _ (by simp only [List.mem_append]; exact .inl (.inl hid))]
  exact ⟨h1, h2.congr hex⟩
 ·rw [hh _ (by simp only [List.mem_append, c8, List.mem_map, List.mem_range]; exact .inr ⟨j, hj, rfl⟩)]
  exact hm.fresh j hj
theorem zBW (P : Program) (f : FuncId) (avs : List AV) (nx : Nat) : Fix (fun H K => y9 P f avs H nx K) := by
 intro H K h
 obtain ⟨gone, as', hx, h⟩ := h
 obtain ⟨v, rd, wr, hK, hfix⟩ := zFC P f as' nx _ _ h
 refine ⟨_, _, _, hK, fun H' hh K' hk => ⟨gone, as', hx.imp (fun _ _ h => h.congr (fun o ho => hh o (by simp [ho]))), hfix _ (fun o ho => ?_) _ hk⟩⟩
 by_cases hg : o ∈ gone
 ·simp only [hg, if_true]
 ·simp only [hg, if_false]; exact hh o (by simp [ho])
theorem zFP (P : Program) (t : TypeId) (r : Option AV) (nx : Nat) : Fix (fun H K => O1 P t r H nx K) := by
 intro H K h
 unfold O1 at h ⊢
 split at h
 ·exact ⟨_, _, _, h.2, fun H' hh K' hk => ⟨by rw [hh nx (by simp)]; exact h.1, hk⟩⟩
 ·exact ⟨_, _, _, h.2.2, fun H' hh K' hk => ⟨h.1, by rw [hh nx (by simp)]; exact h.2.1, hk⟩⟩
 ·exact h.elim
theorem zBX (P : Program) (t : TypeId) (m k x : AV) : Fix (fun H K => Y0 P t m k x H K) := by
 intro H K h
 unfold Y0 at h ⊢
 split at h
 ·rename_i kt et o kv hmt hkv
  generalize hA : H o = A at h
  cases A with
  | mapo ks xs =>
   obtain ⟨h1, h2, h3, h4, h5, h⟩ := h
   refine ⟨_, _, _, h, fun H' hh K' hk => ?_⟩
   have he := B3 3 x h4 (fun q hq => hh q (by simp [hq]))
   simp only [hmt, hkv, hh o (by simp), hA, he]
   exact ⟨h1, h2, h3, h4, h5, hk⟩
  | _ => exact h.elim
 ·exact h.elim
theorem zFO (P : Program) (t : TypeId) (m k : AV) (ok : Bool) : Fix (fun H K => X1 P t m k ok H K) := by
 intro H K h
 unfold X1 at h ⊢
 split at h
 ·rename_i kt et kv hmt hkv
  cases hz : zeroT P et with
  | none => simp only [hz] at h
  | some z =>
   simp only [hz] at h
   obtain ⟨h1, h2, h3, h⟩ := h
   split at h
   ·exact ⟨_, _, _, h.2, fun H' hh K' hk => by simp only [hmt, hkv, hz]; exact ⟨h1, h2, h3, h.1, hk⟩⟩
   ·rename_i o
    generalize hA : H o = A at h
    cases A with
    | mapo ks xs => exact ⟨_, _, _, h.2, fun H' hh K' hk => by simp only [hmt, hkv, hz, hh o (by simp), hA]; exact ⟨h1, h2, h3, h.1, hk⟩⟩
    | _ => exact h.elim
   ·exact h.elim
 ·exact h.elim
theorem zFU (P : Program) (t : TypeId) (x : AV) (nx : Nat) : Fix (fun H K => N1 P t x H nx K) := by
 intro H K h
 unfold N1 at h ⊢
 split at h
 ·exact ⟨_, _, _, h.2.2, fun H' hh K' hk => ⟨h.1, by rw [hh nx (by simp)]; exact h.2.1, hk⟩⟩
 ·exact ⟨_, _, _, h.2.2, fun H' hh K' hk => ⟨h.1, by rw [hh nx (by simp)]; exact h.2.1, hk⟩⟩
 ·exact h.elim
theorem zFE (P : Program) (s d : TypeId) (x : AV) : Fix (fun H K => P0 P s d x H K) := by
 unfold P0
 split
 ·exact Fix.out _ _ _
 ·exact Fix.and (Fix.out _ _ _)
 ·exact Fix.and (Fix.out _ _ _)
 ·refine Fix.and ?_
  intro H K h
  cases hsl : sliceT P s with
  | none => simp only [hsl] at h
  | some e =>
   rename_i o z off len _
   cases hr : i8 H 1 (.own o z off len) with
   | none => simp only [hsl, hr] at h
   | some p =>
    obtain ⟨ys, rd⟩ := p
    simp only [hsl, hr] at h ⊢
    obtain ⟨he, hne, h⟩ := h
    obtain ⟨l, hl, hK⟩ := D6 _ _ h
    refine ⟨_, rd, [], hK, fun H' hh K' hk => ?_⟩
    rw [J5 hr hh]
    refine ⟨he, hne, zA7 ys h (fun l' hl' _ => ?_)⟩
    have : l' = l := by
     have h3 : l'.map (fun b : UInt8 => AV.raw (.int .u8 (b.toNat : Int))) = l.map (fun b : UInt8 => AV.raw (.int .u8 (b.toNat : Int))) := by rw [← hl', ← hl]
     exact (List.map_inj_right (fun x y hxy => by
      injection hxy with hxy
      injection hxy with _ hxy
      exact UInt8.toNat_inj.1 (by omega))).1 h3
    rw [this]; exact hk
 ·exact Fix.no
theorem zFR (x : AV) : Fix (fun H K => O4 x H K) := by
 intro H K h
 unfold O4 at h ⊢
 split at h
 ·rename_i o
  generalize hA : H o = A at h
  cases A with
  | siter s pos =>
   obtain ⟨k1, k2⟩ := h
   by_cases hp : pos < s.size
   ·exact ⟨_, _, _, k1 hp, fun H' hh K' hk => by simp only [hh o (by simp), hA]; exact ⟨fun _ => hk, fun hn => absurd hp hn⟩⟩
   ·exact ⟨_, _, _, k2 hp, fun H' hh K' hk => by simp only [hh o (by simp), hA]; exact ⟨fun hn => absurd hn hp, fun _ => hk⟩⟩
  | _ => exact h.elim
 ·exact h.elim
theorem zFF (x : AV) : Fix (fun H K => P1 x H K) := by
 intro H K h
 unfold P1 at h ⊢
 split at h
 ·rename_i o
  generalize hA : H o = A at h
  cases A with
  | iter cur ks xs =>
   cases cur with
   | none => exact h.elim
   | some p => exact ⟨_, _, _, h, fun H' hh K' hk => by simp only [hh o (by simp), hA]; exact hk⟩
  | _ => exact h.elim
 ·exact h.elim
theorem zFD (P : Program) (x : AV) (avs : List AV) (nx : Nat) : Fix (fun H K => M8 P x avs H nx K) := by
 unfold M8
 split
 ·exact Fix.and (Fix.and (Fix.and (zBW _ _ _ _)))
 ·exact Fix.and (zBW _ _ _ _)
 ·exact Fix.no
theorem zFG (P : Program) (o : Oper) (ev : Operand → AV) (nx : Nat) : Fix (fun H K => zNT P o ev H nx K) := by
 unfold zNT
 split
 ·exact Fix.out _ _ _
 ·exact Fix.out _ _ _
 ·exact zFT _ _ _
 ·exact zE5 _ _ _
 ·exact zE8 _ _
 ·exact zE9 _ _ _
 ·exact zFA _ _ _ _ _
 ·exact zFN _ _ _
 ·exact zFW _ _ _ _
 ·exact zFS _
 ·exact zE7 _ _ _ _ _
 ·exact zFY _ _
 ·exact Fix.and (zFE _ _ _ _)
 ·unfold zAA
  split
  ·exact Fix.and (Fix.out _ _ _)
  ·exact Fix.no
 ·exact zFQ _ _ _ _ _
 ·exact zFV _ _ _ _ _ _
 ·exact zFJ _ _ _ _
 ·exact zFI _ _ _ _
 ·exact zFL _ _ _ _
 ·exact zFK _ _ _ _
 ·exact zFH _ _
 ·exact zFP _ _ _ _
 ·exact zBX _ _ _ _ _
 ·exact zBX _ _ _ _ _
 ·exact zFO _ _ _ _ _
 ·exact zFU _ _ _ _
 ·exact Fix.and (zFR _)
 ·exact zFF _
 ·unfold R6
  split
  ·exact zFB _ _ _ _ _
  ·exact zFD _ _ _ _
  ·exact Fix.no
 ·exact Fix.no
theorem zEy {P : Program} {o : Oper} {ev ev' : Operand → AV} {H : Nat → AObj} {nx : Nat} {K : Cont} (h : ∀ x, x ∈ o.op.operands → ev' x = ev x) (he : zNT P o ev H nx K) : zNT P o ev' H nx K := by
 unfold zNT at he ⊢
 cases hop : o.op <;> rw [hop] at he h <;> simp only at he ⊢ <;> try (first | exact he.elim | skip)
 case build t ps =>
  have e : (ps.toList.map fun p => (p.1, ev' p.2)) = ps.toList.map fun p => (p.1, ev p.2) := List.map_congr_left (fun p hp => by rw [h p.2 (by simp [Op.operands]; exact ⟨p.1, by simpa using hp⟩)])
  rw [e]; exact he
 case buildSlice t n ps =>
  have e : (ps.toList.map fun p => (p.1, ev' p.2)) = ps.toList.map fun p => (p.1, ev p.2) := List.map_congr_left (fun p hp => by rw [h p.2 (by simp [Op.operands]; exact ⟨p.1, by simpa using hp⟩)])
  rw [e]; exact he
 case makeFunc fn first cs =>
  have e : cs.toList.map ev' = cs.toList.map ev := List.map_congr_left (fun p hp => h p (by simp [Op.operands]; exact .inr (by simpa using hp)))
  rw [e]; exact he
 case slice t x lo hi mx =>
  have e0 := h x (by simp [Op.operands])
  have e1 : lo.map ev' = lo.map ev := by cases lo with
   | none => rfl
   | some y => simp only [Option.map_some]; rw [h y (by simp [Op.operands])]
  have e2 : hi.map ev' = hi.map ev := by cases hi with
   | none => rfl
   | some y => simp only [Option.map_some]; rw [h y (by simp [Op.operands])]
  have e3 : mx.map ev' = mx.map ev := by cases mx with
   | none => rfl
   | some y => simp only [Option.map_some]; rw [h y (by simp [Op.operands])]
  rw [e0, e1, e2, e3]; exact he
 case makeMap t r =>
  have e1 : r.map ev' = r.map ev := by cases r with
   | none => rfl
   | some y => simp only [Option.map_some]; rw [h y (by simp [Op.operands])]
  rw [e1]; exact he
 case mapUpdate t m k x =>
  rw [h m (by simp [Op.operands]), h k (by simp [Op.operands]), h x (by simp [Op.operands])]; exact he
 case insert t m k x =>
  rw [h m (by simp [Op.operands]), h k (by simp [Op.operands]), h x (by simp [Op.operands])]; exact he
 case lookup t m k ok =>
  rw [h m (by simp [Op.operands]), h k (by simp [Op.operands])]; exact he
 case call c =>
  have e : c.args.toList.map ev' = c.args.toList.map ev := List.map_congr_left (fun p hp => h p (by simp [Op.operands, Go.Call.operands]; exact .inr (by simpa using hp)))
  rw [e]
  obtain ⟨callee, args, ts⟩ := c
  cases callee with
  | value f =>
   have e2 := h f (by simp [Op.operands, Go.Call.operands])
   simp only [R6] at he ⊢
   rw [e2]; exact he
  | _ => exact he
 all_goals
  first
  | (rw [h _ (by simp [Op.operands])]; exact he)
  | (rw [h _ (by simp [Op.operands]), h _ (by simp [Op.operands])]; exact he)
  | (rw [h _ (by simp [Op.operands]), h _ (by simp [Op.operands]), h _ (by simp [Op.operands])]; exact he)
  | exact he
  | (simp only [h _ (by simp [Op.operands])]; exact he)
end Go.Abs

namespace Go.Abs
open Go
def nxF : Nat → List (Nat × AObj) → Nat
 | m, [] => m
 | m, (k, _) :: r => nxF (if k < m then m else k + 1) r
def AS.nx (σ : AS) : Nat := nxF 0 σ.objs
def gIf (b want : Bool) (Y N : Prop) : Prop := (b = want → Y) ∧ (b = !want → N)
def p7 (all : List Oper) (σ : AS) (o : Oper) (Y N : Prop) : Prop := match o.guard with
 | none => Y
 | some (j, want) => match (all[j]?).bind (·.dst) with
  | some d => (match σ.get d with
   | .raw (.bool b) => gIf b want Y N
   | .tup [] => N
   | _ => False)
  | none => False
structure Touch where
 rd : List Nat
 wr : List Nat
def ltN (a b : Nat) : Prop := a < b
def y4 (P : Program) (all : List Oper) (K : AS → List Touch → Prop) : List Oper → AS → List Touch → Prop
  | [], σ, ts => K σ ts
  | o :: rest, σ, ts => p7 all σ o
      ((match o.dst with | some d => ltN d σ.n | none => True) ∧
        zNT P o σ.ev σ.obj σ.nx (fun v rd wr => y4 P all K rest ((σ.writes wr).putD o.dst v) (ts ++ [⟨rd, wr.map (·.1)⟩])))
      ((match o.dst with | some d => ltN d σ.n | none => True) ∧ y4 P all K rest (σ.putD o.dst (.tup [])) (ts ++ [⟨[], []⟩]))
section
variable {P : Program} {E : Env}
theorem zFc {a : Act} {d : Nat} {b : Bool} (h : a.tmps.getD d undef = .bool b) : a.tmps[d]? = some (.bool b) := by
 by_cases hd : d < a.tmps.size
 ·simp [hd] at h ⊢; exact h
 ·simp [hd, undef] at h
theorem T3 {I : Nat → Prop} {loc : Nat → Loc} {σ : AS} {a : Act} {w : World} (hs : SR E I loc σ a w) {all : List Oper} {o : Oper} {Y N : Prop} (h : p7 all σ o Y N) :
    (Region.wanted o (yielded all.toArray a.tmps) = true ∧ Y) ∨ (Region.wanted o (yielded all.toArray a.tmps) = false ∧ N) := by
  unfold p7 at h
  unfold Region.wanted
  cases hg : o.guard with
  | none => rw [hg] at h; exact .inl ⟨rfl, h⟩
  | some jw =>
    obtain ⟨j, want⟩ := jw
    rw [hg] at h
    simp only at h ⊢
    cases hd : (all[j]?).bind (·.dst) with
    | none => simp only [hd] at h
    | some d =>
      simp only [hd] at h
      have hy : ∀ v, a.tmps.getD d undef = v → yielded all.toArray a.tmps j = (match a.tmps[d]? with | some (.bool b) => some b | _ => none) := fun v _ => by
        unfold yielded
        have : (all.toArray[j]?).bind (·.dst) = some d := by simpa using hd
        rw [this]; rfl
      have hv := hs.tmps d
      split at h
      · rename_i b hb
        rw [hb] at hv
        have e := hv.raw_eq
        rw [hy _ e, zFc e]
        cases b <;> cases want <;> simp_all [gIf]
      · rename_i hb
        rw [hb] at hv
        have e : a.tmps.getD d undef = undef := by
          generalize a.tmps.getD d undef = u at hv
          cases hv with
          | pure hv => cases hv
          | tup _ vs h1 _ => simp at h1; have : vs = #[] := Array.eq_empty_of_size_eq_zero h1.symm
                             rw [this]; rfl
        right
        refine ⟨?_, h⟩
        rw [hy _ e]
        have : ∀ b, a.tmps[d]? ≠ some (.bool b) := fun b hb' => by
          have : a.tmps.getD d undef = .bool b := by simp only [Array.getD_eq_getD_getElem?, hb', Option.getD_some]
          rw [e] at this; simp [undef] at this
        cases hq : a.tmps[d]? with
        | none => simp
        | some v => cases v <;> simp <;> exact absurd hq (this _)
      · exact h.elim
theorem zAO {all : List Oper} {K : AS → List Touch → Prop} {Q : Exit → Act → World → Prop} (hK : ∀ σ ts a w, K σ ts → St E σ a w → Q .normal a w) :
  ∀ (l : List Oper) (σ : AS) (ts : List Touch) (a : Act) (w : World), y4 P all K l σ ts → St E σ a w → wpList P all.toArray Q l a w
 | [], σ, ts, a, w, h, hs => hK σ ts a w h hs
 | o :: rest, σ, ts, a, w, h, ⟨I, loc, hs⟩ => by
  unfold wpList
  rcases T3 hs h with ⟨hw, hd, he⟩ | ⟨hw, hd, hr⟩
  ·rw [if_pos hw]
   refine .inl (L3 hs he (fun d e => by rw [e] at hd; exact hd) (fun v rd wr a' w' hk hst => zAO hK rest _ _ a' w' hk hst))
  ·rw [hw, if_neg (by simp)]
   exact zAO hK rest _ _ _ _ hr ⟨I, loc, hs.putD Y5 (fun d e => by rw [e] at hd; exact hd)⟩
structure Evt where
 want : Bool
 v : AV
 rd : List Nat
 wr : List (Nat × AObj)
 nx : Nat
def Evt.touch (e : Evt) : Touch := ⟨e.rd, e.wr.map (·.1)⟩
structure Fits (P : Program) (all : List Oper) (o : Oper) (σ : AS) (e : Evt) : Prop where
 guard : match o.guard with
  | none => e.want = true
  | some (j, want) => ∃ d, (all[j]?).bind (·.dst) = some d ∧ ((∃ b, σ.get d = .raw (.bool b) ∧ e.want = (b == want)) ∨ (σ.get d = .tup [] ∧ e.want = false))
 dst : ∀ d, o.dst = some d → d < σ.n
 run : e.want = true → ∀ ev H (K : Cont), (∀ x, x ∈ o.op.operands → ev x = σ.ev x) → (∀ k, k ∈ e.rd → H k = σ.obj k) → K e.v e.rd e.wr → zNT P o ev H e.nx K
 skip : e.want = false → e.v = .tup [] ∧ e.rd = [] ∧ e.wr = []
def Evt.app (e : Evt) (o : Oper) (σ : AS) : AS := (σ.writes e.wr).putD o.dst e.v
inductive Chain (P : Program) (all : List Oper) : List Oper → AS → List Evt → AS → Prop
 | nil (σ : AS) : Chain P all [] σ [] σ
 | cons {o : Oper} {l : List Oper} {σ σ' : AS} {e : Evt} {es : List Evt} : Fits P all o σ e → Chain P all l (e.app o σ) es σ' → Chain P all (o :: l) σ (e :: es) σ'
theorem C0 {all : List Oper} {K : AS → List Touch → Prop} : ∀ (l : List Oper) (σ : AS) (ts : List Touch), y4 P all K l σ ts → ∃ es σ', Chain P all l σ es σ' ∧ K σ' (ts ++ es.map Evt.touch)
  | [], σ, ts, h => ⟨[], σ, .nil σ, by simpa [y4] using h⟩
  | o :: rest, σ, ts, h => by
    have yes : ((match o.dst with | some d => ltN d σ.n | none => True) ∧ zNT P o σ.ev σ.obj σ.nx (fun v rd wr => y4 P all K rest ((σ.writes wr).putD o.dst v) (ts ++ [⟨rd, wr.map (·.1)⟩]))) →
        (match o.guard with | none => True | some (j, want) => ∃ d, (all[j]?).bind (·.dst) = some d ∧ ∃ b, σ.get d = .raw (.bool b) ∧ true = (b == want)) → ∃ es σ', Chain P all (o :: rest) σ es σ' ∧ K σ' (ts ++ es.map Evt.touch) := by
      rintro ⟨hd, he⟩ hg
      obtain ⟨v, rd, wr, hk, hf⟩ := zFG P o σ.ev σ.nx σ.obj _ he
      obtain ⟨es, σ', hc, hK⟩ := C0 rest _ _ hk
      refine ⟨⟨true, v, rd, wr, σ.nx⟩ :: es, σ', .cons ⟨?_, (by intro d e; rw [e] at hd; exact hd), fun _ ev H K hev hH hK => zEy hev (hf H hH K hK), (by intro h; cases h)⟩ hc, by simpa [Evt.touch] using hK⟩
      cases hgo : o.guard with
      | none => rfl
      | some jw =>
        rw [hgo] at hg
        obtain ⟨d, h1, b, h2, h3⟩ := hg
        exact ⟨d, h1, .inl ⟨b, h2, h3⟩⟩
    have no : ((match o.dst with | some d => ltN d σ.n | none => True) ∧ y4 P all K rest (σ.putD o.dst (.tup [])) (ts ++ [⟨[], []⟩])) →
        (match o.guard with | none => False | some (j, want) => ∃ d, (all[j]?).bind (·.dst) = some d ∧ ((∃ b, σ.get d = .raw (.bool b) ∧ false = (b == want)) ∨ σ.get d = .tup [])) → ∃ es σ', Chain P all (o :: rest) σ es σ' ∧ K σ' (ts ++ es.map Evt.touch) := by
      rintro ⟨hd, hr⟩ hg
      obtain ⟨es, σ', hc, hK⟩ := C0 rest _ _ hr
      refine ⟨⟨false, .tup [], [], [], σ.nx⟩ :: es, σ', .cons ⟨?_, (by intro d e; rw [e] at hd; exact hd), (by intro h; cases h), fun _ => ⟨rfl, rfl, rfl⟩⟩ hc, by simpa [Evt.touch] using hK⟩
      cases hgo : o.guard with
      | none => rw [hgo] at hg; exact hg.elim
      | some jw =>
        rw [hgo] at hg
        obtain ⟨d, h1, h2⟩ := hg
        exact ⟨d, h1, h2.imp id (fun h => ⟨h, rfl⟩)⟩
    unfold y4 p7 at h
    cases hg : o.guard with
    | none => rw [hg] at h; exact yes h (by rw [hg]; trivial)
    | some jw =>
      obtain ⟨j, want⟩ := jw
      rw [hg] at h
      simp only at h
      cases hd : (all[j]?).bind (·.dst) with
      | none => simp only [hd] at h
      | some d =>
        simp only [hd] at h
        split at h
        · rename_i b hb
          by_cases hbw : b = want
          · exact yes (h.1 hbw) (by rw [hg]; exact ⟨d, hd, b, hb, by simp [hbw]⟩)
          · have : b = !want := by cases b <;> cases want <;> simp_all
            exact no (h.2 this) (by rw [hg]; exact ⟨d, hd, .inl ⟨b, hb, by simp [hbw]⟩⟩)
        · rename_i hb
          exact no h (by rw [hg]; exact ⟨d, hd, .inr hb⟩)
        · exact h.elim
def stL (L : Nat → Bool) : Nat → List Oper → List Evt → AS → AS
 | k, o :: l, e :: es, σ => stL L (k + 1) l es (if L k then e.app o σ else σ)
 | _, _, _, σ => σ
theorem M3 (e : Evt) (o : Oper) (σ : AS) (t : Nat) : (e.app o σ).get t = if o.dst = some t then e.v else σ.get t := by
 unfold Evt.app AS.putD
 cases hd : o.dst with
 | none => simp [(f9 e.wr σ).2]
 | some d =>
  simp only [AS.get_put, Option.some.injEq]
  split
  ·rfl
  ·exact (f9 e.wr σ).2 t
theorem zAw (e : Evt) (o : Oper) (σ : AS) : (e.app o σ).n = σ.n := by
 unfold Evt.app AS.putD
 cases o.dst with
 | none => exact (f9 e.wr σ).1
 | some d => exact (f9 e.wr σ).1
theorem zAn : ∀ (wr : List (Nat × AObj)) (σ σ' : AS) (o : Nat), (o ∈ wr.map (·.1) ∨ σ.obj o = σ'.obj o) → (σ.writes wr).obj o = (σ'.writes wr).obj o
 | [], σ, σ', o, h => by simpa [AS.writes] using h
 | q :: wr, σ, σ', o, h => by
  refine zAn wr (σ.setO q.1 q.2) (σ'.setO q.1 q.2) o ?_
  by_cases hq : q.1 = o
  ·right; rw [AS.obj_setO, AS.obj_setO, if_pos hq, if_pos hq]
  ·rcases h with h | h
   ·left
    simp only [List.map_cons, List.mem_cons] at h
    exact h.resolve_left (fun e => hq e.symm)
   ·right; rw [AS.obj_setO, AS.obj_setO, if_neg hq, if_neg hq]; exact h
theorem zAp : ∀ (wr : List (Nat × AObj)) (σ : AS) (o : Nat), o ∉ wr.map (·.1) → (σ.writes wr).obj o = σ.obj o
 | [], _, _, _ => rfl
 | q :: wr, σ, o, h => by
  have h' : q.1 ≠ o ∧ o ∉ wr.map (·.1) := by
   simp only [List.map_cons, List.mem_cons] at h
   exact ⟨fun e => h (.inl e.symm), fun e => h (.inr e)⟩
  have := zAp wr (σ.setO q.1 q.2) o h'.2
  rw [AS.obj_setO, if_neg h'.1] at this
  exact this
theorem M4 (e : Evt) (o : Oper) (σ : AS) (k : Nat) : (e.app o σ).obj k = (σ.writes e.wr).obj k := by
 unfold Evt.app AS.putD
 cases o.dst <;> rfl
theorem X9 (L : Nat → Bool) : ∀ (k : Nat) (l : List Oper) (es : List Evt) (σ : AS), (stL L k l es σ).n = σ.n
 | k, o :: l, e :: es, σ => by
  simp only [stL]
  rw [X9 L (k + 1) l es]
  split
  ·exact zAw e o σ
  ·rfl
 | _, [], _, _ => rfl
 | _, _ :: _, [], _ => rfl
theorem I6 {L L' : Nat → Bool} {t : Nat} : ∀ (k : Nat) (l : List Oper) (es : List Evt) (σ σ' : AS), σ.get t = σ'.get t → (∀ i (h : i < l.length), (l[i]).dst = some t → L (k + i) = L' (k + i)) →
    (stL L k l es σ).get t = (stL L' k l es σ').get t
  | k, o :: l, e :: es, σ, σ', h, hL => by
    simp only [stL]
    refine I6 (k + 1) l es _ _ ?_ (fun i hi hd => by have := hL (i + 1) (by simpa using hi) (by simpa using hd); rwa [Nat.add_assoc, Nat.add_comm 1 i])
    by_cases hd : o.dst = some t
    · have := hL 0 (by simp) (by simpa using hd)
      simp only [Nat.add_zero] at this
      rw [this]
      cases L' k
      · exact h
      · rw [if_pos rfl, if_pos rfl, M3, M3, if_pos hd, if_pos hd]
    · have e1 : ∀ (b : Bool) (τ : AS), (if b = true then e.app o τ else τ).get t = τ.get t := fun b τ => by
        cases b
        · rfl
        · rw [if_pos rfl, M3, if_neg hd]
      rw [e1, e1]; exact h
  | _, [], _, _, _, h, _ => h
  | _, _ :: _, [], _, _, h, _ => h
theorem I7 {L L' : Nat → Bool} {q : Nat} : ∀ (k : Nat) (l : List Oper) (es : List Evt) (σ σ' : AS), σ.obj q = σ'.obj q → (∀ i (h : i < es.length), q ∈ (es[i]).wr.map (·.1) → L (k + i) = L' (k + i)) →
    (stL L k l es σ).obj q = (stL L' k l es σ').obj q
  | k, o :: l, e :: es, σ, σ', h, hL => by
    simp only [stL]
    refine I7 (k + 1) l es _ _ ?_ (fun i hi hd => by have := hL (i + 1) (by simpa using hi) (by simpa using hd); rwa [Nat.add_assoc, Nat.add_comm 1 i])
    by_cases hd : q ∈ e.wr.map (·.1)
    · have := hL 0 (by simp) (by simpa using hd)
      simp only [Nat.add_zero] at this
      rw [this]
      cases L' k
      · exact h
      · rw [if_pos rfl, if_pos rfl, M4, M4]; exact zAn e.wr _ _ q (.inl hd)
    · have e1 : ∀ (b : Bool) (τ : AS), (if b = true then e.app o τ else τ).obj q = τ.obj q := fun b τ => by
        cases b
        · rfl
        · rw [if_pos rfl, M4, zAp _ _ _ hd]
      rw [e1, e1]; exact h
  | _, [], _, _, _, h, _ => h
  | _, _ :: _, [], _, _, h, _ => h
theorem zC8 {L : Nat → Bool} {t j : Nat} : ∀ (k : Nat) (l : List Oper) (es : List Evt) (σ : AS) (hj : j < l.length) (hj' : j < es.length), l.length = es.length → (l[j]).dst = some t → L (k + j) = true →
    (∀ i (h : i < l.length), j < i → (l[i]).dst = some t → L (k + i) = false) → (stL L k l es σ).get t = (es[j]).v
  | k, o :: l, e :: es, σ, hj, hj', hlen, hd, hL, hno => by
    simp only [stL]
    cases j with
    | zero =>
      simp only [Nat.add_zero] at hL
      rw [hL, if_pos rfl]
      have : (stL L (k + 1) l es (e.app o σ)).get t = (stL (fun _ => false) (k + 1) l es (e.app o σ)).get t :=
        I6 (k + 1) l es _ _ rfl (fun i hi hdi => by have := hno (i + 1) (by simpa using hi) (by omega) (by simpa using hdi); rwa [Nat.add_assoc, Nat.add_comm 1 i])
      rw [this]
      have hnone : ∀ (k : Nat) (l : List Oper) (es : List Evt) (τ : AS), (stL (fun _ => false) k l es τ) = τ := fun k l => by
        induction l generalizing k with
        | nil => exact fun es τ => by cases es <;> rfl
        | cons o l ih => exact fun es τ => by
                           cases es with
                           | nil => rfl
                           | cons e es => simp only [stL]; exact ih _ _ _
      rw [hnone, M3, if_pos (by simpa using hd)]; rfl
    | succ j =>
      have := zC8 (j := j) (t := t) (L := L) (k + 1) l es (if L k then e.app o σ else σ) (by simpa using hj) (by simpa using hj') (by simpa using hlen) (by simpa using hd) (by rw [Nat.add_assoc, Nat.add_comm 1 j]; exact hL)
        (fun i hi hij hdi => by have := hno (i + 1) (by simpa using hi) (by omega) (by simpa using hdi); rwa [Nat.add_assoc, Nat.add_comm 1 i])
      simpa using this
theorem zC9 {L : Nat → Bool} {q j : Nat} : ∀ (k : Nat) (l : List Oper) (es : List Evt) (σ τ : AS) (hj : j < es.length), l.length = es.length → q ∈ (es[j]).wr.map (·.1) → L (k + j) = true →
    (∀ i (h : i < es.length), j < i → q ∈ (es[i]).wr.map (·.1) → L (k + i) = false) → (stL L k l es σ).obj q = (τ.writes (es[j]).wr).obj q
  | k, o :: l, e :: es, σ, τ, hj, hlen, hd, hL, hno => by
    simp only [stL]
    cases j with
    | zero =>
      simp only [Nat.add_zero] at hL
      rw [hL, if_pos rfl]
      have : (stL L (k + 1) l es (e.app o σ)).obj q = (stL (fun _ => false) (k + 1) l es (e.app o σ)).obj q :=
        I7 (k + 1) l es _ _ rfl (fun i hi hdi => by have := hno (i + 1) (by simpa using hi) (by omega) (by simpa using hdi); rwa [Nat.add_assoc, Nat.add_comm 1 i])
      rw [this]
      have hnone : ∀ (k : Nat) (l : List Oper) (es : List Evt) (τ : AS), (stL (fun _ => false) k l es τ) = τ := fun k l => by
        induction l generalizing k with
        | nil => exact fun es τ => by cases es <;> rfl
        | cons o l ih => exact fun es τ => by
                           cases es with
                           | nil => rfl
                           | cons e es => simp only [stL]; exact ih _ _ _
      rw [hnone, M4]
      exact zAn _ _ _ _ (.inl (by simpa using hd))
    | succ j =>
      have := zC9 (j := j) (q := q) (L := L) (k + 1) l es (if L k then e.app o σ else σ) τ (by simpa using hj) (by simpa using hlen) (by simpa using hd) (by rw [Nat.add_assoc, Nat.add_comm 1 j]; exact hL)
        (fun i hi hij hdi => by have := hno (i + 1) (by simpa using hi) (by omega) (by simpa using hdi); rwa [Nat.add_assoc, Nat.add_comm 1 i])
      simpa using this
  | _, [], e :: es, _, _, _, hlen, _, _, _ => by simp at hlen
  | _, _, [], _, _, hj, _, _, _, _ => by simp at hj
theorem Chain.fits {all : List Oper} : ∀ {l : List Oper} {σ σ' : AS} {es : List Evt} (k : Nat), Chain P all l σ es σ' → l.length = es.length ∧ σ' = stL (fun _ => true) k l es σ ∧
    ∀ j (hj : j < l.length) (hj' : j < es.length), Fits P all (l[j]) (stL (fun i => decide (i < k + j)) k l es σ) (es[j])
  | _, _, _, _, k, .nil σ => ⟨rfl, rfl, fun j hj => by simp at hj⟩
  | _, _, _, _, k, .cons (o := o) (l := l) (σ := σ) (e := e) (es := es) hf hc => by
    obtain ⟨h1, h2, h3⟩ := Chain.fits (k + 1) hc
    refine ⟨by simp [h1], by simp only [stL, if_true]; exact h2, fun j hj hj' => ?_⟩
    cases j with
    | zero =>
      have hnone : ∀ (k' : Nat), k ≤ k' → ∀ (l : List Oper) (es : List Evt) (τ : AS), (stL (fun i => decide (i < k + 0)) k' l es τ) = τ := fun k' hk l => by
        induction l generalizing k' with
        | nil => exact fun es τ => by cases es <;> rfl
        | cons o l ih => exact fun es τ => by
                           cases es with
                           | nil => rfl
                           | cons e es => simp only [stL]; rw [if_neg (by simp; omega)]; exact ih _ (by omega) _ _
      simp only [List.getElem_cons_zero]
      rw [hnone k (Nat.le_refl _)]; exact hf
    | succ j =>
      simp only [stL, List.getElem_cons_succ]
      rw [if_pos (by simp)]
      have := h3 j (by simpa using hj) (by simpa using hj')
      have e1 : (fun i => decide (i < k + 1 + j)) = (fun i => decide (i < k + (j + 1))) := by funext i; congr 1; rw [Nat.add_assoc, Nat.add_comm 1 j]
      rw [e1] at this; exact this
def K6 (acc : List Nat) (o : Oper) : Nat := o.after.toList.foldl (fun s e => if Region.binds .any e = true then s ||| (2 ^ e.on ||| acc.getD e.on 0) else s) 0
def O3 : List Oper → List Nat → List Nat
 | [], acc => acc
 | o :: r, acc => O3 r (acc ++ [K6 acc o])
def O6 (a b : List Nat) : Bool := a.any (fun x => b.contains x)
def R4 (ops : Array Oper) (o1 o2 : Oper) (t1 t2 : Touch) : Bool := o1.apart ops o2 && (!O6 t1.wr (t2.rd ++ t2.wr) && !O6 t2.wr t1.rd)
def T6 (ops : List Oper) (ts : List Touch) : Bool :=
 (List.range ops.length).all (fun j => (List.range j).all fun i => ((O3 ops []).getD j 0).testBit i || R4 ops.toArray (ops.getD i default) (ops.getD j default) (ts.getD i ⟨[], []⟩) (ts.getD j ⟨[], []⟩))
def L2 (ops : List Oper) : Bool := (List.range ops.length).all fun j => (ops.getD j default).after.all fun e => !Region.binds .any e || decide (e.on < j)
def I9 (ops : List Oper) (L : Nat → Bool) : Prop := ∀ i (h : i < ops.length), L i = true → ∀ e, e ∈ (ops[i]).after → Region.binds .any e = true → L e.on = true
def zNS (ops : List Oper) (acc : List Nat) : Prop := ∀ j (h : j < acc.length) (h' : j < ops.length) (L : Nat → Bool), I9 ops L → (∀ e, e ∈ (ops[j]).after → Region.binds .any e = true → L e.on = true) → ∀ i, (acc[j]).testBit i = true → L i = true
theorem zGY {acc : List Nat} {o : Oper} {i : Nat} (h : (K6 acc o).testBit i = true) : ∃ e, e ∈ o.after ∧ Region.binds .any e = true ∧ (i = e.on ∨ (acc.getD e.on 0).testBit i = true) := by
 unfold K6 at h
 have key : ∀ (l : List Edge) (s : Nat), (l.foldl (fun s e => if Region.binds .any e = true then s ||| (2 ^ e.on ||| acc.getD e.on 0) else s) s).testBit i = true → s.testBit i = true ∨ ∃ e, e ∈ l ∧ Region.binds .any e = true ∧ (i = e.on ∨ (acc.getD e.on 0).testBit i = true) := by
  intro l
  induction l with
  | nil => exact fun s h => .inl h
  | cons e l ih =>
   intro s h
   simp only [List.foldl_cons] at h
   rcases ih _ h with h | ⟨e', h1, h2⟩
   ·by_cases hb : Region.binds .any e = true
    ·rw [if_pos hb, Nat.testBit_or, Nat.testBit_or, Bool.or_eq_true, Bool.or_eq_true] at h
     rcases h with h | h | h
     ·exact .inl h
     ·refine .inr ⟨e, by simp, hb, .inl ?_⟩
      rw [Nat.testBit_two_pow] at h
      exact (of_decide_eq_true h).symm
     ·exact .inr ⟨e, by simp, hb, .inr h⟩
    ·rw [if_neg hb] at h; exact .inl h
   ·exact .inr ⟨e', by simp [h1], h2⟩
 rcases key _ 0 h with h | ⟨e, h1, h2⟩
 ·simp at h
 ·exact ⟨e, by simpa using h1, h2⟩
theorem zCL (ops : List Oper) : ∀ (l : List Oper) (acc : List Nat), ops.drop acc.length = l → zNS ops acc → zNS ops (O3 l acc) ∧ (O3 l acc).length = acc.length + l.length
 | [], acc, _, h => ⟨h, rfl⟩
 | o :: r, acc, hd, h => by
  have hlt : acc.length < ops.length := by
   have := congrArg List.length hd
   simp at this; omega
  have ho : ops[acc.length] = o := by
   have h0 := congrArg (fun l => l[0]?) hd
   simp only [List.getElem?_drop, Nat.add_zero, List.getElem?_cons_zero, List.getElem?_eq_getElem hlt, Option.some.injEq] at h0
   exact h0
  have hg : zNS ops (acc ++ [K6 acc o]) := by
   intro j hj hj' L hL hed i hi
   by_cases hlt' : j < acc.length
   ·rw [List.getElem_append_left hlt'] at hi
    exact h j hlt' hj' L hL hed i hi
   ·have e : j = acc.length := by simp at hj; omega
    subst e
    simp only [List.getElem_append_right (Nat.le_refl _), Nat.sub_self, List.getElem_cons_zero] at hi
    obtain ⟨e, h1, h2, h3⟩ := zGY hi
    rw [← ho] at h1
    have hLe := hed e h1 h2
    rcases h3 with rfl | h3
    ·exact hLe
    ·by_cases hel : e.on < acc.length
     ·rw [w5 hel] at h3
      exact h e.on hel (by omega) L hL (fun e' he' hb' => hL e.on (by omega) hLe e' he' hb') i h3
     ·rw [List.getD, List.getElem?_eq_none (by omega)] at h3
      simp at h3
  obtain ⟨g1, g2⟩ := zCL ops r (acc ++ [K6 acc o]) (by
   have := congrArg (List.drop 1) hd
   simpa [List.drop_drop] using this) hg
  exact ⟨g1, by rw [O3, g2]; simp; omega⟩
theorem zGR {ops : Array Oper} {o : Oper} {j d : Nat} {want : Bool} (hg : o.guard = some (j, want)) (hd : (ops[j]?).bind (·.dst) = some d) : d ∈ o.looksAt ops := by
 unfold Oper.looksAt; rw [hg]; simp [hd]
theorem zGS {ops : Array Oper} {o : Oper} {t : Nat} (h : Operand.tmp t ∈ o.op.operands) : t ∈ o.looksAt ops := by
 unfold Oper.looksAt
 simp only [List.mem_append, List.mem_filterMap]
 exact .inl ⟨.tmp t, by simpa using h, rfl⟩
theorem zAJ {a b : List Nat} (h : O6 a b = false) {x : Nat} (ha : x ∈ a) : x ∉ b := by
 unfold O6 at h
 rw [List.any_eq_false] at h
 have := h x ha
 simpa using this
theorem zEq {all : List Oper} {es : List Evt} {σ0 σ1 : AS} (hind : T6 all (es.map Evt.touch) = true) (hed : L2 all = true) (hc : Chain P all all σ0 es σ1) {Q : Exit → Act → World → Prop} (hQ : ∀ a w, St E σ1 a w → Q .normal a w) :
    ∀ (fuel : Nat) (listed : Array Bool) (a : Act) (w : World), listed.size = all.length → I9 all (fun i => listed.getD i false) → ((List.range all.length).filter fun i => !listed.getD i true).length ≤ fuel →
      St E (stL (fun i => listed.getD i false) 0 all es σ0) a w → wpAny P .any all.toArray Q fuel listed a w := by
  obtain ⟨hlen, hfin, hfits⟩ := hc.fits 0
  have hgood := zCL all all [] (by simp) (fun j h => by simp at h)
  have hord : ∀ i j (hi : i < all.length) (hj : j < all.length), i < j → ((∀ L, I9 all L → (∀ e, e ∈ (all[j]).after → Region.binds .any e = true → L e.on = true) → L i = true) ∨ R4 all.toArray (all[i]) (all[j]) ((es[i]'(by omega)).touch) ((es[j]'(by omega)).touch) = true) := by
    intro i j hi hj hij
    unfold T6 at hind
    rw [List.all_eq_true] at hind
    have h1 := hind j (by simpa using hj)
    rw [List.all_eq_true] at h1
    have h2 := h1 i (by simpa using hij)
    rw [Bool.or_eq_true] at h2
    rcases h2 with h2 | h2
    · have hjm : j < (O3 all []).length := by rw [hgood.2]; simpa using hj
      rw [w5 hjm] at h2
      exact .inl (fun L hL he => hgood.1 j hjm hj L hL he i h2)
    · rw [w5 hi, w5 hj, w5 (by simpa using (by omega : i < es.length)), w5 (by simpa using (by omega : j < es.length))] at h2
      simp only [List.getElem_map] at h2
      exact .inr h2
  have hedge : ∀ j (hj : j < all.length) e, e ∈ (all[j]).after → Region.binds .any e = true → e.on < j := by
    intro j hj e he hb
    unfold L2 at hed
    rw [List.all_eq_true] at hed
    have h1 := hed j (by simpa using hj)
    rw [w5 hj, Array.all_eq_true_iff_forall_mem] at h1
    have h2 := h1 e he
    rw [hb] at h2
    simpa using h2
  have hdone : ∀ (listed : Array Bool), listed.size = all.length → Region.ready .any all.toArray listed = [] → ∀ i, i < all.length → listed.getD i false = true := by
    intro listed hsz hr i
    induction i using Nat.strongRecOn with
    | _ i ih =>
      intro hi
      by_cases hn : listed.getD i false = true
      · exact hn
      · exfalso
        have hmem : i ∈ Region.ready .any all.toArray listed := by
          rw [mem_ready]
          refine ⟨?_, all[i], by simp [hi], fun e he hb => ih e.on (hedge i hi e he hb) (by have := hedge i hi e he hb; omega)⟩
          have : i < listed.size := by omega
          simp [this] at hn ⊢; exact hn
        rw [hr] at hmem; cases hmem
  have hend : ∀ (listed : Array Bool) a w, listed.size = all.length → Region.ready .any all.toArray listed = [] → St E (stL (fun i => listed.getD i false) 0 all es σ0) a w → Q .normal a w := by
    intro listed a w hsz hr ⟨I, loc, hs⟩
    refine hQ a w ⟨I, loc, hs.congr ?_ (fun t => ?_) (fun o => ?_)⟩
    · rw [hfin, X9, X9]
    · rw [hfin]
      exact I6 0 all es σ0 σ0 rfl (fun i hi _ => by rw [Nat.zero_add, hdone listed hsz hr i hi])
    · rw [hfin]
      exact I7 0 all es σ0 σ0 rfl (fun i hi _ => by rw [Nat.zero_add, hdone listed hsz hr i (by omega)])
  intro fuel
  induction fuel with
  | zero =>
    intro listed a w hsz hcl hun hst
    have hr : Region.ready .any all.toArray listed = [] := by
      have hnil := List.eq_nil_of_length_eq_zero (Nat.le_zero.1 hun)
      cases hrr : Region.ready .any all.toArray listed with
      | nil => rfl
      | cons x xs =>
        exfalso
        have hx : x ∈ Region.ready .any all.toArray listed := by rw [hrr]; simp
        obtain ⟨h0, o, ho, _⟩ := mem_ready.1 hx
        have hxl : x < all.length := by simpa using (Array.getElem?_eq_some_iff.1 ho).1
        have : x ∈ (List.range all.length).filter fun i => !listed.getD i true := List.mem_filter.2 ⟨by simpa using hxl, by rw [h0]; rfl⟩
        rw [hnil] at this; cases this
    exact ⟨hr, hend listed a w hsz hr hst⟩
  | succ fuel ih =>
    intro listed a w hsz hcl hun hst
    refine ⟨fun hr => hend listed a w hsz hr hst, fun j hj => ?_⟩
    obtain ⟨hj0, o, ho, hedg⟩ := mem_ready.1 hj
    have hjl : j < all.length := by simpa using (Array.getElem?_eq_some_iff.1 ho).1
    have hoe : all[j] = o := by simpa [hjl] using ho
    have hje : j < es.length := by omega
    have hjs : j < listed.size := by omega
    have hLj : listed.getD j false = false := by simp [hjs] at hj0 ⊢; exact hj0
    have hedg' : ∀ e, e ∈ (all[j]).after → Region.binds .any e = true → listed.getD e.on false = true := fun e he hb => hedg e (by rw [← hoe]; exact he) hb
    have hfj := hfits j hjl hje
    simp only [Nat.zero_add] at hfj
    -- one that was listed and stands behind j is apart from it
    have hbehind : ∀ i (hi : i < all.length), j < i → listed.getD i false = true → R4 all.toArray (all[j]) (all[i]) ((es[j]).touch) ((es[i]'(by omega)).touch) = true := by
      intro i hi hji hLi
      rcases hord j i hjl hi hji with h | h
      · have := h (fun k => listed.getD k false) hcl (fun e he hb => hcl i hi hLi e he hb)
        rw [hLj] at this; cases this
      · exact h
    have hahead : ∀ i (hi : i < all.length), i < j → listed.getD i false = true ∨ R4 all.toArray (all[i]) (all[j]) ((es[i]'(by omega)).touch) ((es[j]).touch) = true := by
      intro i hi hij
      rcases hord i j hi hjl hij with h | h
      · exact .inl (h (fun k => listed.getD k false) hcl hedg')
      · exact .inr h
    have happ : ∀ {ops : Array Oper} {o1 o2 : Oper} {t1 t2 : Touch}, R4 ops o1 o2 t1 t2 = true → o1.apart ops o2 = true ∧ O6 t1.wr (t2.rd ++ t2.wr) = false ∧ O6 t2.wr t1.rd = false := fun {ops o1 o2 t1 t2} h => by
      unfold R4 at h
      simp only [Bool.and_eq_true, Bool.not_eq_true'] at h
      exact h
    have hreadT : ∀ t, t ∈ (all[j]).looksAt all.toArray → (stL (fun i => listed.getD i false) 0 all es σ0).get t = (stL (fun i => decide (i < j)) 0 all es σ0).get t := by
      intro t ht
      refine I6 0 all es σ0 σ0 rfl (fun i hi hd => ?_)
      rw [Nat.zero_add]
      rcases Nat.lt_trichotomy i j with h | h | h
      · simp only [h, decide_true]
        rcases hahead i hi h with h' | h'
        · exact h'
        · exact absurd ht ((Oper.apart_spec (happ h').1).1 t hd)
      · subst h; simp only [Nat.lt_irrefl, decide_false]; exact hLj
      · simp only [show ¬ i < j by omega, decide_false]
        by_cases hLi : listed.getD i false = true
        · exact absurd ht ((Oper.apart_spec (happ (hbehind i hi h hLi)).1).2.2 t hd)
        · simpa using hLi
    have hreadO : ∀ q, q ∈ (es[j]).rd → (stL (fun i => listed.getD i false) 0 all es σ0).obj q = (stL (fun i => decide (i < j)) 0 all es σ0).obj q := by
      intro q hq
      refine I7 0 all es σ0 σ0 rfl (fun i hi hd => ?_)
      rw [Nat.zero_add]
      have hil : i < all.length := by omega
      rcases Nat.lt_trichotomy i j with h | h | h
      · simp only [h, decide_true]
        rcases hahead i hil h with h' | h'
        · exact h'
        · exact absurd (List.mem_append.2 (.inl hq)) (zAJ (happ h').2.1 hd)
      · subst h; simp only [Nat.lt_irrefl, decide_false]; exact hLj
      · simp only [show ¬ i < j by omega, decide_false]
        by_cases hLi : listed.getD i false = true
        · exact absurd hq (zAJ (happ (hbehind i hil h hLi)).2.2 hd)
        · simpa using hLi
    obtain ⟨I, loc, hs⟩ := hst
    have hsetL : ∀ i, (listed.setIfInBounds j true).getD i false = if i = j then true else listed.getD i false := fun i => by
      by_cases e : i = j
      · subst e; simp [hjs]
      · rw [if_neg e, getD_set_ne false (fun h => e h.symm)]
    have hnext : ∀ a' w', St E ((es[j]).app o (stL (fun i => listed.getD i false) 0 all es σ0)) a' w' → wpAny P .any all.toArray Q fuel (listed.setIfInBounds j true) a' w' := by
      intro a' w' ⟨I', loc', hs'⟩
      refine ih _ a' w' (by simpa using hsz) ?_ ?_ ⟨I', loc', hs'.congr ?_ (fun t => ?_) (fun q => ?_)⟩
      · intro i hi hLi e he hb
        have hLi : (listed.setIfInBounds j true).getD i false = true := hLi
        show (listed.setIfInBounds j true).getD e.on false = true
        rw [hsetL] at hLi
        rw [hsetL]
        split
        · rfl
        · by_cases e1 : i = j
          · subst e1; exact hedg' e he hb
          · rw [if_neg e1] at hLi; exact hcl i hi hLi e he hb
      · have hlt : ((List.range all.length).filter fun i => !(listed.setIfInBounds j true).getD i true).length < ((List.range all.length).filter fun i => !listed.getD i true).length := by
          have hsub : ((List.range all.length).filter fun i => !(listed.setIfInBounds j true).getD i true) = ((List.range all.length).filter fun i => !listed.getD i true).filter (fun i => decide (i ≠ j)) := by
            rw [List.filter_filter]
            apply List.filter_congr
            intro i _
            by_cases e : i = j
            · subst e; simp [hjs]
            · rw [getD_set_ne true (fun h => e h.symm)]; simp [e]
          rw [hsub]
          have hmem : j ∈ (List.range all.length).filter fun i => !listed.getD i true := List.mem_filter.2 ⟨by simpa using hjl, by rw [hj0]; rfl⟩
          refine Nat.lt_of_le_of_ne (List.length_filter_le _ _) (fun e => ?_)
          have := (List.length_filter_eq_length_iff.1 e) j hmem
          simp at this
        omega
      · rw [zAw, X9, X9]
      · rw [M3]
        by_cases hd : o.dst = some t
        · rw [if_pos hd]
          refine zC8 0 all es σ0 hjl hje hlen (by rw [hoe]; exact hd) (by rw [Nat.zero_add, hsetL, if_pos rfl]) (fun i hi hji hdi => ?_)
          rw [Nat.zero_add, hsetL, if_neg (by omega)]
          by_cases hLi : listed.getD i false = true
          · have hap := Oper.apart_spec (happ (hbehind i hi hji hLi)).1
            exact absurd hdi (hap.2.1 t (by rw [hoe]; exact hd))
          · simpa using hLi
        · rw [if_neg hd]
          refine I6 0 all es σ0 σ0 rfl (fun i hi hdi => ?_)
          rw [Nat.zero_add, hsetL, if_neg]
          intro e; subst e; rw [hoe] at hdi; exact hd hdi
      · rw [M4]
        by_cases hq : q ∈ (es[j]).wr.map (·.1)
        · refine (zC9 0 all es σ0 (stL (fun i => listed.getD i false) 0 all es σ0) hje hlen hq (by rw [Nat.zero_add, hsetL, if_pos rfl]) (fun i hi hji hdi => ?_))
          rw [Nat.zero_add, hsetL, if_neg (by omega)]
          by_cases hLi : listed.getD i false = true
          · exact absurd (List.mem_append.2 (.inr hdi)) (zAJ (happ (hbehind i (by omega) hji hLi)).2.1 hq)
          · simpa using hLi
        · rw [zAp _ _ _ hq]
          refine I7 0 all es σ0 σ0 rfl (fun i hi hdi => ?_)
          rw [Nat.zero_add, hsetL, if_neg]
          intro e; subst e; exact hq hdi
    unfold wpOp
    rw [ho]
    simp only
    have hguard : p7 all (stL (fun i => listed.getD i false) 0 all es σ0) o ((es[j]).want = true) ((es[j]).want = false) := by
      have hg := hfj.guard
      rw [hoe] at hg
      unfold p7
      cases hgo : o.guard with
      | none => rw [hgo] at hg; exact hg
      | some jw =>
        obtain ⟨j', want⟩ := jw
        rw [hgo] at hg
        obtain ⟨d, h1, h2⟩ := hg
        simp only [h1]
        have hlk : d ∈ (all[j]).looksAt all.toArray := by
          rw [hoe]
          exact zGR hgo (by simpa using h1)
        rw [hreadT d hlk]
        rcases h2 with ⟨b, h2, h3⟩ | ⟨h2, h3⟩
        · rw [h2]; simp only
          exact ⟨fun e => by rw [h3, e]; simp, fun e => by rw [h3, e]; cases want <;> rfl⟩
        · rw [h2]; exact h3
    rcases T3 hs hguard with ⟨hw, hwant⟩ | ⟨hw, hwant⟩
    · rw [if_pos hw]
      refine .inl (L3 (nx := (es[j]).nx) (K := fun v rd wr => v = (es[j]).v ∧ wr = (es[j]).wr) hs ?_ (fun d hd => ?_) ?_)
      · have := hfj.run hwant (stL (fun i => listed.getD i false) 0 all es σ0).ev (stL (fun i => listed.getD i false) 0 all es σ0).obj (fun v rd wr => v = (es[j]).v ∧ wr = (es[j]).wr) (fun x hx => ?_) hreadO ⟨rfl, rfl⟩
        · rw [hoe] at this; exact this
        · cases x with
          | tmp t => exact hreadT t (zGS hx)
          | _ => rfl
      · rw [X9]; have := hfj.dst d (by rw [hoe]; exact hd); rw [X9] at this; exact this
      · rintro v rd wr a' w' ⟨rfl, rfl⟩ hst
        exact hnext a' w' hst
    · rw [hw, if_neg (by simp)]
      obtain ⟨hv, _, hwr⟩ := hfj.skip hwant
      refine hnext _ _ ⟨I, loc, ?_⟩
      unfold Evt.app
      rw [hv, hwr]
      exact hs.putD Y5 (fun d hd => by rw [X9]; have := hfj.dst d (by rw [hoe]; exact hd); rw [X9] at this; exact this)
end
end Go.Abs

namespace Go.Abs
open Go
def I8 (P : Program) (t : TypeId) : Bool := match P.underlying t with
 | some (.struct fs) => fs.all (fun f => (sizeT P f.type).isSome)
 | _ => false
def baC (z : Value) (sz : Nat) (ps : List (Nat × AV)) (K : Cont) : Prop := z.cells.all (·.oneCell') = true ∧ (∀ p, p ∈ ps → p.2.sized = true) ∧ (match V4 sz (z.cells.toList.map .raw) ps with
 | some cs => K (.agg cs) [] []
 | none => False)
theorem buildA_array {P : Program} {t n e : TypeId} {z : Value} {sz : Nat} (h : P.underlying t = some (.array n e)) (hz : zeroT P t = some z) (hs : sizeT P e = some sz) (ps : List (Nat × AV)) (K : Cont) : buildA P t ps K = baC z sz ps K := by
 unfold buildA baC
 simp only [h, hz, hs]
 rfl
theorem zEI {P : Program} {t : TypeId} (h : I8 P t = true) (ps : List (Nat × AV)) (K : Cont) : buildA P t ps K = (match zeroT P t with
  | some z => z.cells.all (·.oneCell') = true ∧ (∀ p, p ∈ ps → p.2.sized = true) ∧ (match V3 P t (z.cells.toList.map .raw) ps with
   | some cs => K (.agg cs) [] []
   | none => False)
  | none => False) := by
 unfold I8 at h
 unfold buildA
 split at h
 ·rename_i fs hf
  simp only [hf]
  have h' : ∀ f, f ∈ fs → (sizeT P f.type).isSome = true := fun f hf' => by
   obtain ⟨i, hi, rfl⟩ := Array.mem_iff_getElem.1 hf'
   exact (Array.all_eq_true.1 h) i hi
  cases zeroT P t with
  | none => rfl
  | some z =>
   simp only [eq_iff_iff]
   constructor
   ·rintro ⟨h1, h2, h3, h4⟩; exact ⟨h1, h3, h4⟩
   ·rintro ⟨h1, h3, h4⟩; exact ⟨h1, h', h3, h4⟩
 ·cases h
def zNU (E : Env) (Q : Exit → AS → Prop) : Exit → Act → World → Prop := fun e a w => ∃ σ, Q e σ ∧ St E σ a w
def Hold (P : Program) (E : Env) (c : Code) (Q : Exit → AS → Prop) (σ : AS) : Prop := ∀ a w, St E σ a w → c.wp P (zNU E Q) a w
def q6 (next : AS → Prop) (Q : Exit → AS → Prop) : Exit → AS → Prop
 | .normal, σ => next σ
 | e, σ => Q e σ
def z8 (id : Nat) (Q : Exit → AS → Prop) : Exit → AS → Prop
 | .exit j, σ => if j = id then Q .normal σ else Q (.exit j) σ
 | e, σ => Q e σ
section
variable {P : Program} {E : Env} {Q : Exit → AS → Prop} {σ : AS}
theorem Hold.mono {c : Code} {Q' : Exit → AS → Prop} (h : Hold P E c Q σ) (hq : ∀ e σ, Q e σ → Q' e σ) : Hold P E c Q' σ :=
 fun a w hs => wp_mono (h a w hs) (fun e _ _ ⟨σ', h1, h2⟩ => ⟨σ', hq e σ' h1, h2⟩)
theorem zFw {x y : Code} (h : Hold P E x (q6 (Hold P E y Q) Q) σ) : Hold P E (.seq x y) Q σ := fun a w hs =>
 wp_seq (wp_mono (h a w hs) (fun e a w ⟨σ', h1, h2⟩ => by
  cases e with
  | normal => exact h1 a w h2
  | _ => exact ⟨σ', h1, h2⟩))
theorem zFx (h : Q .normal σ) : Hold P E .skip Q σ := fun _ _ hs => wp_skip ⟨σ, h, hs⟩
theorem zFr {l : Nat} (h : Q .normal σ) : Hold P E (.label l) Q σ := fun _ _ hs => wp_label ⟨σ, h, hs⟩
theorem zFq {id : Nat} (h : Q (.exit id) σ) : Hold P E (.exit id) Q σ := fun _ _ hs => wp_exit ⟨σ, h, hs⟩
theorem zFv (h : Q .ret σ) : Hold P E .ret Q σ := fun _ _ hs => wp_ret ⟨σ, h, hs⟩
theorem zFn {id : Nat} {c : Code} (h : Hold P E c (z8 id Q) σ) : Hold P E (.block id c) Q σ := fun a w hs =>
 wp_block (wp_mono (h a w hs) (fun e a w ⟨σ', h1, h2⟩ => by
  cases e with
  | exit j =>
   simp only [z8] at h1
   simp only [Exit.inBlock]
   split
   ·rename_i hj; rw [if_pos hj] at h1; exact ⟨σ', h1, h2⟩
   ·rename_i hj; rw [if_neg hj] at h1; exact ⟨σ', h1, h2⟩
  | _ => exact ⟨σ', h1, h2⟩))
theorem zFo {c : Operand} {x y : Code} {b : Bool} (hc : σ.ev c = .raw (.bool b)) (ht : b = true → Hold P E x Q σ) (hf : b = false → Hold P E y Q σ) : Hold P E (.cond c x y) Q σ := fun a w hs => by
 obtain ⟨I, loc, hs'⟩ := hs
 have hv := hs'.ev c
 rw [hc] at hv
 exact wp_cond_split hv.raw_eq (fun e => ht e a w ⟨I, loc, hs'⟩) (fun e => hf e a w ⟨I, loc, hs'⟩)
theorem zFu {id : Nat} {ops : List Oper} (h : y4 P ops (fun σ' _ => Q .normal σ') ops σ []) : Hold P E (.region id ops.toArray false) Q σ := fun a w hs =>
 wp_region_list (zAO (fun σ' _ a' w' h1 h2 => ⟨σ', h1, h2⟩) ops σ [] a w h hs)
theorem zFp {id : Nat} {ops : List Oper} (hm : P.follows .mixedOrders = true) (he : L2 ops = true) (h : y4 P ops (fun σ' ts => T6 ops ts = true ∧ Q .normal σ') ops σ []) : Hold P E (.region id ops.toArray true) Q σ := fun a w hs => by
  obtain ⟨es, σ', hc, hi, hq⟩ := C0 ops σ [] h
  refine wp_region_any hm ?_
  have hcl : I9 ops (fun i => (Array.replicate ops.toArray.size false).getD i false) := fun i _ hL => by
    exfalso
    have h2 : (Array.replicate ops.toArray.size false).getD i false = true := hL
    by_cases hi : i < ops.length <;> simp [hi] at h2
  have hst : St E (stL (fun i => (Array.replicate ops.toArray.size false).getD i false) 0 ops es σ) a { w with drawn := w.drawn + 1 } := by
    obtain ⟨I, loc, hs⟩ := hs
    have hs2 := hs.heap (w' := { w with drawn := w.drawn + 1 }) rfl rfl rfl rfl
    have hno : ∀ (k : Nat) (l : List Oper) (es : List Evt) (τ : AS), stL (fun i => (Array.replicate ops.toArray.size false).getD i false) k l es τ = τ := fun k l => by
      induction l generalizing k with
      | nil => exact fun es τ => by cases es <;> rfl
      | cons o l ih => exact fun es τ => by
                         cases es with
                         | nil => rfl
                         | cons e es =>
                           simp only [stL]
                           rw [if_neg]
                           · exact ih _ _ _
                           · by_cases hk : k < ops.length <;> simp [hk]
    rw [hno]; exact ⟨I, loc, hs2⟩
  have := zEq (by simpa using hi) he hc (Q := zNU E Q) (fun a w h => ⟨σ', hq, h⟩) ops.length (Array.replicate ops.toArray.size false) a { w with drawn := w.drawn + 1 } (by simp) hcl (Nat.le_trans (List.length_filter_le _ _) (by simp)) hst
  simpa using this
end
def zNc (m : List (Option Nat)) : Nat → Option (Option Nat) := fun k => m[k]?
mutual
def XpF (H : Nat → AObj) (m : List (Option Nat)) (ex : List Nat) : AV → AV → Prop
 | .any, _ => True
 | .ptr k off, .ptr o off' => m[k]? = some (some o) ∧ off = off'
 | .eptr k sz i off, .eptr o sz' i' off' => m[k]? = some (some o) ∧ sz = sz' ∧ i = i' ∧ off = off'
 | .own k sz off len, .own o sz' off' len' => m[k]? = some (some o) ∧ sz = sz' ∧ off = off' ∧ len = len'
 | .own k _ off len, .raw v => m[k]? = some none ∧ off = 0 ∧ len = 0 ∧ v = .slice none 0 0
 | .mp k, .mp o => m[k]? = some (some o)
 | .yld k, .yld o => m[k]? = some (some o)
 | .raw v, .raw v' => v = v'
 | .list xs, .list ys => xs = ys
 | .list xs, .own o sz off len => o ∈ ex ∧ (match H o with
  | .row sz' zs => sz' = sz ∧ off + len ≤ zs.length ∧ xs = (zs.drop off).take len
  | .box cs => sz = 1 ∧ off = 0 ∧ len = cs.length ∧ (∀ x, x ∈ xs → Z9 x = true) ∧ (xs = cs ∨ XpL H m ex xs cs)
  | _ => False)
 | .fmap ks xs, .fmap ks' xs' => ks = ks' ∧ xs = xs'
 | .fmap ks xs, .mp o => o ∈ ex ∧ (match H o with
  | .mapo ks' xs' => MPerm ks xs ks' xs'
  | _ => False)
 | .fmap ks xs, .raw v => ks = [] ∧ xs = [] ∧ v = .map none
 | .list xs, .raw v => xs = [] ∧ v = .slice none 0 0
 | .elt x, .elt y => x = y
 | .agg cs, .agg ds => XpL H m ex cs ds
 | .tup cs, .tup ds => XpL H m ex cs ds
 | .fn f cs, .fn g ds => f = g ∧ XpL H m ex cs ds
 | _, _ => False
def XpL (H : Nat → AObj) (m : List (Option Nat)) (ex : List Nat) : List AV → List AV → Prop
 | [], [] => True
 | x :: xs, y :: ys => XpF H m ex x y ∧ XpL H m ex xs ys
 | _, _ => False
end
mutual
theorem XpF.sound {H : Nat → AObj} {m : List (Option Nat)} {ex : List Nat} : ∀ {x y : AV}, XpF H m ex x y → Xp H (zNc m) (· ∈ ex) x y
 | .any, y, _ => .any y
 | .ptr k off, .ptr o off', h => by simp only [XpF] at h; obtain ⟨h1, rfl⟩ := h; exact .ptr _ _ _ h1
 | .eptr k sz i off, .eptr o sz' i' off', h => by simp only [XpF] at h; obtain ⟨h1, rfl, rfl, rfl⟩ := h; exact .eptr _ _ _ _ _ h1
 | .own k sz off len, .own o sz' off' len', h => by simp only [XpF] at h; obtain ⟨h1, rfl, rfl, rfl⟩ := h; exact .own _ _ _ _ _ h1
 | .own k sz off len, .raw v, h => by simp only [XpF] at h; obtain ⟨h1, rfl, rfl, rfl⟩ := h; exact .nil _ _ h1
 | .mp k, .mp o, h => by simp only [XpF] at h; exact .mp _ _ h
 | .yld k, .yld o, h => by simp only [XpF] at h; exact .yld _ _ h
 | .raw v, .raw v', h => by simp only [XpF] at h; subst h; exact .same _ (.raw _)
 | .list xs, .list ys, h => by simp only [XpF] at h; subst h; exact .same _ (.list _)
 | .list xs, .own o sz off len, h => by
  simp only [XpF] at h
  obtain ⟨h1, h⟩ := h
  generalize hA : H o = A at h
  cases A with
  | row sz' zs => obtain ⟨rfl, h3, rfl⟩ := h; exact .froz _ _ _ _ _ hA h1 h3
  | box cs =>
   obtain ⟨rfl, rfl, rfl, hf, h⟩ := h
   rcases h with rfl | h
   ·exact .frozb o 0 _ xs xs hA h1 (by omega) rfl rfl (fun x hx => L6 (hf x hx)) (fun i hi hi' => .same _ (L6 (hf _ (List.getElem_mem hi))).1)
   ·obtain ⟨h3, h4⟩ := XpL.sound h
    exact .frozb o 0 _ cs xs hA h1 (by omega) rfl h3 (fun x hx => L6 (hf x hx)) h4
  | _ => exact h.elim
 | .fmap ks xs, .fmap ks' xs', h => by simp only [XpF] at h; obtain ⟨rfl, rfl⟩ := h; exact .same _ (.fmap _ _)
 | .fmap ks xs, .mp o, h => by
  simp only [XpF] at h
  obtain ⟨h1, h⟩ := h
  generalize hA : H o = A at h
  cases A with
  | mapo ks' xs' => exact .frozm o _ _ _ _ hA h1 h
  | _ => exact h.elim
 | .fmap ks xs, .raw v, h => by simp only [XpF] at h; obtain ⟨rfl, rfl, rfl⟩ := h; exact .nmapl
 | .list xs, .raw v, h => by simp only [XpF] at h; obtain ⟨rfl, rfl⟩ := h; exact .nill
 | .elt x, .elt y, h => by simp only [XpF] at h; subst h; exact .same _ (.elt _)
 | .agg cs, .agg ds, h => by simp only [XpF] at h; obtain ⟨h1, h2⟩ := XpL.sound h; exact .agg _ _ h1 h2
 | .tup cs, .tup ds, h => by simp only [XpF] at h; obtain ⟨h1, h2⟩ := XpL.sound h; exact .tup _ _ h1 h2
 | .fn f cs, .fn g ds, h => by simp only [XpF] at h; obtain ⟨rfl, h⟩ := h; obtain ⟨h1, h2⟩ := XpL.sound h; exact .fn _ _ _ h1 h2
theorem XpL.sound {H : Nat → AObj} {m : List (Option Nat)} {ex : List Nat} : ∀ {xs ys : List AV}, XpL H m ex xs ys → xs.length = ys.length ∧ ∀ i (h : i < xs.length) (h' : i < ys.length), Xp H (zNc m) (· ∈ ex) xs[i] ys[i]
 | [], [], _ => ⟨rfl, fun i h => by simp at h⟩
 | x :: xs, y :: ys, h => by
  simp only [XpL] at h
  obtain ⟨h1, h2⟩ := h
  obtain ⟨h3, h4⟩ := XpL.sound h2
  refine ⟨by simp [h3], fun i hi hi' => ?_⟩
  cases i with
  | zero => exact XpF.sound h1
  | succ i => simp only [List.getElem_cons_succ]; exact h4 i _ _
end
theorem XpL.all2 {H : Nat → AObj} {m : List (Option Nat)} {ex : List Nat} : ∀ {xs ys : List AV}, XpL H m ex xs ys → All2 (Xp H (zNc m) (· ∈ ex)) xs ys
 | [], [], _ => .nil
 | x :: xs, y :: ys, h => by
  simp only [XpL] at h
  exact .cons (XpF.sound h.1) (XpL.all2 h.2)
theorem XpF.refl {H : Nat → AObj} {m : List (Option Nat)} {ex : List Nat} : ∀ {x : AV}, Pure x → XpF H m ex x x := by
 intro x h
 induction h with
 | any => simp only [XpF]
 | raw v => simp only [XpF]
 | list xs => simp only [XpF]
 | elt x => simp only [XpF]
 | fmap ks xs => simp [XpF]
 | agg cs _ ih =>
  simp only [XpF]
  have : ∀ l : List AV, (∀ c, c ∈ l → XpF H m ex c c) → XpL H m ex l l := fun l => by
   induction l with
   | nil => exact fun _ => by simp only [XpL]
   | cons c l ihl => exact fun h => by simp only [XpL]; exact ⟨h c (by simp), ihl (fun d hd => h d (by simp [hd]))⟩
  exact this cs ih
def envG (H : Nat → AObj) (m : List (Option Nat)) (ex : List Nat) (env' : List (Nat × AV)) : List (Nat × AV) → Prop
 | [] => True
 | (t, x) :: r => XpF H m ex x (lkV env' t) ∧ envG H m ex env' r
theorem envG.sound {H : Nat → AObj} {m : List (Option Nat)} {ex : List Nat} {env' : List (Nat × AV)} : ∀ {env : List (Nat × AV)}, envG H m ex env' env → ∀ t, Xp H (zNc m) (· ∈ ex) (lkV env t) (lkV env' t)
 | [], _, t => .any _
 | (k, x) :: r, h, t => by
  simp only [lkV]
  split
  ·rename_i e; subst e; exact XpF.sound h.1
  ·exact envG.sound h.2 t
def OXpF (H : Nat → AObj) (m : List (Option Nat)) (ex : List Nat) : AObj → AObj → Prop
 | .dead, _ => True
 | .box cs, .box ds => XpL H m ex cs ds
 | .row s xs, .row s' ys => s = s' ∧ xs = ys
 | .mapo ks xs, .mapo ks' xs' => ks = ks' ∧ xs = xs'
 | .iter c ks xs, .iter c' ks' xs' => c = c' ∧ ks = ks' ∧ xs = xs'
 | .siter s p, .siter s' p' => s = s' ∧ p = p'
 | .loopo L env p, .loopo L' env' p' => L = L' ∧ p = p' ∧ envG H m ex env' env
 | _, _ => False
theorem OXpF.sound {H : Nat → AObj} {m : List (Option Nat)} {ex : List Nat} {A B : AObj} (h : OXpF H m ex A B) : OXp H (zNc m) (· ∈ ex) A B := by
 cases A <;> cases B <;> first | exact h | exact h.elim | exact XpL.sound h | exact ⟨h.1, h.2.1, h.2.2.sound⟩
def envF (σ : AS) (m : List (Option Nat)) (ex : List Nat) : List (Nat × AV) → Prop
 | [] => True
 | (t, x) :: r => XpF σ.obj m ex x (σ.get t) ∧ envF σ m ex r
def objsF (σ : AS) (m : List (Option Nat)) (ex : List Nat) : List AObj → List (Option Nat) → Prop
 | [], [] => True
 | A :: r, some o :: r' => OXpF σ.obj m ex A (σ.obj o) ∧ objsF σ m ex r r'
 | A :: r, none :: r' => ((∃ s, 0 < s ∧ A = .row s []) ∨ A = .box []) ∧ objsF σ m ex r r'
 | _, _ => False
theorem envF.sound {σ : AS} {m : List (Option Nat)} {ex : List Nat} : ∀ {env : List (Nat × AV)}, envF σ m ex env → ∀ t, Xp σ.obj (zNc m) (· ∈ ex) (lkV env t) (σ.get t)
 | [], _, t => .any _
 | (k, x) :: r, h, t => by
  simp only [lkV]
  split
  ·rename_i e; subst e; exact XpF.sound h.1
  ·exact envF.sound h.2 t
theorem objsF.sound {σ : AS} {m0 : List (Option Nat)} {ex : List Nat} : ∀ {As : List AObj} {m : List (Option Nat)}, objsF σ m0 ex As m → As.length = m.length ∧ ∀ k (h : k < As.length) (h' : k < m.length), match m[k] with
  | none => (∃ s, 0 < s ∧ As[k] = .row s []) ∨ As[k] = .box []
  | some o => OXp σ.obj (zNc m0) (· ∈ ex) As[k] (σ.obj o)
 | [], [], _ => ⟨rfl, fun k h => by simp at h⟩
 | A :: r, some o :: r', h => by
  obtain ⟨h1, h2⟩ := objsF.sound h.2
  refine ⟨by simp [h1], fun k hk hk' => ?_⟩
  cases k with
  | zero => exact OXpF.sound h.1
  | succ k => simp only [List.getElem_cons_succ]; exact h2 k _ _
 | A :: r, none :: r', h => by
  obtain ⟨h1, h2⟩ := objsF.sound h.2
  refine ⟨by simp [h1], fun k hk hk' => ?_⟩
  cases k with
  | zero => exact h.1
  | succ k => simp only [List.getElem_cons_succ]; exact h2 k _ _
def Y2 : List (Option Nat) → Bool
 | [] => true
 | none :: r => Y2 r
 | some o :: r => !r.contains (some o) && Y2 r
theorem zCU : ∀ {m : List (Option Nat)}, Y2 m = true → ∀ (k k' o : Nat), m[k]? = some (some o) → m[k']? = some (some o) → k = k'
 | [], _, k, k', o, h, _ => by simp at h
 | x :: r, hb, k, k', o, h, h' => by
  have hr : Y2 r = true := by cases x <;> simp_all [Y2]
  have hno : x = some o → (some o) ∉ r := fun e => by subst e; simp [Y2] at hb; exact hb.1
  cases k with
  | zero =>
   cases k' with
   | zero => rfl
   | succ k' => simp at h h'; exact absurd (List.mem_of_getElem? h') (hno h)
  | succ k =>
   cases k' with
   | zero => simp at h h'; exact absurd (List.mem_of_getElem? h) (hno h')
   | succ k' => simp at h h'; rw [zCU hr k k' o h h']
def V7 : List AObj → List (Option Nat) → List (Option Nat)
 | A :: r, x :: m => (if A.live = true then x else none) :: V7 r m
 | _, m => m
theorem A8 : ∀ {As : List AObj} {m : List (Option Nat)} {k o : Nat} (h : k < As.length), (As[k]).live = true → m[k]? = some (some o) → (V7 As m)[k]? = some (some o)
 | A :: r, [], k, o, h, hl, e => by simp at e
 | A :: r, x :: m, 0, o, h, hl, e => by
  simp only [List.getElem_cons_zero] at hl
  simp only [V7, hl, if_true]; simpa using e
 | A :: r, x :: m, k + 1, o, h, hl, e => by
  simp only [List.getElem_cons_succ] at hl
  simp only [V7, List.getElem?_cons_succ] at e ⊢
  exact A8 (by simpa using h) hl e
def Weak (n : Nat) (m : List (Option Nat)) (ex : List Nat) (σ : AS) (N : Nat) (env : List (Nat × AV)) (As : List AObj) : Prop :=
 N = σ.n ∧ envF σ m ex env ∧ objsF σ m ex As m ∧ Y2 (V7 As m) = true ∧ ex.all (fun o => !m.contains (some o)) = true ∧ (List.range n).all (fun k => m[k]? == some (some k)) = true
theorem Weak.wk {n : Nat} {m : List (Option Nat)} {ex : List Nat} {σ : AS} {N : Nat} {env : List (Nat × AV)} {As : List AObj} (h : Weak n m ex σ N env As) :
  WK (zNc m) (· ∈ ex) σ ⟨N, env, zNL 0 As⟩ ∧ ∀ k, k < n → zNc m k = some (some k) := by
 obtain ⟨h0, h1, h2, h3, h4, h5⟩ := h
 obtain ⟨g1, g2⟩ := h2.sound
 have hob : ∀ k, (⟨N, env, zNL 0 As⟩ : AS).obj k = As.getD k .unb := fun k => by
  show lkO (zNL 0 As) k = _
  rw [A9]; simp
 have hlv : ∀ k, ((⟨N, env, zNL 0 As⟩ : AS).obj k).live = true → ∃ h : k < As.length, (As[k]).live = true := fun k hk => by
  rw [hob] at hk
  rcases Nat.lt_or_ge k As.length with h | h
  ·exact ⟨h, by rwa [w5 h] at hk⟩
  ·rw [List.getD, List.getElem?_eq_none h] at hk; simp [AObj.live] at hk
 refine ⟨⟨fun o k ho e => ?_, fun t => h1.sound t, fun k => ?_, fun k k' o hl hl' e e' => ?_⟩, fun k hk => ?_⟩
 case refine_3 =>
  obtain ⟨q1, q2⟩ := hlv k hl
  obtain ⟨q1', q2'⟩ := hlv k' hl'
  exact zCU h3 k k' o (A8 q1 q2 e) (A8 q1' q2' e')
 ·rw [List.all_eq_true] at h4
  have := h4 o ho
  have hm : some o ∈ m := List.mem_of_getElem? e
  simp at this; exact (this hm).elim
 ·rw [hob]
  unfold zNc
  by_cases hk : k < m.length
  ·have hk' : k < As.length := by omega
   have := g2 k hk' hk
   rw [List.getElem?_eq_getElem hk, w5 hk']
   cases hmk : m[k] with
   | none => rw [hmk] at this; exact .inr this
   | some o => rw [hmk] at this; exact this
  ·rw [List.getElem?_eq_none (by omega)]
   left
   rw [List.getD, List.getElem?_eq_none (by omega)]; rfl
 ·rw [List.all_eq_true] at h5
  have := h5 k (by simpa using hk)
  unfold zNc
  simpa using this
theorem T5 {P : Program} {E : Env} {c : Code} {Q : Exit → AS → Prop} {σ : AS} (m : List (Option Nat)) (ex : List Nat) {N : Nat} {env : List (Nat × AV)} {As : List AObj} (hw : Weak E.n m ex σ N env As) (h : Hold P E c Q ⟨N, env, zNL 0 As⟩) : Hold P E c Q σ :=
 fun a w hs => h a w (hs.wk hw.wk.1 hw.1 hw.wk.2)
theorem zFs {P : Program} {E : Env} {c : Code} {Q : Exit → AS → Prop} {σ : AS} (Inv : Nat → Nat → List (Nat × AV) → List AObj → Prop) (n : Nat)
  (h0 : ∃ m ex N env As, Weak E.n m ex σ N env As ∧ Inv n N env As)
  (h : ∀ n N env As, Inv n N env As → Hold P E c (q6 (fun σ' => ∃ n', n' < n ∧ ∃ m ex N env As, Weak E.n m ex σ' N env As ∧ Inv n' N env As) Q) ⟨N, env, zNL 0 As⟩) : Hold P E (.loop c) Q σ := by
 obtain ⟨m, ex, N, env, As, hw, hi⟩ := h0
 refine T5 m ex hw ?_
 intro a w hs
 refine wp_loop_ghost (fun n a w => ∃ N env As, Inv n N env As ∧ St E ⟨N, env, zNL 0 As⟩ a w) n ⟨N, env, As, hi, hs⟩ ?_
 rintro n a w ⟨N, env, As, h1, h2⟩
 refine wp_mono (h n N env As h1 a w h2) ?_
 rintro e a w ⟨σ', h3, h4⟩
 cases e with
 | normal =>
  obtain ⟨n', h5, m', ex', N', env', As', h6, h7⟩ := h3
  exact ⟨n', h5, N', env', As', h7, h4.wk h6.wk.1 h6.1 h6.wk.2⟩
 | _ => exact ⟨σ', h3, h4⟩
def S1 (P : Program) (σ : AS) : ResultVar → AV → Prop
 | .tmp t, x => x = σ.get t
 | .cell a t, x => Q9 P t (σ.get a) σ.obj (fun v _ _ => x = v)
def J6 (P : Program) (σ : AS) : List ResultVar → List AV → Prop
 | [], [] => True
 | v :: vs, x :: xs => S1 P σ v x ∧ J6 P σ vs xs
 | _, _ => False
def f5 : List AV → AV
 | [x] => x
 | xs => .tup xs
def F3 (tmps : Array Value) : ResultVar → Sem Value
 | .tmp t => pure (tmps.getD t undef)
 | .cell b t => do loadVar t (← asAddr (tmps.getD b undef))
theorem zHB (fn : Func) (tmps : Array Value) : results fn tmps = (do let vs ← fn.results.mapM (F3 tmps); pure (if h : vs.size = 1 then vs[0] else .tuple vs)) := rfl
theorem zCg {P : Program} {E : Env} {I : Nat → Prop} {loc : Nat → Loc} {σ : AS} {a : Act} {w : World} (hs : SR E I loc σ a w) : ∀ {vs : List ResultVar} {xs : List AV}, J6 P σ vs xs →
  ∃ us : List Value, (vs.mapM (F3 a.tmps)).run P w = .ok us w ∧ xs.length = us.length ∧ ∀ i (h : i < xs.length) (h' : i < us.length), VR w I loc xs[i] us[i]
 | [], [], _ => ⟨[], by simp, rfl, fun i h => by simp at h⟩
 | v :: vs, x :: xs, h => by
  obtain ⟨us, h1, h2, h3⟩ := zCg hs h.2
  have hone : ∃ u, (F3 a.tmps v).run P w = .ok u w ∧ VR w I loc x u := by
   have h0 := h.1
   cases v with
   | tmp t => simp only [S1] at h0; subst h0; exact ⟨_, rfl, hs.tmps t⟩
   | cell b t =>
    simp only [S1] at h0
    obtain ⟨v, rd, y, hK, hr, hv⟩ := zCG (P := P) hs (hs.tmps b) h0
    subst hK
    refine ⟨y, ?_, hv⟩
    have hp : ∃ ad, a.tmps.getD b undef = .pointer (some ad) := by
     have hb := hs.tmps b
     generalize a.tmps.getD b undef = u at *
     generalize σ.get b = s at *
     unfold Q9 at h0
     cases s with
     | ptr => cases hb with
      | pure hb => cases hb
      | ptr => exact ⟨_, rfl⟩
     | eptr => cases hb with
      | pure hb => cases hb
      | eptr => exact ⟨_, rfl⟩
     | elt => cases hb with
      | pure hb => cases hb; exact ⟨_, rfl⟩
     | _ => exact h0.elim
    obtain ⟨ad, hp⟩ := hp
    rw [hp] at hr
    simp only [F3, hp]
    simpa [Instr.loadAt, Instr.sureAddr, asAddr] using hr
  obtain ⟨u, g1, g2⟩ := hone
  refine ⟨u :: us, ?_, by simp [h2], fun i hi hi' => ?_⟩
  ·rw [List.mapM_cons, Sem.run_bind, g1, Result.andThen_ok, Sem.run_bind, h1]
   rfl
  ·cases i with
   | zero => exact g2
   | succ i => simp only [List.getElem_cons_succ]; exact h3 i _ _
theorem zHC {P : Program} {E : Env} {I : Nat → Prop} {loc : Nat → Loc} {σ : AS} {a : Act} {w : World} (hs : SR E I loc σ a w) {fn : Func} {xs : List AV} (h : J6 P σ fn.results.toList xs) :
  ∃ v, (results fn a.tmps).run P w = .ok v w ∧ VR w I loc (f5 xs) v := by
 obtain ⟨us, h1, h2, h3⟩ := zCg (P := P) hs h
 have hrun : (results fn a.tmps).run P w = .ok (if h : us.toArray.size = 1 then us.toArray[0] else .tuple us.toArray) w := by
  rw [zHB, Sem.run_bind]
  have e4 : fn.results = fn.results.toList.toArray := by simp
  rw [e4, List.mapM_toArray]
  simp only [Sem.run_map, h1, Result.andThen_ok, Sem.run_pure]
 refine ⟨_, hrun, ?_⟩
 cases xs with
 | nil =>
  have : us = [] := List.eq_nil_of_length_eq_zero (by simpa using h2.symm)
  subst this
  exact .tup [] #[] rfl (fun i h => by simp at h)
 | cons x xs =>
  cases xs with
  | nil =>
   have hl : us.length = 1 := by simpa using h2.symm
   rw [dif_pos (by simpa using hl)]
   have := h3 0 (by simp) (by omega)
   simpa [f5] using this
  | cons y ys =>
   have hl : us.length ≠ 1 := by simp at h2; omega
   rw [dif_neg (by simpa using hl)]
   refine .tup _ us.toArray (by simpa using h2) (fun i hi hi' => ?_)
   simpa using h3 i hi (by simpa using hi')
def zNh : Nat → List AV → List (Nat × AV)
 | _, [] => []
 | k, x :: r => (k, x) :: zNh (k + 1) r
theorem zCE (k0 : Nat) : ∀ (xs : List AV) (k : Nat), lkV (zNh k0 xs) k = if k < k0 then .any else xs.getD (k - k0) .any
 | [], k => by simp [zNh, lkV]
 | A :: r, k => by
  simp only [zNh, lkV, zCE (k0 + 1) r k]
  by_cases h : k0 = k
  ·subst h; simp
  ·rw [if_neg h]
   by_cases h1 : k < k0
   ·rw [if_pos (by omega), if_pos h1]
   ·rw [if_neg (by omega), if_neg h1]
    have e : k - k0 = (k - (k0 + 1)) + 1 := by omega
    rw [e]; simp
def H1 (P : Program) (fn : Func) (n : Nat) (r : AV) (out : List AObj) (σ : AS) : Prop :=
 ∃ xs m ex, J6 P σ fn.results.toList xs ∧ XpF σ.obj m ex r (f5 xs) ∧ objsF σ m ex out m ∧ Y2 (V7 out m) = true ∧ ex.all (fun o => !m.contains (some o)) = true ∧ (List.range n).all (fun k => m[k]? == some (some k)) = true
theorem T4 {w : World} {r b : Nat} {o : Obj} (h : b ≠ r) : (w.putObj r o).heap[b]? = w.heap[b]? := World.putObj_heap_other h
theorem SR.shut {E : Env} {I : Nat → Prop} {loc : Nat → Loc} {σ : AS} {a : Act} {w : World} (h : SR E I loc σ a w) {d : Deferred} {ds : List Deferred} (hd : a.defers = d :: ds) :
  ∃ r, d.target = .collected r ∧ w.heap[r]? = some (.deferred (some [])) ∧ SR E I loc σ { a with defers := ds } (w.putObj r (.deferred none)) := by
 obtain ⟨hn, hm⟩ := h.defers
 rw [hd] at hn hm
 obtain ⟨r, rfl, h1, h2, h3, h4⟩ := hm d (by simp)
 have hI : ∀ b, I b → (w.putObj r (.deferred none)).heap[b]? = w.heap[b]? := fun b hb => T4 (fun e => h2 (e ▸ hb))
 refine ⟨r, rfl, h1, ⟨⟨?_, fun d' hd' => ?_⟩, h.size, fun t => (h.tmps t).mono hI (fun _ x => x) (fun _ _ => rfl), fun o => (h.objs o).mono hI (fun _ x => x) (fun _ _ => rfl) (fun e => h.un e) (fun hl b c hb => T4 (fun e => h4 o c hl (e ▸ hb))), h.inj, fun b hb => by rw [World.putObj_size]; exact h.imm b hb, h.sep, ?_, h.base, h.top, h.keep⟩⟩
 ·simp only [List.map_cons, List.nodup_cons] at hn; exact hn.2
 ·obtain ⟨r', rfl, g1, g2, g3, g4⟩ := hm d' (by simp [hd'])
  refine ⟨r', rfl, ?_, g2, g3, g4⟩
  rw [T4]
  ·exact g1
  ·rintro rfl
   simp only [List.map_cons, List.nodup_cons] at hn
   exact hn.1 (List.mem_map.2 ⟨_, hd', rfl⟩)
 ·exact h.fr.of_same rfl rfl rfl (by simp) (fun b hb _ => T4 (by omega))
theorem zB8 {P : Program} {E : Env} {fn : Func} {n : Nat} {R : Ending → World → Prop} {I : Nat → Prop} {loc : Nat → Loc} {σ : AS} (hR : ∀ a w, SR E I loc σ a w → a.defers = [] → ∃ v, (results fn a.tmps).run P w = .ok v w ∧ R (.returned v) w) :
  ∀ (ds : List Deferred) (a : Act) (w : World), SR E I loc σ a w → a.defers = ds → LeavesInM Fence.wide n P fn a.tmps R ds .returning w
 | [], a, w, h, e => hR a w h e
 | d :: ds, a, w, h, e => by
  obtain ⟨r, h1, h2, h3⟩ := h.shut e
  exact ⟨by simp, .inl ⟨r, _, h1, run_takeDeferred h2, zB8 hR ds { a with defers := ds } _ h3 rfl⟩⟩
def R2 {T : Type} (P : Program) (f : FuncId) (args : List AV) (fp : List AObj) (r : T → AV) (out : T → List AObj) : Prop :=
 ∀ (w : World) (I : Nat → Prop) (loc : Nat → Loc) (vs : Array Value), SR (e9 w I fp.length loc) I loc (hs fp) X3 w → vs.size = args.length →
  (∀ i (h : i < args.length) (h' : i < vs.size), VR w I loc args[i] vs[i]) →
  Calls P f vs w fun e w' => ∃ t v I' loc', e = .returned v ∧ Post w I loc fp.length (r t) (out t) v w' I' loc'
theorem zC6 {T : Type} {P : Program} {f : FuncId} {fn : Func} {c : Code} {args : List AV} {fp : List AObj} {r : T → AV} {out : T → List AObj} (hf : P.funcs[f]? = some fn) (hb : fn.body = some c)
  (h : ∀ E : Env, E.n = fp.length → Hold P E c (fun e σ' => (e = .normal ∨ e = .ret) ∧ ∃ t, H1 P fn fp.length (r t) (out t) σ') ⟨args.length + (fn.ntmps - args.length), zNh 0 args, zNL 0 fp⟩) : R2 P f args fp r out := by
 intro w I loc vs hs hl hv
 refine (callsIn_wide (n := 0)).1 (callsIn_of_wp_marks hf hb trivial ((wpIn_wide (n := 0)).2 ?_))
 have hst : SR (e9 w I fp.length loc) I loc ⟨args.length + (fn.ntmps - args.length), zNh 0 args, zNL 0 fp⟩ { tmps := vs ++ Array.replicate (fn.ntmps - vs.size) undef, defers := [] } w := by
  refine ⟨.nil, by simp [hl], fun t => ?_, hs.objs, hs.inj, hs.imm, hs.sep, hs.fr, hs.base, hs.top, hs.keep⟩
  show VR w I loc (lkV (zNh 0 args) t) _
  rw [zCE]
  simp only [Nat.not_lt_zero, if_false, Nat.sub_zero]
  by_cases ht : t < args.length
  ·rw [w5 ht]
   have ht' : t < vs.size := by omega
   have e : (vs ++ Array.replicate (fn.ntmps - vs.size) undef).getD t undef = vs[t] := by
    simp [Array.getElem?_append_left ht', ht']
   rw [e]; exact hv t ht ht'
  ·rw [List.getD, List.getElem?_eq_none (by omega)]; exact .pure (.any _)
 refine wp_mono (h (e9 w I fp.length loc) rfl _ w ⟨I, loc, hst⟩) ?_
 rintro e a w' ⟨σ', ⟨he, t, xs, m, ex, h1, h2, h3, h4, h5, h6⟩, I', loc', hs'⟩
 have hweak : Weak fp.length m ex σ' σ'.n [] (out t) := ⟨rfl, trivial, h3, h4, h5, h6⟩
 have hlen : fp.length ≤ (out t).length := by
  have h7 := (h3.sound).1
  rcases Nat.eq_zero_or_pos fp.length with h0 | h0
  ·omega
  ·rw [List.all_eq_true] at h6
   have := h6 (fp.length - 1) (by simp; omega)
   have hm : m[fp.length - 1]? = some (some (fp.length - 1)) := by simpa using this
   have := (List.getElem?_eq_some_iff.1 hm).1
   omega
 have key := zB8 (P := P) (E := e9 w I fp.length loc) (fn := fn) (n := 0) (R := fun e w' => ∃ t v I' loc', e = .returned v ∧ Post w I loc fp.length (r t) (out t) v w' I' loc') (I := I') (loc := loc') (σ := σ') (fun a w' hs' _ => by
  obtain ⟨v, hrun, hvr⟩ := zHC hs' h1
  have hsr := WK.sound hs' hweak.wk.1 rfl hweak.wk.2
  have hval := Xp.sound hs' (XpF.sound h2) hvr
  exact ⟨v, hrun, t, v, _, _, rfl, ⟨hsr.bare, hval, hlen⟩⟩) a.defers a w' hs' rfl
 rcases he with rfl | rfl
 ·exact key
 ·exact key
theorem zIt {P : Program} {f : FuncId} {fn : Func} {c : Code} {args : List AV} {fp : List AObj} {r : AV} {out : List AObj} (hf : P.funcs[f]? = some fn) (hb : fn.body = some c)
  (h : ∀ E : Env, E.n = fp.length → Hold P E c (fun e σ' => (e = .normal ∨ e = .ret) ∧ H1 P fn fp.length r out σ') ⟨args.length + (fn.ntmps - args.length), zNh 0 args, zNL 0 fp⟩) : zNF P f args fp r out := by
 have := zC6 (T := Unit) (args := args) (fp := fp) (r := fun _ => r) (out := fun _ => out) hf hb (fun E hE => (h E hE).mono (fun e σ ⟨h1, h2⟩ => ⟨h1, (), h2⟩))
 intro w I loc vs hs hl hv
 exact (this w I loc vs hs hl hv).mono (fun e w' ⟨_, h⟩ => h)
end Go.Abs

namespace Go.Abs
open Go
def O5 (A : AObj) (F : Nat → List AV → Prop) : Prop := match A with
 | .row s xs => F s xs
 | _ => False
def T7 (A : AObj) (F : List AV → Prop) : Prop := match A with
 | .box cs => F cs
 | _ => False
def zNs (A : AObj) (sz sz' off len : Nat) (F : List AV → Prop) : Prop := match A with
 | .row sz'' xs => sz' = sz ∧ sz'' = sz ∧ off + len ≤ xs.length ∧ F ((xs.drop off).take len)
 | .box cs => sz' = 1 ∧ sz = 1 ∧ off + len ≤ cs.length ∧ (∀ y, y ∈ (cs.drop off).take len → y.one = true) ∧ F ((cs.drop off).take len)
 | _ => False
def X4 (H : Nat → AObj) (sz : Nat) (x : AV) (F : List AV → List Nat → Prop) : Prop := match x with
 | .list ys => F ys []
 | .own o sz' off len => zNs (H o) sz sz' off len fun ys => F ys [o]
 | .raw (.slice _ 0 _) => F [] []
 | _ => False
def zNx (sz by_ : Nat) (s : AV) (ys : List AV) (rd : List Nat) (H : Nat → AObj) (nx : Nat) (K : Cont) : Prop := match s with
  | .own o sz' 0 len => O5 (H o) fun sz'' xs => sz' = sz ∧ sz'' = sz ∧ len = xs.length ∧ H nx = .unb ∧ (len + ys.length) * by_ ≤ 140737488355328 ∧ len + ys.length ≤ 9223372036854775807 ∧
      K (.own nx sz 0 (len + ys.length)) (o :: nx :: rd) [(o, .dead), (nx, .row sz (xs ++ ys))]
  | .raw (.slice none 0 0) => H nx = .unb ∧ ys.length * by_ ≤ 140737488355328 ∧ ys.length ≤ 9223372036854775807 ∧ K (.own nx sz 0 ys.length) (nx :: rd) [(nx, .row sz ys)]
  | _ => False
def zNw (by_ : Nat) (s : AV) (ys : List AV) (rd : List Nat) (H : Nat → AObj) (nx : Nat) (K : Cont) : Prop := match s with
  | .own o sz' 0 len => T7 (H o) fun cs => sz' = 1 ∧ len = cs.length ∧ H nx = .unb ∧ (len + ys.length) * by_ ≤ 140737488355328 ∧ len + ys.length ≤ 9223372036854775807 ∧
      K (.own nx 1 0 (len + ys.length)) (o :: nx :: rd) [(o, .dead), (nx, .box (cs ++ ys))]
  | .raw (.slice none 0 0) => H nx = .unb ∧ ys.length * by_ ≤ 140737488355328 ∧ ys.length ≤ 9223372036854775807 ∧ K (.own nx 1 0 ys.length) (nx :: rd) [(nx, .box ys)]
  | _ => False
def appR (sz by_ : Nat) (s x : AV) (H : Nat → AObj) (nx : Nat) (K : Cont) : Prop :=
 X4 H sz x fun ys rd => (∀ y, y ∈ ys → y.cells.length = sz ∧ y.cells.all AV.one = true) ∧ (∀ y, y ∈ ys → Pure y) ∧ zNx sz by_ s ys rd H nx K
def appC (by_ : Nat) (s x : AV) (H : Nat → AObj) (nx : Nat) (K : Cont) : Prop :=
 X4 H 1 x fun ys rd => (∀ y, y ∈ ys → y.one = true) ∧ zNw by_ s ys rd H nx K
theorem zCT {H : Nat → AObj} {sz : Nat} {x : AV} {F : List AV → List Nat → Prop} : X4 H sz x F ↔ ∃ ys rd, i8 H sz x = some (ys, rd) ∧ F ys rd := by
 unfold X4 i8
 constructor
 ·intro h
  split at h
  ·exact ⟨_, _, rfl, h⟩
  ·rename_i o sz' off len
   unfold zNs at h
   split at h
   ·rename_i s xs hA
    obtain ⟨rfl, rfl, h3, h4⟩ := h
    exact ⟨_, _, by simp only [hA]; rw [if_pos (by simp [h3])], h4⟩
   ·rename_i cs hA
    obtain ⟨rfl, rfl, h3, h4, h5⟩ := h
    exact ⟨_, _, by simp only [hA]; rw [if_pos (by simpa using ⟨h3, h4⟩)], h5⟩
   ·exact h.elim
  ·exact ⟨_, _, rfl, h⟩
  ·exact h.elim
 ·rintro ⟨ys, rd, h, hF⟩
  split at h
  ·cases h; exact hF
  ·rename_i o sz' off len
   simp only [zNs]
   generalize H o = A at h
   cases A with
   | row s xs =>
    simp only at h
    by_cases hc : sz' = sz ∧ s = sz ∧ off + len ≤ xs.length
    ·rw [if_pos hc] at h; cases h; exact ⟨hc.1, hc.2.1, hc.2.2, hF⟩
    ·rw [if_neg hc] at h; cases h
   | box cs =>
    simp only at h
    by_cases hc : sz' = 1 ∧ sz = 1 ∧ off + len ≤ cs.length ∧ ((cs.drop off).take len).all AV.one = true
    ·rw [if_pos hc] at h; cases h; exact ⟨hc.1, hc.2.1, hc.2.2.1, List.all_eq_true.1 hc.2.2.2, hF⟩
    ·rw [if_neg hc] at h; cases h
   | _ => cases h
  ·cases h; exact hF
  ·cases h
theorem appendA_row {P : Program} {t e sz by_ : Nat} {z : Value} (h1 : sliceT P t = some e) (h2 : sizeT P e = some sz) (h3 : bytesT P e = some by_) (h4 : zeroT P e = some z) (h5 : zNb z = false) (h6 : 0 < sz) (h7 : z.cells.size = sz)
    (s x : AV) (H : Nat → AObj) (nx : Nat) (K : Cont) : appendA P t s x H nx K = appR sz by_ s x H nx K := by
  have hz : ¬ zNb z = true := by rw [h5]; simp
  have hS : ∀ ys rd, zNx sz by_ s ys rd H nx K ↔ (match s with
      | .own o sz' 0 len => (match H o with
        | .row sz'' xs => sz' = sz ∧ sz'' = sz ∧ len = xs.length ∧ H nx = .unb ∧ (len + ys.length) * by_ ≤ 140737488355328 ∧ len + ys.length ≤ 9223372036854775807 ∧
            K (.own nx sz 0 (len + ys.length)) (o :: nx :: rd) [(o, .dead), (nx, .row sz (xs ++ ys))]
        | _ => False)
      | .raw (.slice none 0 0) => H nx = .unb ∧ ys.length * by_ ≤ 140737488355328 ∧ ys.length ≤ 9223372036854775807 ∧ K (.own nx sz 0 ys.length) (nx :: rd) [(nx, .row sz ys)]
      | _ => False) := fun ys rd => by
    unfold zNx
    split
    · rename_i o sz' len
      unfold O5
      generalize H o = A
      cases A <;> exact Iff.rfl
    · exact Iff.rfl
    · exact Iff.rfl
  unfold appendA appR
  rw [eq_iff_iff, zCT]
  simp only [h1, h2, h3, h4, Option.getD_some]
  cases i8 H sz x with
  | none => exact ⟨fun h => h.elim, fun ⟨_, _, h, _⟩ => by cases h⟩
  | some yr =>
    obtain ⟨ys, rd⟩ := yr
    simp only
    rw [if_neg hz]
    constructor
    · rintro ⟨_, _, g1, g2, g3⟩
      exact ⟨ys, rd, rfl, g1, g2, (hS ys rd).2 g3⟩
    · rintro ⟨ys', rd', e, g1, g2, g3⟩
      cases e
      exact ⟨h6, h7, g1, g2, (hS ys rd).1 g3⟩
theorem appendA_box {P : Program} {t e by_ : Nat} {z : Value} (h1 : sliceT P t = some e) (h2 : sizeT P e = some 1) (h3 : bytesT P e = some by_) (h4 : zeroT P e = some z) (h5 : zNb z = true) (h7 : z.cells.size = 1)
  (s x : AV) (H : Nat → AObj) (nx : Nat) (K : Cont) : appendA P t s x H nx K = appC by_ s x H nx K := by
 have one_iff : ∀ y : AV, y.one = true → y.cells.length = 1 ∧ y.cells.all AV.one = true := fun y hy => by
  have := AV.cells_of_one hy
  rw [this]; simp [hy]
 unfold appendA appC
 rw [eq_iff_iff, zCT]
 simp only [h1, h2, h3, h4, Option.getD_some]
 cases i8 H 1 x with
 | none => exact ⟨fun h => h.elim, fun ⟨_, _, h, _⟩ => by cases h⟩
 | some yr =>
  obtain ⟨ys, rd⟩ := yr
  simp only
  rw [if_pos h5]
  constructor
  ·rintro ⟨_, _, _, g3⟩
   refine ⟨ys, rd, rfl, ?_⟩
   unfold zNw
   split at g3
   ·rename_i o sz' len
    revert g3
    simp only [T7]
    generalize H o = A
    intro g3
    cases A with
    | box cs => obtain ⟨q1, q2, q3, g2, q4⟩ := g3; exact ⟨g2, q1, q3, q4⟩
    | _ => exact g3.elim
   ·exact ⟨g3.2.1, g3.2.2⟩
   ·exact g3.elim
  ·rintro ⟨ys', rd', e, g2, g3⟩
   cases e
   refine ⟨by omega, h7, fun y hy => one_iff y (g2 y hy), ?_⟩
   unfold zNw at g3
   split at g3
   ·rename_i o sz' len
    revert g3
    simp only [T7]
    generalize H o = A
    intro g3
    cases A with
    | box cs => obtain ⟨q1, q3, q4⟩ := g3; exact ⟨q1, trivial, q3, g2, q4⟩
    | _ => exact g3.elim
   ·exact ⟨trivial, g2, g3⟩
   ·exact g3.elim
section
variable {H : Nat → AObj} {sz by_ nx : Nat} {K : Cont}
@[go_sem] theorem zL2 (s : Nat) (xs : List AV) (F : Nat → List AV → Prop) : O5 (.row s xs) F = F s xs := rfl
@[go_sem] theorem zLs (cs : List AV) (F : List AV → Prop) : T7 (.box cs) F = F cs := rfl
@[go_sem] theorem zLx (ys : List AV) (F : List AV → List Nat → Prop) : X4 H sz (.list ys) F = F ys [] := rfl
@[go_sem] theorem zLy (a : Option Addr) (c : Nat) (F : List AV → List Nat → Prop) : X4 H sz (.raw (.slice a 0 c)) F = F [] [] := rfl
@[go_sem] theorem zLw (sz sz' off len sz'' : Nat) (xs : List AV) (F : List AV → Prop) : zNs (.row sz'' xs) sz sz' off len F = (sz' = sz ∧ sz'' = sz ∧ off + len ≤ xs.length ∧ F ((xs.drop off).take len)) := rfl
@[go_sem] theorem zLu (sz sz' off len : Nat) (cs : List AV) (F : List AV → Prop) : zNs (.box cs) sz sz' off len F = (sz' = 1 ∧ sz = 1 ∧ off + len ≤ cs.length ∧ (∀ y, y ∈ (cs.drop off).take len → y.one = true) ∧ F ((cs.drop off).take len)) := rfl
@[go_sem] theorem zL0 (o sz' off len : Nat) (F : List AV → List Nat → Prop) : X4 H sz (.own o sz' off len) F = zNs (H o) sz sz' off len (fun ys => F ys [o]) := rfl
@[go_sem] theorem zKB (o sz' len : Nat) (ys : List AV) (rd : List Nat) : zNx sz by_ (.own o sz' 0 len) ys rd H nx K = O5 (H o) (fun sz'' xs => sz' = sz ∧ sz'' = sz ∧ len = xs.length ∧ H nx = .unb ∧ (len + ys.length) * by_ ≤ 140737488355328 ∧ len + ys.length ≤ 9223372036854775807 ∧
      K (.own nx sz 0 (len + ys.length)) (o :: nx :: rd) [(o, .dead), (nx, .row sz (xs ++ ys))]) := rfl
@[go_sem] theorem zJ9 (ys : List AV) (rd : List Nat) : zNx sz by_ (.raw (.slice none 0 0)) ys rd H nx K = (H nx = .unb ∧ ys.length * by_ ≤ 140737488355328 ∧ ys.length ≤ 9223372036854775807 ∧ K (.own nx sz 0 ys.length) (nx :: rd) [(nx, .row sz ys)]) := rfl
@[go_sem] theorem zJ8 (o sz' len : Nat) (ys : List AV) (rd : List Nat) : zNw by_ (.own o sz' 0 len) ys rd H nx K = T7 (H o) (fun cs => sz' = 1 ∧ len = cs.length ∧ H nx = .unb ∧ (len + ys.length) * by_ ≤ 140737488355328 ∧ len + ys.length ≤ 9223372036854775807 ∧
      K (.own nx 1 0 (len + ys.length)) (o :: nx :: rd) [(o, .dead), (nx, .box (cs ++ ys))]) := rfl
@[go_sem] theorem zJ6 (ys : List AV) (rd : List Nat) : zNw by_ (.raw (.slice none 0 0)) ys rd H nx K = (H nx = .unb ∧ ys.length * by_ ≤ 140737488355328 ∧ ys.length ≤ 9223372036854775807 ∧ K (.own nx 1 0 ys.length) (nx :: rd) [(nx, .box ys)]) := rfl
@[congr] theorem zL1 {A A' : AObj} {F : Nat → List AV → Prop} (h : A = A') : O5 A F = O5 A' F := by rw [h]
@[congr] theorem zLt {A A' : AObj} {F : List AV → Prop} (h : A = A') : T7 A F = T7 A' F := by rw [h]
@[congr] theorem zLv {A A' : AObj} {sz sz' off len : Nat} {F : List AV → Prop} (h : A = A') : zNs A sz sz' off len F = zNs A' sz sz' off len F := by rw [h]
@[congr] theorem zLz {x x' : AV} {F : List AV → List Nat → Prop} (h : x = x') : X4 H sz x F = X4 H sz x' F := by rw [h]
@[congr] theorem zKA {s s' : AV} {ys ys' : List AV} {rd : List Nat} (h : s = s') (h2 : ys = ys') : zNx sz by_ s ys rd H nx K = zNx sz by_ s' ys' rd H nx K := by rw [h, h2]
@[congr] theorem zJ7 {s s' : AV} {ys ys' : List AV} {rd : List Nat} (h : s = s') (h2 : ys = ys') : zNw by_ s ys rd H nx K = zNw by_ s' ys' rd H nx K := by rw [h, h2]
end
attribute [go_sem] appR appC
def zN9 (H : Nat → AObj) (n o sz off len : Nat) (A : AObj) : AV × List Nat := match A with
 | .row sz' xs => if sz' = sz ∧ off + len ≤ xs.length then (.list ((xs.drop off).take len), [o]) else (.own o sz off len, [])
 | .box cs => if sz = 1 ∧ off = 0 ∧ len = cs.length ∧ cs.all (fun c => Z9 (zNH H n c).1) = true then (.list (cs.map fun c => (zNH H n c).1), o :: (cs.map fun c => (zNH H n c).2).flatten) else (.own o sz off len, [])
 | _ => (.own o sz off len, [])
def zOE (o : Nat) (A : AObj) : AV × List Nat := match A with
 | .mapo ks xs => (.fmap ks xs, [o])
 | _ => (.mp o, [])
section
variable {H : Nat → AObj} {n : Nat}
@[go_sem] theorem zKw (xs : List AV) : zNH H (n + 1) (.list xs) = (.list xs, []) := rfl
@[go_sem] theorem zKo : zNH H (n + 1) .any = (.any, []) := rfl
@[go_sem] theorem zKs (ks : List Value) (xs : List AV) : zNH H (n + 1) (.fmap ks xs) = (.fmap ks xs, []) := rfl
@[go_sem] theorem zKq (x : AV) : zNH H (n + 1) (.elt x) = (.elt x, []) := rfl
@[go_sem] theorem zK3 (o off : Nat) : zNH H (n + 1) (.ptr o off) = (.ptr o off, []) := rfl
@[go_sem] theorem zKr (o sz i off : Nat) : zNH H (n + 1) (.eptr o sz i off) = (.eptr o sz i off, []) := rfl
@[go_sem] theorem zKt (f : FuncId) (cs : List AV) : zNH H (n + 1) (.fn f cs) = (.fn f cs, []) := rfl
@[go_sem] theorem zKv (k : IntKind) (i : Int) : zNH H (n + 1) (.raw (.int k i)) = (.raw (.int k i), []) := rfl
@[go_sem] theorem zKp (b : Bool) : zNH H (n + 1) (.raw (.bool b)) = (.raw (.bool b), []) := rfl
@[go_sem] theorem zK4 (s : ByteArray) : zNH H (n + 1) (.raw (.string s)) = (.raw (.string s), []) := rfl
@[go_sem] theorem zKy : zNH H (n + 1) (.raw (.slice none 0 0)) = (.list [], []) := rfl
@[go_sem] theorem zKz (a : Option Nat) : zNH H (n + 1) (.raw (.map a)) = (.raw (.map a), []) := rfl
@[go_sem] theorem zK0 (a : Option Addr) : zNH H (n + 1) (.raw (.pointer a)) = (.raw (.pointer a), []) := rfl
@[go_sem] theorem zKn (cs : List AV) : zNH H (n + 1) (.agg cs) = (.agg (cs.map fun c => (zNH H n c).1), (cs.map fun c => (zNH H n c).2).flatten) := rfl
@[go_sem] theorem zK2 (o sz off len : Nat) : zNH H (n + 1) (.own o sz off len) = zN9 H n o sz off len (H o) := rfl
@[go_sem] theorem zKx (o : Nat) : zNH H (n + 1) (.mp o) = zOE o (H o) := rfl
@[go_sem] theorem zKm (o sz off len sz' : Nat) (xs : List AV) : zN9 H n o sz off len (.row sz' xs) = if sz' = sz ∧ off + len ≤ xs.length then (.list ((xs.drop off).take len), [o]) else (.own o sz off len, []) := rfl
@[go_sem] theorem zKk (o sz off len : Nat) (cs : List AV) : zN9 H n o sz off len (.box cs) = if sz = 1 ∧ off = 0 ∧ len = cs.length ∧ cs.all (fun c => Z9 (zNH H n c).1) = true then (.list (cs.map fun c => (zNH H n c).1), o :: (cs.map fun c => (zNH H n c).2).flatten) else (.own o sz off len, []) := rfl
@[go_sem] theorem zKi (o : Nat) (ks : List Value) (xs : List AV) : zOE o (.mapo ks xs) = (.fmap ks xs, [o]) := rfl
@[congr] theorem zKl {o sz off len : Nat} {A A' : AObj} (h : A = A') : zN9 H n o sz off len A = zN9 H n o sz off len A' := by rw [h]
@[congr] theorem zKj {o : Nat} {A A' : AObj} (h : A = A') : zOE o A = zOE o A' := by rw [h]
@[congr] theorem zK1 {x x' : AV} (h : x = x') : zNH H n x = zNH H n x' := by rw [h]
end
def bsR (sz n : Nat) (ps : List (Nat × AV)) (H : Nat → AObj) (nx : Nat) (K : Cont) : Prop :=
 n * sz ≤ 16777216 ∧ ps.map (·.1) = List.range n ∧ H nx = .unb ∧ (∀ p, p ∈ ps → Pure (zNH H 3 p.2).1 ∧ (zNH H 3 p.2).1.sized = true ∧ (zNH H 3 p.2).1.cells.length = sz) ∧
  K (.own nx sz 0 n) ((ps.map fun p => (zNH H 3 p.2).2).flatten ++ [nx]) (u6 (ps.map fun p => (zNH H 3 p.2).2).flatten ++ [(nx, .row sz (ps.map fun p => (zNH H 3 p.2).1))])
def bsC (n : Nat) (ps : List (Nat × AV)) (H : Nat → AObj) (nx : Nat) (K : Cont) : Prop :=
 n ≤ 16777216 ∧ ps.map (·.1) = List.range n ∧ H nx = .unb ∧ (∀ p, p ∈ ps → p.2.one = true) ∧ K (.own nx 1 0 n) [nx] [(nx, .box (ps.map (·.2)))]
theorem buildSliceA_row {P : Program} {t e sz : Nat} {z : Value} (h1 : sliceT P t = some e) (h2 : sizeT P e = some sz) (h4 : zeroT P e = some z) (h5 : zNb z = false) (h6 : 0 < sz) (h7 : z.cells.size = sz)
  (n : Nat) (ps : List (Nat × AV)) (H : Nat → AObj) (nx : Nat) (K : Cont) : buildSliceA P t n ps H nx K = bsR sz n ps H nx K := by
 have hz : ¬ zNb z = true := by rw [h5]; simp
 unfold buildSliceA bsR
 simp only [h1, h2, h4, eq_iff_iff]
 rw [if_neg hz]
 exact ⟨fun ⟨_, g1, _, g2, g3, g4⟩ => ⟨g1, g2, g3, g4⟩, fun ⟨g1, g2, g3, g4⟩ => ⟨h6, g1, h7, g2, g3, g4⟩⟩
theorem buildSliceA_box {P : Program} {t e : Nat} {z : Value} (h1 : sliceT P t = some e) (h2 : sizeT P e = some 1) (h4 : zeroT P e = some z) (h5 : zNb z = true) (h7 : z.cells.size = 1)
  (n : Nat) (ps : List (Nat × AV)) (H : Nat → AObj) (nx : Nat) (K : Cont) : buildSliceA P t n ps H nx K = bsC n ps H nx K := by
 unfold buildSliceA bsC
 simp only [h1, h2, h4, eq_iff_iff]
 rw [if_pos h5]
 constructor
 ·rintro ⟨_, g1, _, g2, g3, _, g4⟩; exact ⟨by omega, g2, g3, g4⟩
 ·rintro ⟨g1, g2, g3, g4⟩; exact ⟨by omega, by omega, h7, g2, g3, trivial, g4⟩
attribute [go_sem] bsR bsC
end Go.Abs

namespace Go.Abs
open Go
attribute [go_sem] ltN zNT O8 R3 zOC Q9 U1 zN4 zNy zOO zN7 H2 baC V4 b6 S5 zNp unA P0 V2 T8 P3 V5 P8 loA hiA N7 P2 K3 i8 M6 V3 zEI
 O2 O1 N1 O4 R5 P1 Z9 zNb u6 zNz zAV zAA R6 M8 l3 AS.ev AS.get AS.obj AS.put AS.setO AS.putD AS.nx nxF lkV lkO splice AV.cells AV.one AV.flat AV.sized zNL zNh q6 z8
 J6 S1 f5 envF objsF OXpF Y2 V7 AObj.live envG AObj.ren x9 r6 c8 Value.oneCell' Value.cells
attribute [go_sem] ite_true ite_false if_true if_false true_and and_true and_self forall_const true_implies false_implies List.map_cons List.map_nil List.append_nil List.nil_append List.cons_append List.length_cons List.length_nil
 List.all_cons List.all_nil Bool.and_true Bool.true_and Bool.and_self List.size_toArray Option.map_some Option.map_none Option.bind_some Option.bind_none Option.isSome_some List.getElem?_cons_zero List.getElem?_cons_succ List.getElem?_nil
 List.take_succ_cons List.take_zero List.drop_succ_cons List.drop_zero List.drop_nil List.take_nil List.getD_cons_zero List.getD_cons_succ Option.getD_some Option.getD_none List.all_toArray List.getElem?_toArray
 List.mem_cons List.not_mem_nil or_false forall_eq_or_imp forall_eq List.forall_mem_cons List.map_toArray ne_eq List.range_zero
attribute [go_sem] Nat.min_self Nat.max_self Nat.reduceLT Nat.reduceEqDiff Nat.reduceAdd Nat.reduceSub Nat.reduceMul Nat.reduceLeDiff Nat.reduceBEq Nat.reduceBNe Int.reduceLT Int.reduceLE Int.reduceEq Int.reduceBEq Int.reduceBNe Int.reduceAdd Int.reduceSub Int.reduceToNat
attribute [go_sem] List.flatten_nil List.flatten_cons List.contains_cons List.contains_nil Option.some_beq_some Option.some_beq_none Option.none_beq_some Bool.or_false Bool.or_true Bool.false_or Bool.true_or Bool.not_true Bool.not_false decide_eq_true_eq beq_self_eq_true
 beq_iff_eq bne_iff_ne beq_eq_false_iff_ne decide_eq_false_iff_not Nat.not_lt Nat.not_le Int.not_lt Int.not_le or_true true_or false_or Bool.false_eq_true and_false false_and not_false_eq_true not_true_eq_false decide_true decide_false Bool.false_and Bool.and_false Option.some.injEq reduceCtorEq eq_self
@[go_sem] theorem zKc {α β : Type} (l : List α) : (l.map fun _ => ([] : List β)).flatten = [] := by induction l <;> simp_all
@[go_sem] theorem zJ5 {α : Type} (l : List α) : (l.all fun _ => true) = true := by induction l <;> simp_all
@[go_sem] theorem zJ4 {α : Type} (l : List α) (f : α → Bool) (n : Nat) (h : n = l.length) : l.toArray.all f 0 n = l.all f := by subst h; simp
@[go_sem] theorem zM7 {α : Type} (l : List α) (i : Nat) (d : α) : l.toArray.getD i d = l.getD i d := by simp
def U8 (P : Program) (all : List Oper) (K : AS → List Touch → Prop) (o : Oper) (rest : List Oper) (σ : AS) (ts : List Touch) : Cont :=
 fun v rd wr => y4 P all K rest ((σ.writes wr).putD o.dst v) (ts ++ [⟨rd, wr.map (·.1)⟩])
def W4 (K' K0 : Cont) : Prop := K' = K0
def T0 (σ : AS) : Option Tmp → Prop
 | some d => d < σ.n
 | none => True
section
variable {P : Program} {all : List Oper} {K : AS → List Touch → Prop} {o : Oper} {rest : List Oper} {σ : AS} {ts : List Touch}
theorem r9 (h : K σ ts) : y4 P all K [] σ ts := h
theorem dstOK_iff {d : Option Tmp} : T0 σ d ↔ (match d with | some d => ltN d σ.n | none => True) := by cases d <;> rfl
theorem zHL (hg : o.guard = none) (hd : T0 σ o.dst) (h : ∀ K', W4 K' (U8 P all K o rest σ ts) → zNT P o σ.ev σ.obj σ.nx K') : y4 P all K (o :: rest) σ ts := by
 unfold y4 p7
 rw [hg]
 exact ⟨dstOK_iff.1 hd, h _ rfl⟩
theorem q7 {K' : Cont} {v : AV} {rd : List Nat} {wr : List (Nat × AObj)} (hK : W4 K' (U8 P all K o rest σ ts)) (h : y4 P all K rest ((σ.writes wr).putD o.dst v) (ts ++ [⟨rd, wr.map (·.1)⟩])) : K' v rd wr := by unfold W4 at hK; rw [hK]; exact h
theorem zAP {j d : Nat} {want b : Bool} (hg : o.guard = some (j, want)) (hj : (all[j]?).bind (·.dst) = some d) (hv : σ.get d = .raw (.bool b)) (hd : T0 σ o.dst)
  (h1 : b = want → ∀ K', W4 K' (U8 P all K o rest σ ts) → zNT P o σ.ev σ.obj σ.nx K') (h2 : b = !want → y4 P all K rest (σ.putD o.dst (.tup [])) (ts ++ [⟨[], []⟩])) : y4 P all K (o :: rest) σ ts := by
 unfold y4 p7
 rw [hg]
 simp only [hj, hv, gIf]
 exact ⟨fun e => ⟨dstOK_iff.1 hd, h1 e _ rfl⟩, fun e => ⟨dstOK_iff.1 hd, h2 e⟩⟩
theorem zCn {j d : Nat} {want : Bool} (hg : o.guard = some (j, want)) (hj : (all[j]?).bind (·.dst) = some d) (hv : σ.get d = .raw (.bool want)) (hd : T0 σ o.dst)
  (h1 : ∀ K', W4 K' (U8 P all K o rest σ ts) → zNT P o σ.ev σ.obj σ.nx K') : y4 P all K (o :: rest) σ ts := zAP hg hj hv hd (fun _ => h1) (fun e => by cases want <;> cases e)
theorem zCm {j d : Nat} {want : Bool} (hg : o.guard = some (j, want)) (hj : (all[j]?).bind (·.dst) = some d) (hv : σ.get d = .raw (.bool !want)) (hd : T0 σ o.dst)
  (h2 : y4 P all K rest (σ.putD o.dst (.tup [])) (ts ++ [⟨[], []⟩])) : y4 P all K (o :: rest) σ ts := zAP hg hj hv hd (fun e => by cases want <;> cases e) (fun _ => h2)
theorem zHM {j d : Nat} {want : Bool} (hg : o.guard = some (j, want)) (hj : (all[j]?).bind (·.dst) = some d) (hv : σ.get d = .tup []) (hd : T0 σ o.dst)
  (h2 : y4 P all K rest (σ.putD o.dst (.tup [])) (ts ++ [⟨[], []⟩])) : y4 P all K (o :: rest) σ ts := by
 unfold y4 p7
 rw [hg]
 simp only [hj, hv]
 exact ⟨dstOK_iff.1 hd, h2⟩
end
@[congr] theorem zLr {σ : AS} {o o' : Nat} (h : o = o') : σ.obj o = σ.obj o' := by rw [h]
@[congr] theorem zLC {σ : AS} {o o' : Nat} (h : o = o') : σ.get o = σ.get o' := by rw [h]
@[congr] theorem zLN {l : List (Nat × AV)} {o o' : Nat} (h : o = o') : lkV l o = lkV l o' := by rw [h]
@[congr] theorem zLM {l : List (Nat × AObj)} {o o' : Nat} (h : o = o') : lkO l o = lkO l o' := by rw [h]
@[congr] theorem zMh {P : Program} {all : List Oper} {K : AS → List Touch → Prop} {l : List Oper} {σ σ' : AS} {ts ts' : List Touch} (h1 : σ = σ') (h2 : ts = ts') : y4 P all K l σ ts = y4 P all K l σ' ts' := by rw [h1, h2]
@[congr] theorem zLD {all : List Oper} {σ σ' : AS} {o : Oper} {Y N : Prop} (h : σ = σ') : p7 all σ o Y N = p7 all σ' o Y N := by rw [h]
@[congr] theorem zKZ {P : Program} {o : Oper} {ev : Operand → AV} {H : Nat → AObj} {nx nx' : Nat} {K : Cont} (h : nx = nx') : zNT P o ev H nx K = zNT P o ev H nx' K := by rw [h]
@[congr] theorem zLO {P : Program} {t : TypeId} {x x' : AV} {H : Nat → AObj} {K : Cont} (h : x = x') : Q9 P t x H K = Q9 P t x' H K := by rw [h]
@[congr] theorem zM3 {P : Program} {t : TypeId} {x x' y y' : AV} {H : Nat → AObj} {K : Cont} (h : x = x') (h2 : y = y') : U1 P t x y H K = U1 P t x' y' H K := by rw [h, h2]
@[congr] theorem zKH {P : Program} {op : BinOp} {t : TypeId} {x x' y y' : AV} {K : Cont} (h : x = x') (h2 : y = y') : zNp P op t x y K = zNp P op t x' y' K := by rw [h, h2]
@[congr] theorem zKa {P : Program} {t : TypeId} {x x' : AV} {f : Nat} {K : Cont} (h : x = x') : V2 P t x f K = V2 P t x' f K := by rw [h]
@[congr] theorem zLG {P : Program} {t : TypeId} {x x' y y' : AV} {K : Cont} (h : x = x') (h2 : y = y') : V5 P t x y K = V5 P t x' y' K := by rw [h, h2]
@[congr] theorem zLR {P : Program} {t : TypeId} {m m' k k' x x' : AV} {H : Nat → AObj} {K : Cont} (h : m = m') (h2 : k = k') (h3 : x = x') : Y0 P t m k x H K = Y0 P t m' k' x' H K := by rw [h, h2, h3]
@[congr] theorem zLP {P : Program} {t : TypeId} {m m' k k' : AV} {ok : Bool} {H : Nat → AObj} {K : Cont} (h : m = m') (h2 : k = k') : X1 P t m k ok H K = X1 P t m' k' ok H K := by rw [h, h2]
@[congr] theorem zKO {P : Program} {f : FuncId} {avs avs' : List AV} {H : Nat → AObj} {nx nx' : Nat} {K : Cont} (h : avs = avs') (h2 : nx = nx') : y9 P f avs H nx K = y9 P f avs' H nx' K := by rw [h, h2]
@[congr] theorem zK6 {b b' want : Bool} (h : b = b') (Y N : Prop) : gIf b want Y N = gIf b' want Y N := by rw [h]
@[go_sem] theorem zLA (Y N : Prop) : gIf true true Y N = Y := by simp [gIf]
@[go_sem] theorem zK9 (Y N : Prop) : gIf true false Y N = N := by simp [gIf]
@[go_sem] theorem zK8 (Y N : Prop) : gIf false true Y N = N := by simp [gIf]
@[go_sem] theorem zK7 (Y N : Prop) : gIf false false Y N = Y := by simp [gIf]
@[go_sem] theorem zNC (σ : AS) : σ.writes [] = σ := rfl
@[go_sem] theorem zNB (σ : AS) (o : Nat) (A : AObj) (r : List (Nat × AObj)) : σ.writes ((o, A) :: r) = (σ.setO o A).writes r := rfl
@[go_sem] theorem zMP (n : Nat) : List.range (n + 1) = List.range n ++ [n] := List.range_succ
@[go_sem] theorem zMO (v : Value) : Pure (.raw v) ↔ True := ⟨fun _ => trivial, fun _ => .raw v⟩
@[go_sem] theorem zMN (xs : List AV) : Pure (.list xs) ↔ True := ⟨fun _ => trivial, fun _ => .list xs⟩
@[go_sem] theorem zMM (ks : List Value) (xs : List AV) : Pure (.fmap ks xs) ↔ True := ⟨fun _ => trivial, fun _ => .fmap ks xs⟩
@[go_sem] theorem zMK : Pure .any ↔ True := ⟨fun _ => trivial, fun _ => .any⟩
@[go_sem] theorem zML (x : AV) : Pure (.elt x) ↔ True := ⟨fun _ => trivial, fun _ => .elt x⟩
@[go_sem] theorem zMJ : Pure (.agg []) ↔ True := ⟨fun _ => trivial, fun _ => .agg [] (fun c hc => by simp at hc)⟩
@[go_sem] theorem zMI (c : AV) (cs : List AV) : Pure (.agg (c :: cs)) ↔ Pure c ∧ Pure (.agg cs) := by
 constructor
 ·intro h
  cases h with
  | agg _ h => exact ⟨h c (by simp), .agg cs (fun d hd => h d (by simp [hd]))⟩
 ·rintro ⟨h1, h2⟩
  cases h2 with
  | agg _ h2 =>
   refine .agg _ (fun d hd => ?_)
   rcases List.mem_cons.1 hd with rfl | hd
   ·exact h1
   ·exact h2 d hd
section
variable (H : Nat → AObj) (m : List (Option Nat)) (ex : List Nat)
@[go_sem] theorem zJm (y : AV) : XpF H m ex .any y ↔ True := by simp only [XpF]
@[go_sem] theorem zJ0 (k off o off' : Nat) : XpF H m ex (.ptr k off) (.ptr o off') ↔ m[k]? = some (some o) ∧ off = off' := by simp only [XpF]
@[go_sem] theorem zJp (k sz i off o sz' i' off' : Nat) : XpF H m ex (.eptr k sz i off) (.eptr o sz' i' off') ↔ m[k]? = some (some o) ∧ sz = sz' ∧ i = i' ∧ off = off' := by simp only [XpF]
@[go_sem] theorem zJy (k sz off len o sz' off' len' : Nat) : XpF H m ex (.own k sz off len) (.own o sz' off' len') ↔ m[k]? = some (some o) ∧ sz = sz' ∧ off = off' ∧ len = len' := by simp only [XpF]
@[go_sem] theorem zJz (k sz off len : Nat) (v : Value) : XpF H m ex (.own k sz off len) (.raw v) ↔ m[k]? = some none ∧ off = 0 ∧ len = 0 ∧ v = .slice none 0 0 := by simp only [XpF]
@[go_sem] theorem zJv (k o : Nat) : XpF H m ex (.mp k) (.mp o) ↔ m[k]? = some (some o) := by simp only [XpF]
@[go_sem] theorem zJ1 (v v' : Value) : XpF H m ex (.raw v) (.raw v') ↔ v = v' := by simp only [XpF]
@[go_sem] theorem zJu (xs ys : List AV) : XpF H m ex (.list xs) (.list ys) ↔ xs = ys := by simp only [XpF]
@[go_sem] theorem zJs (xs : List AV) (o sz off len : Nat) : XpF H m ex (.list xs) (.own o sz off len) ↔ o ∈ ex ∧ (match H o with
  | .row sz' zs => sz' = sz ∧ off + len ≤ zs.length ∧ xs = (zs.drop off).take len
  | .box cs => sz = 1 ∧ off = 0 ∧ len = cs.length ∧ (∀ x, x ∈ xs → Z9 x = true) ∧ (xs = cs ∨ XpL H m ex xs cs)
  | _ => False) := by simp only [XpF] <;> (generalize H o = A; cases A <;> exact Iff.rfl)
@[go_sem] theorem zJq (ks ks' : List Value) (xs xs' : List AV) : XpF H m ex (.fmap ks xs) (.fmap ks' xs') ↔ ks = ks' ∧ xs = xs' := by simp only [XpF]
@[go_sem] theorem zJt (ks : List Value) (xs : List AV) (o : Nat) : XpF H m ex (.fmap ks xs) (.mp o) ↔ o ∈ ex ∧ (match H o with
  | .mapo ks' xs' => MPerm ks xs ks' xs'
  | _ => False) := by simp only [XpF] <;> (generalize H o = A; cases A <;> exact Iff.rfl)
@[go_sem] theorem zLT (ks : List Value) (xs : List AV) : MPerm ks xs ks xs ↔ True := ⟨fun _ => trivial, fun _ => .refl _ _⟩
@[go_sem] theorem zJx (ks : List Value) (xs : List AV) (v : Value) : XpF H m ex (.fmap ks xs) (.raw v) ↔ ks = [] ∧ xs = [] ∧ v = .map none := by simp only [XpF]
@[go_sem] theorem zJw (xs : List AV) (v : Value) : XpF H m ex (.list xs) (.raw v) ↔ xs = [] ∧ v = .slice none 0 0 := by simp only [XpF]
@[go_sem] theorem zJo (x y : AV) : XpF H m ex (.elt x) (.elt y) ↔ x = y := by simp only [XpF]
@[go_sem] theorem zJl (cs ds : List AV) : XpF H m ex (.agg cs) (.agg ds) ↔ XpL H m ex cs ds := by simp only [XpF]
@[go_sem] theorem zJ2 (cs ds : List AV) : XpF H m ex (.tup cs) (.tup ds) ↔ XpL H m ex cs ds := by simp only [XpF]
@[go_sem] theorem zJr (f g : FuncId) (cs ds : List AV) : XpF H m ex (.fn f cs) (.fn g ds) ↔ f = g ∧ XpL H m ex cs ds := by simp only [XpF]
@[go_sem] theorem zAu : XpL H m ex [] [] ↔ True := by simp only [XpL]
@[go_sem] theorem D2 (x y : AV) (xs ys : List AV) : XpL H m ex (x :: xs) (y :: ys) ↔ XpF H m ex x y ∧ XpL H m ex xs ys := by simp only [XpL]
end
section
variable (f : Nat → Nat)
@[go_sem] theorem zMT : AV.ren f .any = .any := by simp only [AV.ren]
@[go_sem] theorem zMd (v : Value) : AV.ren f (.raw v) = .raw v := by simp only [AV.ren]
@[go_sem] theorem zMZ (xs : List AV) : AV.ren f (.list xs) = .list xs := by simp only [AV.ren]
@[go_sem] theorem zMV (x : AV) : AV.ren f (.elt x) = .elt x := by simp only [AV.ren]
@[go_sem] theorem zMX (ks : List Value) (xs : List AV) : AV.ren f (.fmap ks xs) = .fmap ks xs := by simp only [AV.ren]
@[go_sem] theorem zMc (o off : Nat) : AV.ren f (.ptr o off) = .ptr (f o) off := by simp only [AV.ren]
@[go_sem] theorem zMW (o sz i off : Nat) : AV.ren f (.eptr o sz i off) = .eptr (f o) sz i off := by simp only [AV.ren]
@[go_sem] theorem zMb (o sz off len : Nat) : AV.ren f (.own o sz off len) = .own (f o) sz off len := by simp only [AV.ren]
@[go_sem] theorem zMa (o : Nat) : AV.ren f (.mp o) = .mp (f o) := by simp only [AV.ren]
@[go_sem] theorem zMS (cs : List AV) : AV.ren f (.agg cs) = .agg (cs.map (AV.ren f)) := by simp only [AV.ren, b7]
@[go_sem] theorem zMe (cs : List AV) : AV.ren f (.tup cs) = .tup (cs.map (AV.ren f)) := by simp only [AV.ren, b7]
@[go_sem] theorem zMY (g : FuncId) (cs : List AV) : AV.ren f (.fn g cs) = .fn g (cs.map (AV.ren f)) := by simp only [AV.ren, b7]
@[go_sem] theorem zMR (cs : List AV) : zNt f cs = cs.map (AV.ren f) := b7 f cs
end
end Go.Abs

namespace Go.Abs
open Go
def U7 : Nat → Code → Code
 | 0, .seq x _ => x
 | 1, .seq _ y => y
 | 0, .cond _ x _ => x
 | 1, .cond _ _ y => y
 | 0, .block _ c => c
 | 0, .loop c => c
 | 0, .scope c => c
 | _, _ => .skip
def sub : List Nat → Code → Code
 | [], b => b
 | i :: p, b => U7 i (sub p b)
def W9 (fn : Func) : Code := fn.body.getD .skip
def J1 (Q : Exit → AS → Prop) : Exit → AS → Prop
 | .goto _, _ => False
 | e, σ => Q e σ
@[go_sem] theorem zLp (Q : Exit → AS → Prop) (σ : AS) : J1 Q .normal σ = Q .normal σ := rfl
@[go_sem] theorem zLq (Q : Exit → AS → Prop) (σ : AS) : J1 Q .ret σ = Q .ret σ := rfl
@[go_sem] theorem zLo (Q : Exit → AS → Prop) (i : Nat) (σ : AS) : J1 Q (.exit i) σ = Q (.exit i) σ := rfl
def zBu : Code → Bool
 | .seq _ _ => true
 | _ => false
def zBs : Code → Option Nat
 | .block id _ => some id
 | _ => none
def G2 : Code → Bool
 | .loop _ => true
 | _ => false
def A0 : Code → Option Operand
 | .cond c _ _ => some c
 | _ => none
section
variable {P : Program} {E : Env} {Q : Exit → AS → Prop} {σ : AS} {p : List Nat} {b : Code}
theorem E1 (h : zBu (sub p b) = true) (hx : Hold P E (sub (0 :: p) b) (q6 (Hold P E (sub (1 :: p) b) Q) Q) σ) : Hold P E (sub p b) Q σ := by
 simp only [sub] at hx
 cases hc : sub p b with
 | seq x y => rw [hc] at hx; exact zFw hx
 | _ => rw [hc] at h; cases h
theorem zHQ {id : Nat} (h : zBs (sub p b) = some id) (hx : Hold P E (sub (0 :: p) b) (z8 id Q) σ) : Hold P E (sub p b) Q σ := by
 simp only [sub] at hx
 cases hc : sub p b with
 | block i c => rw [hc] at hx h; cases h; exact zFn hx
 | _ => rw [hc] at h; cases h
theorem zHW {c : Code} (h : sub p b = .scope c) (hx : Hold P E (sub (0 :: p) b) (J1 Q) σ) : Hold P E (sub p b) Q σ := by
 have e : sub (0 :: p) b = c := by show U7 0 (sub p b) = c; rw [h]; rfl
 rw [e] at hx
 rw [h]
 refine fun a w hs => wp_scope_straight (wp_mono (hx a w hs) (fun e a w ⟨σ', h1, h2⟩ => ?_))
 cases e with
 | goto l => exact h1
 | _ => exact ⟨σ', h1, h2⟩
theorem zHX (h : sub p b = .skip) (hx : Q .normal σ) : Hold P E (sub p b) Q σ := by rw [h]; exact zFx hx
theorem zHT {l : Nat} (h : sub p b = .label l) (hx : Q .normal σ) : Hold P E (sub p b) Q σ := by rw [h]; exact zFr hx
theorem zHS {id : Nat} (h : sub p b = .exit id) (hx : Q (.exit id) σ) : Hold P E (sub p b) Q σ := by rw [h]; exact zFq hx
theorem q8 (h : sub p b = .ret) (hx : Q .ret σ) : Hold P E (sub p b) Q σ := by rw [h]; exact zFv hx
theorem zHV {id : Nat} {ops : List Oper} (h : sub p b = .region id ops.toArray false) (hx : y4 P ops (fun σ' _ => Q .normal σ') ops σ []) : Hold P E (sub p b) Q σ := by
 rw [h]; exact zFu hx
theorem zHR {id : Nat} {ops : List Oper} (h : sub p b = .region id ops.toArray true) (hm : P.follows .mixedOrders = true) (he : L2 ops = true) (hx : y4 P ops (fun σ' ts => T6 ops ts = true ∧ Q .normal σ') ops σ []) : Hold P E (sub p b) Q σ := by
 rw [h]; exact zFp hm he hx
theorem F9 {c : Operand} (h : A0 (sub p b) = some c) (hx : ∃ t, σ.ev c = .raw (.bool t) ∧ (t = true → Hold P E (sub (0 :: p) b) Q σ) ∧ (t = false → Hold P E (sub (1 :: p) b) Q σ)) : Hold P E (sub p b) Q σ := by
 simp only [sub] at hx
 cases hc : sub p b with
 | cond c' x y =>
  rw [hc] at hx h; cases h
  obtain ⟨t, h1, h2, h3⟩ := hx
  exact zFo h1 h2 h3
 | _ => rw [hc] at h; cases h
theorem zAR (h : G2 (sub p b) = true) (Inv : Nat → Nat → List (Nat × AV) → List AObj → Prop) (n : Nat) (h0 : ∃ m ex N env As, Weak E.n m ex σ N env As ∧ Inv n N env As)
  (hx : ∀ n N env As, Inv n N env As → Hold P E (sub (0 :: p) b) (q6 (fun σ' => ∃ n', n' < n ∧ ∃ m ex N env As, Weak E.n m ex σ' N env As ∧ Inv n' N env As) Q) ⟨N, env, zNL 0 As⟩) : Hold P E (sub p b) Q σ := by
 simp only [sub] at hx
 cases hc : sub p b with
 | loop c => rw [hc] at hx; exact zFs Inv n h0 hx
 | _ => rw [hc] at h; cases h
def AS.only (σ : AS) (ts : List Nat) : AS := ⟨σ.n, ts.map (fun t => (t, σ.get t)), σ.objs⟩
theorem q9 {f : FuncId} {fn : Func} {args : List AV} {fp : List AObj} {r : AV} {out : List AObj} (hf : P.funcs[f]? = some fn) (hb : fn.body.isSome = true)
  (h : ∀ E : Env, E.n = fp.length → Hold P E (sub [] (W9 fn)) (fun e σ' => (e = .normal ∨ e = .ret) ∧ H1 P fn fp.length r out σ') ⟨args.length + (fn.ntmps - args.length), zNh 0 args, zNL 0 fp⟩) : zNF P f args fp r out := by
 obtain ⟨c, hc⟩ := Option.isSome_iff_exists.1 hb
 refine zIt hf hc (fun E hE => ?_)
 have := h E hE
 simp only [sub, W9, hc, Option.getD_some] at this
 exact this
theorem zIp {T : Type} {f : FuncId} {fn : Func} {args : List AV} {fp : List AObj} {r : T → AV} {out : T → List AObj} (hf : P.funcs[f]? = some fn) (hb : fn.body.isSome = true)
  (h : ∀ E : Env, E.n = fp.length → Hold P E (sub [] (W9 fn)) (fun e σ' => (e = .normal ∨ e = .ret) ∧ ∃ t, H1 P fn fp.length (r t) (out t) σ') ⟨args.length + (fn.ntmps - args.length), zNh 0 args, zNL 0 fp⟩) : R2 P f args fp r out := by
 obtain ⟨c, hc⟩ := Option.isSome_iff_exists.1 hb
 refine zC6 hf hc (fun E hE => ?_)
 have := h E hE
 simp only [sub, W9, hc, Option.getD_some] at this
 exact this
end
section
variable {P : Program} {E : Env} {all : List Oper} {K : AS → List Touch → Prop} {o : Oper} {rest : List Oper} {σ : AS} {ts : List Touch} {Q : Exit → AS → Prop} {p : List Nat} {b : Code}
def zN2 (σ : AS) : Option Tmp → Bool
 | some d => Nat.blt d σ.n
 | none => true
theorem U9 : zN2 σ o.dst = true → T0 σ o.dst := by
 cases o.dst with
 | none => intro _; trivial
 | some d => intro h; simp only [zN2, Nat.blt, Nat.ble_eq] at h; exact h
def zDA (a c : Option (Bool × Prop)) : AV → Bool → Option (Bool × Prop)
 | .raw (.bool true), true => a
 | .raw (.bool false), false => a
 | .raw (.bool true), false => c
 | .raw (.bool false), true => c
 | .tup [], _ => c
 | _, _ => none
def zDC (P : Program) (all : List Oper) (K : AS → List Touch → Prop) (σ : AS) (ts : List Touch) : List Oper → Option (Bool × Prop)
  | [] => some (true, K σ ts)
  | o :: rest => match o.guard with
    | none => some (zN2 σ o.dst, ∀ K', W4 K' (U8 P all K o rest σ ts) → zNT P o σ.ev σ.obj σ.nx K')
    | some (j, want) => match (all[j]?).bind (·.dst) with
      | none => none
      | some d => zDA (some (zN2 σ o.dst, ∀ K', W4 K' (U8 P all K o rest σ ts) → zNT P o σ.ev σ.obj σ.nx K'))
          (some (zN2 σ o.dst, y4 P all K rest (σ.putD o.dst (.tup [])) (ts ++ [⟨[], []⟩]))) (σ.get d) want
theorem Qr {ops : List Oper} {G : Prop} (h : zDC P all K σ ts ops = some (true, G)) (g : G) : y4 P all K ops σ ts := by
 cases ops with
 | nil => cases h; exact g
 | cons o rest =>
  simp only [zDC] at h
  split at h
  ·rename_i hg
   simp only [Option.some.injEq, Prod.mk.injEq] at h
   obtain ⟨h1, rfl⟩ := h
   exact zHL hg (U9 h1) g
  ·rename_i j want hg
   split at h
   ·cases h
   ·rename_i d hj
    unfold zDA at h
    split at h <;> simp only [Option.some.injEq, Prod.mk.injEq, reduceCtorEq] at h <;> obtain ⟨h1, rfl⟩ := h
    ·rename_i hv; exact zCn hg hj hv (U9 h1) g
    ·rename_i hv; exact zCn hg hj hv (U9 h1) g
    ·rename_i hv; exact zCm hg hj hv (U9 h1) g
    ·rename_i hv; exact zCm hg hj hv (U9 h1) g
    ·rename_i hv; exact zHM hg hj hv (U9 h1) g
theorem Qi {j d : Nat} {want t : Bool} (hg : o.guard = some (j, want)) (hj : (all[j]?).bind (·.dst) = some d) (hv : σ.get d = .raw (.bool t)) (hd : zN2 σ o.dst = true)
  (h1 : t = want → ∀ K', W4 K' (U8 P all K o rest σ ts) → zNT P o σ.ev σ.obj σ.nx K') (h2 : t = !want → y4 P all K rest (σ.putD o.dst (.tup [])) (ts ++ [⟨[], []⟩])) :
  y4 P all K (o :: rest) σ ts := zAP hg hj hv (U9 hd) h1 h2
theorem Qb {ops : List Oper} {p : Prop} (h : T6 ops ts = true) (g : p) : T6 ops ts = true ∧ p := ⟨h, g⟩
def zDB (P : Program) (E : Env) (b : Code) (Q : Exit → AS → Prop) (σ : AS) (p : List Nat) : Option Prop := match sub p b with
 | .seq _ _ => some (Hold P E (sub (0 :: p) b) (q6 (Hold P E (sub (1 :: p) b) Q) Q) σ)
 | .block id _ => some (Hold P E (sub (0 :: p) b) (z8 id Q) σ)
 | .skip => some (Q .normal σ)
 | .label _ => some (Q .normal σ)
 | .scope _ => some (Hold P E (sub (0 :: p) b) (J1 Q) σ)
 | .exit id => some (Q (.exit id) σ)
 | .region _ ⟨ops⟩ false => some (y4 P ops (fun σ' _ => Q .normal σ') ops σ [])
 | _ => none
theorem Qh {G : Prop} (h : zDB P E b Q σ p = some G) (g : G) : Hold P E (sub p b) Q σ := by
 unfold zDB at h
 cases hc : sub p b with
 | seq x y => rw [hc] at h; cases h; rw [← hc]; exact E1 (by rw [hc]; rfl) g
 | block i c => rw [hc] at h; cases h; rw [← hc]; exact zHQ (id := i) (by rw [hc]; rfl) g
 | skip => rw [hc] at h; cases h; rw [← hc]; exact zHX hc g
 | label l => rw [hc] at h; cases h; rw [← hc]; exact zHT hc g
 | scope c => rw [hc] at h; cases h; rw [← hc]; exact zHW hc g
 | exit id => rw [hc] at h; cases h; rw [← hc]; exact zHS hc g
 | region id ops d => cases d with
  | false => rw [hc] at h; cases h; rw [← hc]; exact zHV (ops := ops.toList) (by rw [hc]) g
  | true => rw [hc] at h; cases h
 | _ => rw [hc] at h; cases h
end
@[congr] theorem Hold.only_state {P : Program} {E : Env} {c : Code} {Q : Exit → AS → Prop} {σ τ : AS} (h : σ = τ) : Hold P E c Q σ = Hold P E c Q τ := by rw [h]
attribute [go_sem] AS.only
end Go.Abs

namespace Go.Abs
open Go
theorem zBO : ∀ (L : List MapEntry) (i : Nat) (h : i < L.length), L.Pairwise (fun x y => x.born < y.born) → L.filter (fun e => !(e.born == L[i].born)) = L.eraseIdx i
 | [], i, h, _ => by simp at h
 | x :: r, 0, h, hp => by
  obtain ⟨h1, h2⟩ := List.pairwise_cons.1 hp
  simp only [List.getElem_cons_zero, List.eraseIdx_cons_zero, List.filter_cons, beq_self_eq_true, Bool.not_true, Bool.false_eq_true, if_false]
  exact List.filter_eq_self.2 (fun e he => by have := h1 e he; simp; omega)
 | x :: r, i + 1, h, hp => by
  obtain ⟨h1, h2⟩ := List.pairwise_cons.1 hp
  have hi : i < r.length := by simpa using h
  have hx : x.born < r[i].born := h1 _ (List.getElem_mem hi)
  simp only [List.getElem_cons_succ, List.eraseIdx_cons_succ]
  rw [List.filter_cons, if_pos (by simp; omega), zBO r i hi h2]
theorem zGM (es : List MapEntry) (seen : Array Nat) (i : Nat) (h : i < (es.filter (fun e => !seen.contains e.born)).length) (hp : es.Pairwise (fun x y => x.born < y.born)) :
  es.filter (fun e => !(seen.push ((es.filter (fun e => !seen.contains e.born))[i]).born).contains e.born) = (es.filter (fun e => !seen.contains e.born)).eraseIdx i := by
 rw [← zBO _ i h (hp.filter _), List.filter_filter]
 congr 1
 funext e
 simp only [Array.contains_push]
 cases seen.contains e.born <;> simp
section
variable {P : Program} {E : Env} {Q : Exit → AS → Prop} {σ : AS} {p : List Nat} {b : Code}
theorem zDM {o : Oper} (h : o.guard = none) (y : Nat → Option Bool) : Region.wanted o y = true := by simp [Region.wanted, h]
theorem zHU {id : Nat} {o1 o2 : Oper} {t d d2 o : Nat} (h : sub p b = .region id #[o1, o2] false) (h1 : o1.op = .next (.tmp t) false) (h2 : o1.dst = some d) (h3 : o1.guard = none)
    (h4 : o2.op = .extract (.tmp d) 0) (h5 : o2.dst = some d2) (h6 : o2.guard = none) (cur : Option (Value × AV)) (ks : List Value) (xs : List AV) (hx : σ.get t = .ptr o 0) (ho : σ.obj o = .iter cur ks xs) (hd : d < σ.n) (hd2 : d2 < σ.n)
    (hend : ks = [] → xs = [] → Q .normal ((σ.put d .any).put d2 (.raw (.bool false))))
    (hstep : ∀ (i : Nat) (h : i < ks.length) (h' : i < xs.length), Q .normal (((σ.setO o (.iter (some (ks[i], xs[i])) (ks.eraseIdx i) (xs.eraseIdx i))).put d .any).put d2 (.raw (.bool true)))) : Hold P E (sub p b) Q σ := by
  rw [h]
  rintro a w ⟨I, loc, hs⟩
  refine wp_region_lit (l := [o1, o2]) ?_
  have second : ∀ (τ : AS) (bb : Bool) (v : Value) (w' : World) (I' : Nat → Prop), τ.n = σ.n → (Instr.extract v 0).run P w' = .ok (.bool bb) w' → SR E I' loc τ a w' → Q .normal ((τ.put d .any).put d2 (.raw (.bool bb))) →
      wpList P #[o1, o2] (zNU E Q) [o2] (a.put o1.dst v) w' := by
    intro τ bb v w' I' hn hv hsr hq
    have hs1 := hsr.put (t := d) (v := .any) (x := v) (.pure (.any _)) (by rw [hn]; exact hd)
    unfold wpList
    rw [if_pos (zDM h6 _)]
    refine .inl (S7 (x := .bool bb) (w' := w') ?_ ?_)
    · have hev : (a.put o1.dst v).eval (.tmp d) = v := by
        have hlt : d < a.tmps.size := by rw [hsr.size, hn]; exact hd
        simp [Act.eval, Act.put, h2, hlt]
      simp only [execOp, h4, Sem.run_bind, hev, hv, Result.andThen_ok, Sem.run_pure]
    · unfold wpList
      refine ⟨_, hq, I', loc, ?_⟩
      rw [h2, h5]
      exact hs1.put (.pure (.raw _ rfl)) (show d2 < τ.n by rw [hn]; exact hd2)
  unfold wpList
  rw [if_pos (zDM h3 _)]
  refine .inl ?_
  have hxv := hs.tmps t
  rw [hx] at hxv
  have ev1 : a.eval (.tmp t) = a.tmps.getD t undef := rfl
  generalize a.tmps.getD t undef = u at hxv ev1
  cases hxv with
  | pure hp => cases hp
  | ptr _ _ bb c hl =>
    have hob := hs.objs o
    rw [ho] at hob
    have hlive : (σ.obj o).live = true := by rw [ho]; rfl
    obtain ⟨b', g1, ⟨s, seen, l, g2, rfl, rfl, rfl⟩ | ⟨m, es, clock, seen, g2, g3, g4, g5, g6, g7, g8⟩⟩ := hob
    · rw [hl] at g1; cases g1
      refine S7 (x := .tuple #[.bool false]) (w' := w) ?_ (second σ false _ w I rfl (by simp [Instr.extract]) hs (hend rfl rfl))
      simp only [execOp, h1, ev1]
      simp [Instr.next, getObj, Sem.run_bind, Sem.run, g2, Result.andThen]
    · rw [hl] at g1; cases g1
      have hkl : ks.length = (es.toList.filter (fun e => !seen.contains e.born)).length := g6.1.trans g6.2.1
      have hxl := g6.2.1
      have hlo : (leftOf es seen).toList = es.toList.filter (fun e => !seen.contains e.born) := by simp [leftOf]
      rcases run_next_at (P := P) w o1.type bb m clock clock seen es clock g2 g4 (fun x hx => g5.2.2.2.2.2 x hx) (Nat.le_refl _) with ⟨q1, q2⟩ | ⟨e, q1, w1, q2, q3⟩
      · have hnil : (es.toList.filter (fun e => !seen.contains e.born)).length = 0 := by rw [← hlo]; simpa using q1
        have hk0 : ks = [] := List.eq_nil_of_length_eq_zero (by omega)
        have hx0 : xs = [] := List.eq_nil_of_length_eq_zero (by omega)
        refine S7 (x := .tuple #[.bool false]) (w' := w) ?_ (second σ false _ w I rfl (by simp [Instr.extract]) hs (hend hk0 hx0))
        simp only [execOp, h1, ev1]
        simp only [Sem.run_bind, q2, Result.andThen_ok, Sem.run_pure]
      · rw [hlo] at q1
        obtain ⟨i0, hi, rfl⟩ := List.getElem_of_mem q1
        have hin : ((es.toList.filter (fun e => !seen.contains e.born))[i0]).key ∈ ks := (K2 g6 g7).2 (List.mem_map.2 ⟨_, List.getElem_mem hi, rfl⟩)
        obtain ⟨i, hik, hki⟩ := List.getElem_of_mem hin
        have hix : i < xs.length := by have := g6.1; omega
        have hpv : PR w I xs[i] ((es.toList.filter (fun e => !seen.contains e.born))[i0]).val := by
          obtain ⟨e', r1, r2, r3⟩ := g7 i hik hix
          have : e' = (es.toList.filter (fun e => !seen.contains e.born))[i0] := zBI g6.2.2.2.1 r1 (List.getElem_mem hi) (by rw [r2, hki])
          rw [← this]; exact r3
        have hw1 : SR E I loc σ a w1 := by
          rcases q2 with rfl | rfl
          · exact hs
          · exact hs.heap rfl rfl rfl rfl
        have g2' : w1.heap[bb]? = some (.mapIter (some m) clock seen clock) := by rcases q2 with rfl | rfl <;> exact g2
        have g4' : w1.heap[m]? = some (.map es clock) := by rcases q2 with rfl | rfl <;> exact g4
        have hheap : w1.heap = w.heap := by rcases q2 with rfl | rfl <;> rfl
        have hblt : bb < w1.heap.size := (Array.getElem?_eq_some_iff.1 g2').1
        have hmb : m ≠ bb := fun e => by rw [e] at g4; rw [g2] at g4; cases g4
        let ob : Obj := .mapIter (some m) clock (seen.push ((es.toList.filter (fun e => !seen.contains e.born))[i0]).born) clock
        have hmono : ∀ k, I k → (ChangeMaps.setBlock w1 bb ob).heap[k]? = w1.heap[k]? := fun k hk => by
          have : bb ≠ k := fun e => (hs.sep o bb 0 hlive hl).1 (e ▸ hk)
          simp [ChangeMaps.setBlock, Array.getElem?_setIfInBounds, this]
        have hmono' : ∀ k, I k → (ChangeMaps.setBlock w1 bb ob).heap[k]? = w.heap[k]? := fun k hk => by rw [hmono k hk, hheap]
        have hset : (ChangeMaps.setBlock w1 bb ob).heap[bb]? = some ob := by simp [ChangeMaps.setBlock, hblt]
        have hleft := zGM es.toList seen i0 hi g5.2.2.2.2.1
        have hsw : SR E I loc (σ.setO o (.iter (some (ks[i], xs[i])) (ks.eraseIdx i) (xs.eraseIdx i))) a (ChangeMaps.setBlock w1 bb ob) := by
          refine hw1.writeG (w' := ChangeMaps.setBlock w1 bb ob) (A := .iter (some (ks[i], xs[i])) (ks.eraseIdx i) (xs.eraseIdx i)) hlive hl rfl rfl rfl (by simp [ChangeMaps.setBlock]) (fun k hk => by simp [ChangeMaps.setBlock, Array.getElem?_setIfInBounds, hk.symm]) ⟨bb, hl, .inr ⟨m, es, clock, seen.push ((es.toList.filter (fun e => !seen.contains e.born))[i0]).born, hset, g3, ?_, g5, ?_, ?_, ?_⟩⟩ (by simp)
          · rw [hmono m g3]; exact g4'
          · rw [hleft]
            have hsub := List.eraseIdx_sublist (es.toList.filter (fun e => !seen.contains e.born)) i0
            refine ⟨?_, ?_, g6.2.2.1.sublist (List.eraseIdx_sublist _ _), g6.2.2.2.1.sublist (hsub.map _), g6.2.2.2.2.1.sublist hsub, fun e he => g6.2.2.2.2.2 e (hsub.subset he)⟩
            · rw [List.length_eraseIdx_of_lt hix, List.length_eraseIdx_of_lt hik]; have := g6.1; omega
            · rw [List.length_eraseIdx_of_lt hix, List.length_eraseIdx_of_lt hi, hxl]
          · rw [hleft]
            have step : ∀ j (hj : j < ks.length) (hj' : j < xs.length), j ≠ i → ∃ e, e ∈ (es.toList.filter (fun e => !seen.contains e.born)).eraseIdx i0 ∧ e.key = ks[j] ∧ PR (ChangeMaps.setBlock w1 bb ob) I xs[j] e.val := fun j hj hj' hne => by
              obtain ⟨e, r1, r2, r3⟩ := g7 j hj hj'
              obtain ⟨m', hm', rfl⟩ := List.getElem_of_mem r1
              refine ⟨_, List.mem_eraseIdx_iff_getElem.2 ⟨m', hm', fun e => ?_, rfl⟩, r2, r3.mono hmono' (fun _ x => x)⟩
              subst e
              rw [← hki] at r2
              exact hne ((zAI g6.2.2.1).1 r2).symm
            intro j hj hj'
            rw [List.length_eraseIdx_of_lt hik] at hj
            simp only [List.getElem_eraseIdx]
            by_cases hji : j < i
            · simp only [dif_pos hji]; exact step j (by omega) (by omega) (by omega)
            · simp only [dif_neg hji]; exact step (j + 1) (by omega) (by have := g6.1; omega) (by omega)
          · rintro p hp
            cases hp
            exact ⟨_, (List.mem_filter.1 (List.getElem_mem hi)).1, by simp, hki.symm, hpv.mono hmono' (fun _ x => x)⟩
        have fin : ∀ (kk vv : Value) (w2 : World), (Instr.next (.pointer (some ⟨bb, 0, none⟩)) false o1.type).run P w = .ok (.tuple #[.bool true, kk, vv]) w2 → SR E I loc (σ.setO o (.iter (some (ks[i], xs[i])) (ks.eraseIdx i) (xs.eraseIdx i))) a w2 →
            o1.wp P a w (wpList P #[o1, o2] (zNU E Q) [o2]) (zNU E Q) := fun kk vv w2 hq hw2 =>
          S7 (x := .tuple #[.bool true, kk, vv]) (w' := w2) (by simp only [execOp, h1, ev1]; simp only [Sem.run_bind, hq, Result.andThen_ok, Sem.run_pure])
            (second (σ.setO o (.iter (some (ks[i], xs[i])) (ks.eraseIdx i) (xs.eraseIdx i))) true (.tuple #[.bool true, kk, vv]) w2 I rfl (by simp [Instr.extract]) hw2 (hstep i hik hix))
        exact fin _ _ _ q3 hsw
end
def fpsF (H : Nat → AObj) (m : List (Option Nat)) (ex : List Nat) : List AObj → List Nat → Prop
 | [], [] => True
 | A :: r, o :: r' => A.live = true ∧ OXpF H m ex A (H o) ∧ fpsF H m ex r r'
 | _, _ => False
theorem fpsF.sound {H : Nat → AObj} {m : List (Option Nat)} {ex : List Nat} : ∀ {fp : List AObj} {ids : List Nat}, fpsF H m ex fp ids → fp.length = ids.length ∧ ∀ k (h : k < fp.length), fp[k].live = true ∧ OXp H (zNc m) (· ∈ ex) fp[k] (H (ids.getD k 0))
 | [], [], _ => ⟨rfl, fun k h => by simp at h⟩
 | A :: r, o :: r', h => by
  obtain ⟨h1, h2⟩ := fpsF.sound h.2.2
  refine ⟨by simp [h1], fun k hk => ?_⟩
  cases k with
  | zero => exact ⟨h.1, OXpF.sound h.2.1⟩
  | succ k => simpa using h2 k (by simpa using hk)
theorem N4 (ids : List Nat) : zNc (ids.map some) = u7 ids := by
 funext k
 unfold zNc u7
 by_cases h : k < ids.length
 ·simp [h, List.getD]
 ·simp [h]
theorem zA9 {P : Program} {f : FuncId} {avs : List AV} {H : Nat → AObj} {nx : Nat} {K : Cont} (ids ex : List Nat) {args : List AV} {fp : List AObj} {r : AV} {out : List AObj} (sp : zNF P f args fp r out)
  (h1 : ids.Nodup) (h2 : XpL H (ids.map some) ex args avs) (h3 : fpsF H (ids.map some) ex fp ids) (h4 : ∀ o, o ∈ ex → o ∉ ids) (h5 : ex = [] ∨ (Scal r ∧ ∀ A, A ∈ out → R1 A))
  (h6 : ∀ j, j < out.length - ids.length → H (nx + j) = .unb) (h7 : ∀ A, A ∈ out → A ≠ .unb) (hk : K (r.ren (x9 ids nx)) (ids ++ ex ++ c8 ids nx out) (r6 ids nx out)) : H5 P f avs H nx K := by
 refine ⟨ids, ex, args, fp, r, out, ⟨sp, h1, h4, ?_, (fpsF.sound h3).1, fun k h => ?_, h5, h6, h7⟩, hk⟩
 ·rw [← N4]; exact XpL.all2 h2
 ·rw [← N4]; exact (fpsF.sound h3).2 k h
theorem All2.refl {R : AV → AV → Prop} (h : ∀ x, R x x) : ∀ xs, All2 R xs xs
 | [] => .nil
 | x :: r => .cons (h x) (All2.refl h r)
theorem r7 {P : Program} {f : FuncId} {avs : List AV} {H : Nat → AObj} {nx : Nat} {K : Cont} (ids ex : List Nat) {args : List AV} {fp : List AObj} {r : AV} {out : List AObj} (sp : zNF P f args fp r out)
  (h1 : ids.Nodup) (h2 : XpL H (ids.map some) ex args avs) (h3 : fpsF H (ids.map some) ex fp ids) (h4 : ∀ o, o ∈ ex → o ∉ ids) (h5 : ex = [] ∨ (Scal r ∧ ∀ A, A ∈ out → R1 A))
  (h6 : ∀ j, j < out.length - ids.length → H (nx + j) = .unb) (h7 : ∀ A, A ∈ out → A ≠ .unb) (hk : K (r.ren (x9 ids nx)) (ids ++ ex ++ c8 ids nx out) (r6 ids nx out)) : y9 P f avs H nx K := by
 refine ⟨[], avs, All2.refl (fun x => Xp.refl H _ x) avs, ?_⟩
 have e : (fun o => if o ∈ ([] : List Nat) then AObj.dead else H o) = H := by funext o; simp
 rw [e]
 exact zA9 ids ex sp h1 h2 h3 h4 h5 h6 h7 hk
theorem All2.map {R : AV → AV → Prop} {f : AV → AV} : ∀ {xs : List AV}, (∀ x, x ∈ xs → R (f x) x) → All2 R (xs.map f) xs
 | [], _ => .nil
 | x :: r, h => .cons (h x (by simp)) (All2.map (fun y hy => h y (by simp [hy])))
theorem zEM {P : Program} {f : FuncId} {avs : List AV} {H : Nat → AObj} {nx : Nat} {K : Cont} (h : H5 P f (avs.map fun x => (zNH H 3 x).1) (fun o => if o ∈ (avs.map fun x => (zNH H 3 x).2).flatten then .dead else H o) nx
  (fun v rd wr => K v ((avs.map fun x => (zNH H 3 x).2).flatten ++ rd) (u6 (avs.map fun x => (zNH H 3 x).2).flatten ++ wr))) : y9 P f avs H nx K :=
 ⟨_, _, All2.map (fun x hx => H9 H _ 3 x (fun o ho => List.mem_flatten.2 ⟨_, List.mem_map.2 ⟨x, hx, rfl⟩, ho⟩)), h⟩
attribute [go_sem] fpsF
end Go.Abs

namespace Go.Abs
open Go
def andO (a b : Option Bool) : Option Bool := a.bind fun r => if r = true then b else some false
def eqV (P : Program) : Nat → TypeId → List Value → List Value → Option Bool
  | 0, _, _, _ => none
  | d + 1, t, xs, ys => match P.underlying t, xs, ys with
    | some (.int _), [.int k a], [.int k' b] => if k = k' then some (a == b) else none
    | some .bool, [.bool a], [.bool b] => some (a == b)
    | some .string, [.string a], [.string b] => some (a == b)
    | some (.struct fs), xs, ys => if P.stoodInHeld t = true then none else
        fs.toList.foldr (fun f acc => if f.name = "_" then none else match sizeT P f.type with
          | some n => if f.offset + n ≤ xs.length ∧ f.offset + n ≤ ys.length then andO (eqV P d f.type ((xs.drop f.offset).take n) ((ys.drop f.offset).take n)) acc else none
          | none => none) (some true)
    | _, _, _ => none
def i3 (P : Program) (t : TypeId) (xs : List Value) : Value := match P.underlying t with
 | some (.struct _) => .agg xs.toArray
 | _ => xs.getD 0 undef
theorem F0 {P : Program} {w : World} {t n off : Nat} {xs : List Value} {u : TypeDesc} (hu : P.underlying t = some u) (hn : sizeT P t = some n) (hp : (∃ fs, u = .struct fs) ∨ ((∀ fs, u ≠ .struct fs) ∧ (∀ m e, u ≠ .array m e) ∧ off < xs.length ∧ 0 < n)) :
    (part t xs.toArray off).run P w = .ok (i3 P t ((xs.drop off).take n)) w := by
  rcases hp with ⟨fs, rfl⟩ | ⟨h1, h2, h3, h4⟩
  · have : r5 P t = some true := by unfold r5; rw [hu]
    obtain ⟨e, hp⟩ := F8 (P := P) (w := w) (vs := xs.toArray) (off := off) this
    rw [hp]
    simp only [if_true, i3, hu, Sem.run_bind, l7 hn, Result.andThen_ok, Sem.run_pure]
    congr 2
    apply Array.ext'
    simp [Array.toList_extract, List.extract]
  · have : r5 P t = some false := by
      unfold r5; rw [hu]
      cases u with
      | struct fs => exact absurd rfl (h1 fs)
      | array m e => exact absurd rfl (h2 m e)
      | _ => rfl
    obtain ⟨e, hp⟩ := F8 (P := P) (w := w) (vs := xs.toArray) (off := off) this
    rw [hp]
    have hv : i3 P t ((xs.drop off).take n) = xs[off] := by
      unfold i3
      rw [hu]
      cases u with
      | struct fs => exact absurd rfl (h1 fs)
      | _ => simp [List.getD, List.getElem?_take, h4, h3]
    rw [hv]
    simp [h3]
theorem zBJ {P : Program} : ∀ (d : Nat) (t : TypeId) (xs ys : List Value) (r : Bool), eqV P d t xs ys = some r → ∀ (dd : Nat) (w : World), (Op.equalIn (dd + d) t (i3 P t xs) (i3 P t ys)).run P w = .ok r w
 | 0, t, xs, ys, r, h, _, _ => by simp [eqV] at h
 | d + 1, t, xs, ys, r, h, dd, w => by
  unfold eqV at h
  split at h
  ·rename_i k0 k a k' b hu
   split at h
   ·rename_i hk; subst hk
    cases h
    have e : ∀ v : Value, i3 P t [v] = v := fun v => by simp [i3, hu]
    rw [e, e]
    exact run_equalIn_int w (dd + d) t k k0 a b hu
   ·cases h
  ·rename_i a b hu
   cases h
   have e : ∀ v : Value, i3 P t [v] = v := fun v => by simp [i3, hu]
   rw [e, e]
   exact run_equalIn_bool' w (dd + d) t a b hu
  ·rename_i a b hu
   cases h
   have e : ∀ v : Value, i3 P t [v] = v := fun v => by simp [i3, hu]
   rw [e, e, beq_toListBytes]
   exact run_equalIn_string w (dd + d) t a b hu
  ·rename_i xs ys _ _ _ fs hu
   split at h
   ·cases h
   ·rename_i hst
    have hf : P.fieldsOf t = fs := by unfold Program.fieldsOf; rw [hu]
    have hv : ∀ zs : List Value, i3 P t zs = .agg zs.toArray := fun zs => by simp [i3, hu]
    rw [hv, hv, show dd + (d + 1) = (dd + d) + 1 from rfl, run_equalIn_struct w (dd + d) t _ _ (by rw [hf]; exact hu) (by simpa using hst), hf]
    generalize fs.toList = l at h
    clear hf hu
    induction l generalizing r with
    | nil => simp at h; subst h; simp [Op.eqFields]
    | cons f l ih =>
     simp only [List.foldr_cons] at h
     split at h
     ·cases h
     ·rename_i hn
      cases hs : sizeT P f.type with
      | none => rw [hs] at h; cases h
      | some n =>
       rw [hs] at h
       simp only at h
       split at h
       ·rename_i hfit
        cases hr : eqV P d f.type ((xs.drop f.offset).take n) ((ys.drop f.offset).take n) with
        | none => rw [hr] at h; cases h
        | some r1 =>
         rw [hr] at h
         have hpart : ∀ zs : List Value, f.offset + n ≤ zs.length → (part f.type zs.toArray f.offset).run P w = .ok (i3 P f.type ((zs.drop f.offset).take n)) w := fun zs hz => by
          have hd : d ≠ 0 := fun e => by subst e; simp [eqV] at hr
          obtain ⟨d', rfl⟩ := Nat.exists_eq_succ_of_ne_zero hd
          unfold eqV at hr
          have h1 : ∀ {v : Value} {l : List Value}, l = [v] → l = (xs.drop f.offset).take n → 0 < n := fun {v l} e1 e2 => by
           rcases Nat.eq_zero_or_pos n with h0 | h0
           ·subst h0; rw [e1] at e2; simp at e2
           ·exact h0
          split at hr
          ·rename_i hu' hx _; have := h1 rfl hx.symm; exact F0 hu' hs (.inr ⟨fun _ => by simp, fun _ _ => by simp, by omega, this⟩)
          ·rename_i hu' hx _; have := h1 rfl hx.symm; exact F0 hu' hs (.inr ⟨fun _ => by simp, fun _ _ => by simp, by omega, this⟩)
          ·rename_i hu' hx _; have := h1 rfl hx.symm; exact F0 hu' hs (.inr ⟨fun _ => by simp, fun _ _ => by simp, by omega, this⟩)
          ·rename_i hu'; exact F0 hu' hs (.inl ⟨_, rfl⟩)
          ·cases hr
         have IH := zBJ d f.type _ _ _ hr dd w
         simp only [Op.eqFields, ne_eq, hn, not_false_eq_true, if_true, Sem.run_bind, hpart xs hfit.1, hpart ys hfit.2, Result.andThen_ok, IH]
         cases r1 with
         | false => simp [andO] at h; subst h; simp
         | true =>
          simp [andO] at h
          simpa using ih r h
       ·cases h
  ·cases h
theorem zDV {P : Program} {t d : Nat} {xs ys : List Value} {r : Bool} {fs : Array Field} (hd : d ≤ 10000) (hu : P.underlying t = some (.struct fs)) (hg : P.eqGuardType P.depth t = false) (h : eqV P d t xs ys = some r) : M1 P t xs ys r := by
 intro x y w
 have hv : ∀ zs : List Value, i3 P t zs = .agg zs.toArray := fun zs => by simp [i3, hu]
 have key := zBJ d t xs ys r h (10000 - d) w
 rw [hv, hv, show 10000 - d + d = 10000 by omega] at key
 refine ⟨?_, ?_⟩
 ·rw [Sem.run_bind, run_eqGuard_agg w .eql t x y _ _ hg, Result.andThen_ok, run_eql_struct, key]; rfl
 ·rw [Sem.run_bind, run_eqGuard_agg w .neq t x y _ _ hg, Result.andThen_ok, run_neq_struct, key]; rfl
def zOV (P : Program) (t : TypeId) : Bool := I8 P t && !(P.eqGuardType P.depth t)
theorem eqC_V {P : Program} {t : Nat} {xs ys : List Value} {r : Bool} (ht : zOV P t = true) (h : eqV P 5 t xs ys = some r) : eqC P t xs ys = some r := by
 unfold zOV I8 at ht
 simp only [Bool.and_eq_true, Bool.not_eq_true'] at ht
 obtain ⟨h1, h2⟩ := ht
 split at h1
 ·rename_i fs hu
  exact zEu (zDV (by omega) hu h2 h)
 ·cases h1
end Go.Abs

namespace Go.Abs
open Go
abbrev FR (l : Nat) : Fence := Fence.wide.inRound l
theorem zEN {l n : Nat} {P : Program} {f : FuncId} {args : Array Value} {w : World} {R : Ending → World → Prop} (h : Calls P f args w R) : CallsIn (FR l) n P f args w R :=
 CallsIn.inRound l (callsIn_wide.2 h)
theorem zHE {l n : Nat} {P : Program} {row : String} {args : Array Value} {w : World} {R : Value → World → Prop} (h : Rows P row args w R) : RowsIn (FR l) n P row args w R :=
 fun c cs _ => let ⟨v, w', r, s⟩ := h c cs; ⟨v, w', r, stepsIn_wide.2 s⟩
theorem zHF {n : Nat} {P : Program} {row : String} {args : Array Value} {w : World} {R : Value → World → Prop} (h : Rows P row args w R) : RowsIn Fence.wide n P row args w R :=
 fun c cs _ => let ⟨v, w', r, s⟩ := h c cs; ⟨v, w', r, stepsIn_wide.2 s⟩
theorem zJC {P : Program} {o : Oper} {a : Act} {next : Act → World → Prop} {Q : Exit → Act → World → Prop} {x : Result Next} (h : o.upon P a next Q x) : o.uponIn Fence.wide 0 P a next Q x := by
  cases x with
  | ok x w' => cases x <;> first
      | exact h
      | exact h.elim
      | exact ⟨fun h => by simp [Fence.wide] at h, callsIn_wide.2 h⟩
      | exact ⟨fun h => by simp [Fence.wide] at h, zHF h⟩
  | halt x w' => cases x <;> first | exact h | exact h.elim
theorem zJB {l : Nat} {P : Program} {o : Oper} {a : Act} {next : Act → World → Prop} {Q : Exit → Act → World → Prop} {x : Result Next} (h : o.upon P a next Q x) : o.uponIn (FR l) 0 P a next Q x := by
  cases x with
  | ok x w' => cases x <;> first
      | exact h
      | exact h.elim
      | exact ⟨fun h => by simp [FR, Fence.wide] at h, zEN h⟩
      | exact ⟨fun h => by simp [FR, Fence.wide] at h, zHE h⟩
  | halt x w' => cases x <;> first | exact h | exact h.elim
theorem zBL {P : Program} {o : Oper} {ev : Operand → AV} {H : Nat → AObj} {nx : Nat} {K : Cont} (h : zNT P o ev H nx K) : ∀ c, o.op ≠ .defer c := by
 intro c e
 unfold zNT at h
 rw [e] at h
 exact h
theorem zOL {P : Program} {o : Oper} {a : Act} {w : World} {next : Act → World → Prop} {Q : Exit → Act → World → Prop} (h : o.wp P a w next Q) : o.wpIn Fence.wide 0 P a w next Q :=
 ⟨fun _ _ => trivial, by rw [Fence.wide_round, Oper.semAt_none]; exact zJC h⟩
theorem zDO {l : Nat} {P : Program} {o : Oper} {a : Act} {w : World} {next : Act → World → Prop} {Q : Exit → Act → World → Prop} (hd : ∀ c, o.op ≠ .defer c) (h : o.wp P a w next Q) : o.wpIn (FR l) 0 P a w next Q :=
 ⟨fun _ _ => trivial, by rw [Oper.semAt_eq _ _ _ hd]; exact zJB h⟩
section
variable {P : Program} {E : Env}
theorem zAN {l : Nat} {all : List Oper} {K : AS → List Touch → Prop} {Q : Exit → Act → World → Prop} (hK : ∀ σ ts a w, K σ ts → St E σ a w → Q .normal a w) :
  ∀ (ops : List Oper) (σ : AS) (ts : List Touch) (a : Act) (w : World), y4 P all K ops σ ts → St E σ a w → wpListIn (FR l) 0 P all.toArray Q ops a w
 | [], σ, ts, a, w, h, hs => hK σ ts a w h hs
 | o :: rest, σ, ts, a, w, h, ⟨I, loc, hs⟩ => by
  unfold wpListIn
  rcases T3 hs h with ⟨hw, hd, he⟩ | ⟨hw, hd, hr⟩
  ·rw [if_pos hw]
   exact zDO (zBL he) (L3 hs he (fun d e => by rw [e] at hd; exact hd) (fun v rd wr a' w' hk hst => zAN hK rest _ _ a' w' hk hst))
  ·rw [hw, if_neg (by simp)]
   exact ⟨fun _ _ => trivial, zAN hK rest _ _ _ _ hr ⟨I, loc, hs.putD Y5 (fun d e => by rw [e] at hd; exact hd)⟩⟩
theorem Y4 {all : List Oper} {K : AS → List Touch → Prop} {Q : Exit → Act → World → Prop} {post : List Oper} (hK : ∀ σ ts a w, K σ ts → St E σ a w → wpListIn Fence.wide 0 P all.toArray Q post a w) :
  ∀ (ops : List Oper) (σ : AS) (ts : List Touch) (a : Act) (w : World), y4 P all K ops σ ts → St E σ a w → wpListIn Fence.wide 0 P all.toArray Q (ops ++ post) a w
 | [], σ, ts, a, w, h, hs => hK σ ts a w h hs
 | o :: rest, σ, ts, a, w, h, ⟨I, loc, hs⟩ => by
  rw [List.cons_append]
  unfold wpListIn
  rcases T3 hs h with ⟨hw, hd, he⟩ | ⟨hw, hd, hr⟩
  ·rw [if_pos hw]
   exact zOL (L3 hs he (fun d e => by rw [e] at hd; exact hd) (fun v rd wr a' w' hk hst => Y4 hK rest _ _ a' w' hk hst))
  ·rw [hw, if_neg (by simp)]
   exact ⟨fun _ _ => trivial, Y4 hK rest _ _ _ _ hr ⟨I, loc, hs.putD Y5 (fun d e => by rw [e] at hd; exact hd)⟩⟩
def HoldR (l : Nat) (P : Program) (E : Env) (c : Code) (Q : Exit → AS → Prop) (σ : AS) : Prop := ∀ a w, St E σ a w → c.wpIn (FR l) 0 P (zNU E Q) a w
end
section
variable {l : Nat} {P : Program} {E : Env} {Q : Exit → AS → Prop} {σ : AS}
theorem HoldR.mono {c : Code} {Q' : Exit → AS → Prop} (h : HoldR l P E c Q σ) (hq : ∀ e σ, Q e σ → Q' e σ) : HoldR l P E c Q' σ :=
 fun a w hs => wpIn_mono (h a w hs) (fun e _ _ ⟨σ', h1, h2⟩ => ⟨σ', hq e σ' h1, h2⟩)
theorem zFj {x y : Code} (h : HoldR l P E x (q6 (HoldR l P E y Q) Q) σ) : HoldR l P E (.seq x y) Q σ := fun a w hs =>
 wpIn_seq (wpIn_mono (h a w hs) (fun e a w ⟨σ', h1, h2⟩ => by
  cases e with
  | normal => exact h1 a w h2
  | _ => exact ⟨σ', h1, h2⟩))
theorem zFk (h : Q .normal σ) : HoldR l P E .skip Q σ := fun _ _ hs => wpIn_skip ⟨σ, h, hs⟩
theorem zFh {id : Nat} (h : Q (.exit id) σ) : HoldR l P E (.exit id) Q σ := fun _ _ hs => wpIn_exit ⟨σ, h, hs⟩
theorem zFf {id : Nat} {c : Code} (h : HoldR l P E c (z8 id Q) σ) : HoldR l P E (.block id c) Q σ := fun a w hs =>
 wpIn_block (wpIn_mono (h a w hs) (fun e a w ⟨σ', h1, h2⟩ => by
  cases e with
  | exit j =>
   simp only [z8] at h1
   simp only [Exit.inBlock]
   split
   ·rename_i hj; rw [if_pos hj] at h1; exact ⟨σ', h1, h2⟩
   ·rename_i hj; rw [if_neg hj] at h1; exact ⟨σ', h1, h2⟩
  | _ => exact ⟨σ', h1, h2⟩))
theorem zFg {c : Operand} {x y : Code} {b : Bool} (hc : σ.ev c = .raw (.bool b)) (ht : b = true → HoldR l P E x Q σ) (hf : b = false → HoldR l P E y Q σ) : HoldR l P E (.cond c x y) Q σ := fun a w hs => by
 obtain ⟨I, loc, hs'⟩ := hs
 have hv := hs'.ev c
 rw [hc] at hv
 exact wpIn_cond_split hv.raw_eq (fun e => ht e a w ⟨I, loc, hs'⟩) (fun e => hf e a w ⟨I, loc, hs'⟩)
theorem zFi {id : Nat} {ops : List Oper} (h : y4 P ops (fun σ' _ => Q .normal σ') ops σ []) : HoldR l P E (.region id ops.toArray false) Q σ := fun a w hs =>
 wpIn_region_list (zAN (fun σ' _ a' w' h1 h2 => ⟨σ', h1, h2⟩) ops σ [] a w h hs)
end
def N0 (tmps : Array Value) (ps : Array Tmp) (vs : Array Value) : Array Value := (ps.zip vs).foldl (fun tmps (t, a) => tmps.setIfInBounds t a) tmps
def roundC (P : Program) (loc : Nat → Loc) (vs : Array Value) (w : World) (R : Ending → World → Prop) : Prop :=
 ∃ l c r, loc 0 = .blk l c ∧ w.heap[l]? = some (.loop r) ∧ vs.size = r.params.size ∧ RoundIn Fence.wide 0 P l r.fn (N0 r.tmps r.params vs) r.assign r.body w R
theorem roundC.mono {P : Program} (loc : Nat → Loc) (vs : Array Value) (w : World) (R R' : Ending → World → Prop) (h : ∀ e w', R e w' → R' e w') (hc : roundC P loc vs w R) : roundC P loc vs w R' :=
 let ⟨l, c, r, h1, h2, h3, h4⟩ := hc
 ⟨l, c, r, h1, h2, h3, h4.mono h⟩
def e7 (P : Program) (args : List AV) (fp : List AObj) (r : AV) (out : List AObj) : Prop := zAt (roundC P) args fp r out
def d8 (env : List (Nat × AV)) : List Tmp → List AV → List (Nat × AV)
 | t :: ts, x :: xs => d8 ((t, x) :: env) ts xs
 | _, _ => env
theorem zCb {w : World} {I : Nat → Prop} {loc : Nat → Loc} {n : Nat} : ∀ (ts : List Tmp) (xs : List AV) (vs : List Value) (env : List (Nat × AV)) (tmps : Array Value), tmps.size = n → (∀ t, t ∈ ts → t < n) → (∀ t, VR w I loc (lkV env t) (tmps.getD t undef)) →
  xs.length = vs.length → (∀ i (h : i < xs.length) (h' : i < vs.length), VR w I loc xs[i] vs[i]) →
  ((ts.zip vs).foldl (fun tmps (p : Tmp × Value) => tmps.setIfInBounds p.1 p.2) tmps).size = n ∧ ∀ t, VR w I loc (lkV (d8 env ts xs) t) (((ts.zip vs).foldl (fun tmps (p : Tmp × Value) => tmps.setIfInBounds p.1 p.2) tmps).getD t undef)
 | [], xs, vs, env, tmps, hn, _, he, _, _ => by
  refine ⟨by simpa using hn, fun t => ?_⟩
  have : d8 env [] xs = env := by cases xs <;> rfl
  rw [this]; simpa using he t
 | t :: ts, [], [], env, tmps, hn, _, he, _, _ => ⟨by simpa using hn, fun t => by simpa [d8] using he t⟩
 | t :: ts, x :: xs, v :: vs, env, tmps, hn, ht, he, hl, hx => by
  have h0 : t < n := ht t (by simp)
  simp only [List.zip_cons_cons, List.foldl_cons, d8]
  refine zCb ts xs vs ((t, x) :: env) (tmps.setIfInBounds t v) (by simpa using hn) (fun u hu => ht u (by simp [hu])) (fun u => ?_) (by simpa using hl) (fun i h h' => by have := hx (i + 1) (by simpa using h) (by simpa using h'); simp only [List.getElem_cons_succ] at this; exact this)
  simp only [lkV]
  by_cases e : t = u
  ·subst e
   rw [if_pos rfl]
   have : (tmps.setIfInBounds t v).getD t undef = v := by
    have ht' : t < tmps.size := by rw [hn]; exact h0
    simp [ht']
   rw [this]
   have := hx 0 (by simp) (by simp)
   simp only [List.getElem_cons_zero] at this
   exact this
  ·rw [if_neg e]
   have : (tmps.setIfInBounds t v).getD u undef = tmps.getD u undef := by simp [Array.getElem?_setIfInBounds, e]
   rw [this]; exact he u
 | t :: ts, [], v :: vs, _, _, _, _, _, h, _ => by simp at h
 | t :: ts, x :: xs, [], _, _, _, _, _, h, _ => by simp at h
def zOb : Exit → Option (Option Code)
 | .normal => some none
 | .ret => some (some .ret)
 | .exit id => some (some (.exit id))
 | .goto t => some (some (.goto t))
 | _ => none
def X2 : Option (Option Code) → LoopState
 | none => .busy
 | some none => .ready
 | some (some _) => .done
theorem or_loop {w : World} {I : Nat → Prop} {loc : Nat → Loc} {o : Nat} {L : LoopK} {env : List (Nat × AV)} {p : Option (Option Code)} :
  OR w I loc o (.loopo L env p) ↔ ∃ b tmps ds, loc o = .blk b 0 ∧ w.heap[b]? = some (.loop { state := X2 p, pending := p.getD none, fn := L.fn, tmps := tmps, params := L.params, assign := L.assign, body := L.body, defers := ds }) ∧ tmps.size = L.n ∧ ∀ t, VR w I loc (lkV env t) (tmps.getD t undef) := by
 cases p with
 | none => exact Iff.rfl
 | some q => cases q <;> exact Iff.rfl
theorem SR.loopSet {E : Env} {I : Nat → Prop} {loc : Nat → Loc} {σ : AS} {a : Act} {w : World} (h : SR E I loc σ a w) {o : Nat} {L : LoopK} {env : List (Nat × AV)} {p : Option (Option Code)} (ho : σ.obj o = .loopo L env p) (p' : Option (Option Code)) :
  ∃ b r, loc o = .blk b 0 ∧ w.heap[b]? = some (.loop r) ∧ r.fn = L.fn ∧ r.params = L.params ∧ r.assign = L.assign ∧ r.body = L.body ∧ r.state = X2 p ∧ r.pending = p.getD none ∧
   r.tmps.size = L.n ∧ (∀ t, VR w I loc (lkV env t) (r.tmps.getD t undef)) ∧
   SR E I loc (σ.setO o (.loopo L env p')) a (w.putObj b (.loop { r with state := X2 p', pending := p'.getD none })) := by
 have hob := h.objs o
 rw [ho] at hob
 obtain ⟨b, tmps, ds, h1, h2, h3, h4⟩ := or_loop.1 hob
 have hb : b < w.heap.size := (Array.getElem?_eq_some_iff.1 h2).1
 have hsep := (h.sep o b 0 (by rw [ho]; rfl) h1).1
 refine ⟨b, _, h1, h2, rfl, rfl, rfl, rfl, rfl, rfl, h3, h4, ?_⟩
 refine h.writeG (w' := w.putObj b (.loop { state := X2 p', pending := p'.getD none, fn := L.fn, tmps := tmps, params := L.params, assign := L.assign, body := L.body, defers := ds })) (A := .loopo L env p') (by rw [ho]; rfl) h1 rfl rfl rfl (by simp) (fun k hk => T4 hk) ?_ (by simp)
 refine or_loop.2 ⟨b, tmps, ds, h1, World.putObj_heap_same hb, h3, fun t => (h4 t).mono (fun k hk => T4 (r := b) (fun e => hsep (by rw [← e]; exact hk))) (fun _ x => x) (fun _ _ => rfl)⟩
def zOZ (n : Nat) (r : AV) (out : List AObj) (σ : AS) : Prop :=
 ∃ m ex, XpF σ.obj m ex r r ∧ objsF σ m ex out m ∧ Y2 (V7 out m) = true ∧ ex.all (fun o => !m.contains (some o)) = true ∧ (List.range n).all (fun k => m[k]? == some (some k)) = true
theorem S9 {P : Program} {L : LoopK} {env : List (Nat × AV)} {rest : List AObj} {args : List AV} {out : List AObj} {j : Option Code} (hp : L.params.toList.all (fun t => decide (t < L.n)) = true) (hl : args.length = L.params.size)
  (h : ∀ E l, E.n = rest.length + 1 → HoldR l P E L.assign (fun e σ1 => e = .normal ∧ σ1.obj 0 = .loopo L env (some none) ∧ HoldR l P E L.body (fun e σ2 => σ2.obj 0 = .loopo L env none ∧ zOb e = some j ∧ zOZ (rest.length + 1) (.raw (.bool j.isNone)) out (σ2.setO 0 (.loopo L env (some j))))
   (σ1.setO 0 (.loopo L env none))) ⟨L.n, d8 env L.params.toList args, zNL 0 (.loopo L env (some none) :: rest)⟩) : e7 P args (.loopo L env (some none) :: rest) (.raw (.bool j.isNone)) out := by
 intro w I loc vs hs hvl hv
 have hb0 : (Go.Abs.hs (.loopo L env (some none) :: rest)).obj 0 = .loopo L env (some none) := by rw [X0]; rfl
 obtain ⟨b, r, g1, g2, g3, g4, g5, g6, g7, g8, g9, g10, _⟩ := hs.loopSet hb0 none
 have hsz : vs.size = r.params.size := by rw [g4, hvl, hl]
 refine ⟨b, 0, r, g1, g2, hsz, ?_⟩
 have hpt : ∀ t, t ∈ L.params.toList → t < L.n := fun t ht => by
  rw [List.all_eq_true] at hp
  have := hp t ht
  simpa using this
 obtain ⟨q1, q2⟩ := zCb (w := w) (I := I) (loc := loc) L.params.toList args vs.toList env r.tmps g9 hpt g10 (by simpa using hvl.symm) (fun i h h' => by have := hv i h (by simpa using h'); simpa using this)
 have hfold : N0 r.tmps r.params vs = (L.params.toList.zip vs.toList).foldl (fun tmps (p : Tmp × Value) => tmps.setIfInBounds p.1 p.2) r.tmps := by
  unfold N0
  rw [g4, ← Array.foldl_toList, Array.toList_zip]
 rw [hfold]
 have hst : SR (e9 w I (rest.length + 1) loc) I loc ⟨L.n, d8 env L.params.toList args, zNL 0 (.loopo L env (some none) :: rest)⟩ { tmps := (L.params.toList.zip vs.toList).foldl (fun tmps (p : Tmp × Value) => tmps.setIfInBounds p.1 p.2) r.tmps, defers := [] } w :=
  ⟨.nil, q1, q2, hs.objs, hs.inj, hs.imm, hs.sep, hs.fr, hs.base, hs.top, hs.keep⟩
 have hrun := h (e9 w I (rest.length + 1) loc) b rfl _ w ⟨I, loc, hst⟩
 rw [g5, g6]
 refine roundIn_of_wpIn trivial (wpIn_mono hrun ?_)
 rintro e a1 w1 ⟨σ1, ⟨rfl, k1, k2⟩, I1, loc1, hs1⟩
 obtain ⟨b1, r1, m1, m2, m3, m4, m5, m6, m7, m8, m9, m10, m11⟩ := hs1.loopSet k1 none
 have hb1 : b1 = b := by
  have : loc1 0 = loc 0 := (hs1.keep 0 (Nat.succ_pos _)).1
  rw [m1, g1] at this; cases this; rfl
 subst hb1
 refine ⟨_, run_beginRound m2 (by rw [m7]; rfl), ?_⟩
 have hw : w1.putObj b1 (.loop { r1 with state := .busy }) = w1.putObj b1 (.loop { r1 with state := X2 none, pending := Option.getD (none : Option (Option Code)) none }) := by
  have : r1.pending = none := m8
  simp only [X2, Option.getD_none, ← this]
 rw [hw]
 refine wpIn_mono (k2 a1 _ ⟨I1, loc1, m11⟩) ?_
 rintro e a2 w2 ⟨σ2, ⟨k3, k4, m, ex, t1, t2, t3, t4, t5⟩, I2, loc2, hs2⟩
 obtain ⟨b2, r2, n1, n2, n3, n4, n5, n6, n7, n8, n9, n10, n11⟩ := hs2.loopSet k3 (some j)
 have hb2 : b2 = b1 := by
  have : loc2 0 = loc 0 := (hs2.keep 0 (Nat.succ_pos _)).1
  rw [n1, g1] at this; cases this; rfl
 subst hb2
 have hend : (Instr.endRound b2 j).run P w2 = .ok (.bool j.isNone) (w2.putObj b2 (.loop { r2 with state := X2 (some j), pending := (some j).getD none })) := by
  rw [run_endRound j n2]
  cases j <;> rfl
 have hweak : Weak (rest.length + 1) m ex (σ2.setO 0 (.loopo L env (some j))) σ2.n [] out := ⟨rfl, trivial, t2, t3, t4, t5⟩
 have hsr := WK.sound n11 hweak.wk.1 rfl hweak.wk.2
 have hval := Xp.sound n11 (XpF.sound t1) (.pure (.raw (.bool j.isNone) rfl))
 have hlen : rest.length + 1 ≤ out.length := by
  have h7 := (t2.sound).1
  rw [List.all_eq_true] at t5
  have := t5 rest.length (by simp)
  have hm : m[rest.length]? = some (some rest.length) := by simpa using this
  have := (List.getElem?_eq_some_iff.1 hm).1
  omega
 have hR : ∃ v I' loc', Ending.returned (.bool j.isNone) = .returned v ∧ Post w I loc (rest.length + 1) (.raw (.bool j.isNone)) out v (w2.putObj b2 (.loop { r2 with state := X2 (some j), pending := (some j).getD none })) I' loc' := ⟨_, _, _, rfl, ⟨hsr.bare, hval, hlen⟩⟩
 cases e with
 | normal => cases k4; exact ⟨_, _, hend, hR⟩
 | ret => cases k4; exact ⟨_, _, hend, hR⟩
 | exit id => cases k4; exact ⟨_, _, hend, hR⟩
 | goto t => cases k4; exact ⟨_, _, hend, hR⟩
 | panic c => cases k4
 | outgrown => cases k4
end Go.Abs

namespace Go.Abs
open Go
def S8 (P : Program) (y : AV) (avs : List AV) (H : Nat → AObj) (nx : Nat) (K : Cont) : Prop :=
 ∃ oid ids ex args fp r out, y = .yld oid ∧ ids.head? = some oid ∧ MetX (roundC P) avs H nx ids ex args fp r out ∧ K (r.ren (x9 ids nx)) (ids ++ ex ++ c8 ids nx out) (r6 ids nx out)
section
variable {P : Program} {E : Env} {I : Nat → Prop} {loc : Nat → Loc} {σ : AS} {a : Act} {w : World}
theorem zJT (hs : SR E I loc σ a w) {o : Oper} {fo : Operand} {args : Array Operand} {ts : Array TypeId} (hop : o.op = .call ⟨.value fo, args, ts⟩) {nx : Nat} {K : Cont}
  (h : S8 P (σ.ev fo) (args.toList.map σ.ev) σ.obj nx K) (hd : ∀ d, o.dst = some d → d < σ.n) {next : Act → World → Prop} {Q : Exit → Act → World → Prop}
  (hn : ∀ v rd wr a' w', K v rd wr → St E ((σ.writes wr).putD o.dst v) a' w' → next a' w') : o.wpIn Fence.wide 0 P a w next Q := by
 obtain ⟨oid, ids, ex, args', fp, r, out, hy, hh, hm, hK⟩ := h
 obtain ⟨g1, g2⟩ := Y8 hs args
 have hfo := hs.ev fo
 rw [hy] at hfo
 generalize hfv : a.eval fo = fv at hfo
 obtain ⟨l, c, lp, h1, h2, h3, h4⟩ := D7 (C := roundC P) roundC.mono hs g1 g2 hm
 cases hfo with
 | pure hp => cases hp
 | yld _ b c' hb =>
  have h0 : zNJ (u7 ids) loc 0 = loc oid := by
   cases ids with
   | nil => simp at hh
   | cons i r => simp at hh; subst hh; simp [zNJ, u7]
  rw [h0, hb] at h1
  cases h1
  refine ⟨fun _ _ => trivial, ?_⟩
  rw [Fence.wide_round, Oper.semAt_none]
  have hrun : (execOp a.eval o).run P w = .ok (.round l lp.fn (N0 lp.tmps lp.params (args.map a.eval)) lp.assign lp.body) w := by
   simp only [execOp, hop, resolve, hfv, Deferred.ofValue, Sem.run_bind, Sem.run_pure, Result.andThen_ok, invoke, Array.empty_append]
   exact run_yield h2 h3
  rw [hrun, Oper.uponIn_round]
  refine ⟨fun h => by simp [Fence.wide] at h, h4.mono ?_⟩
  rintro e w' ⟨v, I', loc', rfl, hsr, hvr, _⟩
  exact hn _ _ _ _ _ hK ⟨I', loc', hsr.putD hvr (fun d e => by rw [(f9 _ σ).1]; exact hd d e)⟩
theorem zFy {Q : Exit → AS → Prop} {id : Nat} {pre post : List Oper} {o : Oper} {fo : Operand} {args : Array Operand} {ts : Array TypeId} (hop : o.op = .call ⟨.value fo, args, ts⟩)
  (h : y4 P (pre ++ o :: post) (fun σ1 _ => p7 (pre ++ o :: post) σ1 o
   ((match o.dst with | some d => ltN d σ1.n | none => True) ∧ S8 P (σ1.ev fo) (args.toList.map σ1.ev) σ1.obj σ1.nx (fun v _ wr => y4 P (pre ++ o :: post) (fun σ' _ => Q .normal σ') post ((σ1.writes wr).putD o.dst v) []))
   ((match o.dst with | some d => ltN d σ1.n | none => True) ∧ y4 P (pre ++ o :: post) (fun σ' _ => Q .normal σ') post (σ1.putD o.dst (.tup [])) [])) pre σ []) : Hold P E (.region id (pre ++ o :: post).toArray false) Q σ := fun a w hs => by
 refine wpIn_wide.1 (wpIn_region_list (n := 0) ?_)
 have tail : ∀ (ops : List Oper) (σ : AS) (a : Act) (w : World), y4 P (pre ++ o :: post) (fun σ' _ => Q .normal σ') ops σ [] → St E σ a w → wpListIn Fence.wide 0 P (pre ++ o :: post).toArray (zNU E Q) ops a w := fun ops σ a w h hs => by
  have := Y4 (P := P) (E := E) (Q := zNU E Q) (post := []) (all := pre ++ o :: post) (fun σ' _ a' w' h1 h2 => (⟨σ', h1, h2⟩ : zNU E Q .normal a' w')) ops σ [] a w h hs
  simpa using this
 refine Y4 (post := o :: post) ?_ pre σ [] a w h hs
 rintro σ1 ts1 a1 w1 hg ⟨I1, loc1, hs1⟩
 unfold wpListIn
 rcases T3 hs1 hg with ⟨hw, hd, he⟩ | ⟨hw, hd, hr⟩
 ·rw [if_pos hw]
  exact zJT hs1 hop he (fun d e => by rw [e] at hd; exact hd) (fun v rd wr a' w' hk hst => tail post _ a' w' hk hst)
 ·rw [hw, if_neg (by simp)]
  exact ⟨fun _ _ => trivial, tail post _ _ _ hr ⟨I1, loc1, hs1.putD Y5 (fun d e => by rw [e] at hd; exact hd)⟩⟩
theorem SR.mark (h : SR E I loc σ a w) : SR E I loc σ { a with defers := { target := .collected w.heap.size, args := #[] } :: a.defers } (w.alloc (.deferred (some []))) := by
 have hI : ∀ b, I b → (w.alloc (.deferred (some []))).heap[b]? = w.heap[b]? := fun b hb => i4 _ _ _ (h.imm b hb)
 refine ⟨⟨?_, fun d hd => ?_⟩, h.size, fun t => (h.tmps t).mono hI (fun _ x => x) (fun _ _ => rfl), fun o => (h.objs o).mono hI (fun _ x => x) (fun _ _ => rfl) (fun e => h.un e) (fun hl b c hb => i4 _ _ _ ((h.objs o).lt hl hb)), h.inj, fun b hb => by have := h.imm b hb; simp; omega, h.sep, ?_, h.base, h.top, h.keep⟩
 ·simp only [List.map_cons, List.nodup_cons]
  refine ⟨fun hm => ?_, h.defers.1⟩
  obtain ⟨d, hd, e⟩ := List.mem_map.1 hm
  obtain ⟨r, rfl, h1, _⟩ := h.defers.2 d hd
  have := (Array.getElem?_eq_some_iff.1 h1).1
  simp at e; omega
 ·rcases List.mem_cons.1 hd with rfl | hd
  ·refine ⟨_, rfl, World.alloc_heap_new _ _, fun hi => by have := h.imm _ hi; omega, h.fr.size, fun o c hl e => ?_⟩
   have := (h.objs o).lt hl e; omega
  ·obtain ⟨r, rfl, h1, h2, h3, h4⟩ := h.defers.2 d hd
   have hr := (Array.getElem?_eq_some_iff.1 h1).1
   exact ⟨r, rfl, by rw [i4 _ _ _ hr]; exact h1, h2, h3, h4⟩
 ·exact h.fr.of_same rfl rfl rfl (by simp) (fun b hb _ => i4 _ _ _ (by have := h.fr.size; omega))
theorem zDX {x : AV} {v : Value} {caps : List AV} {vs : Array Value} (h0 : VR w I loc x v) (hl : caps.length = vs.size) (h : ∀ i (h : i < caps.length) (h' : i < vs.size), VR w I loc caps[i] vs[i]) :
  (x :: caps).length = (#[v] ++ vs).size ∧ ∀ i (h : i < (x :: caps).length) (h' : i < (#[v] ++ vs).size), VR w I loc (x :: caps)[i] (#[v] ++ vs)[i] := by
 refine ⟨by simp; omega, fun i h1 h2 => ?_⟩
 cases i with
 | zero =>
  have e : (#[v] ++ vs)[0] = v := by simp
  rw [e]; exact h0
 | succ i =>
  have hi : i < vs.size := by simp at h2; omega
  have e : (#[v] ++ vs)[i + 1] = vs[i] := by simp [Array.getElem_append]
  rw [e]; exact h i (by simpa using h1) hi
def zCc (P : Program) (E : Env) (Q : Exit → AS → Prop) (nx : Nat) (σ : AS) : Prop :=
 ∃ L env p, σ.obj nx = .loopo L env (some p) ∧ (match p with
  | none => Q .normal (σ.setO nx .dead)
  | some c => Hold P E c Q (σ.setO nx .dead))
theorem zFt {Q : Exit → AS → Prop} {g : Operand} {ps : Array Tmp} {assign body : Code} {f : FuncId} {caps : List AV} (hg : σ.ev g = .fn f caps) (hc : t7 P f = true) {nx : Nat} (hnx : σ.obj nx = .unb)
  (h : ∀ fn, ∃ nx', y9 P f (.yld nx :: caps) (σ.setO nx (.loopo ⟨fn, ps, assign, body, σ.n⟩ σ.env (some none))).obj nx' (fun _ _ wr => zCc P E Q nx ((σ.setO nx (.loopo ⟨fn, ps, assign, body, σ.n⟩ σ.env (some none))).writes wr))) :
  Hold P E (.rangeFunc g ps assign body) Q σ := fun a w ⟨I, loc, hs⟩ => by
 refine wpIn_wide.1 (wpIn_rangeFunc (n := 0) (fun fn _ => ?_))
 obtain ⟨nx', hcall⟩ := h fn
 have hs1 := hs.mark
 have hor : OR ((w.alloc (.deferred (some []))).alloc (.loop { state := .ready, pending := none, fn, tmps := a.tmps, params := ps, assign, body, defers := w.heap.size })) I (y6 loc nx (.blk (w.alloc (.deferred (some []))).heap.size 0)) nx (.loopo ⟨fn, ps, assign, body, σ.n⟩ σ.env (some none)) := by
  refine or_loop.2 ⟨_, a.tmps, w.heap.size, by simp only [y6, if_true], World.alloc_heap_new _ _, hs.size, fun t => ?_⟩
  exact (hs1.tmps t).mono (fun b hb => i4 _ _ _ (hs1.imm b hb)) (fun _ x => x) (fun o ho => by
   unfold y6; rw [if_neg]; rintro rfl; exact ho (hs.un hnx))
 have hs2 := hs1.born hnx (.loop { state := .ready, pending := none, fn, tmps := a.tmps, params := ps, assign, body, defers := w.heap.size }) hor
 have hsz : (w.alloc (.deferred (some []))).heap.size = w.heap.size + 1 := by simp
 rw [hsz] at hs2
 have henter := run_enterLoop_outer (P := P) (w := w) fn a.tmps ps assign body
 generalize ((w.alloc (.deferred (some []))).alloc (.loop { state := .ready, pending := none, fn, tmps := a.tmps, params := ps, assign, body, defers := w.heap.size })) = W at hs2 henter
 have hgv := hs2.ev g
 have hge : (σ.setO nx (.loopo ⟨fn, ps, assign, body, σ.n⟩ σ.env (some none))).ev g = .fn f caps := by rw [← hg]; cases g <;> rfl
 rw [hge] at hgv
 have hev : (({ a with defers := { target := .collected w.heap.size, args := #[] } :: a.defers } : Act)).eval g = a.eval g := by cases g <;> rfl
 rw [hev] at hgv
 generalize hfv : a.eval g = fv at hgv
 cases hgv with
 | pure hp => cases hp
 | fn _ _ vs q1 q2 =>
  obtain ⟨z1, z2⟩ := zDX (x := .yld nx) (v := .func (.yield (w.heap.size + 1)) #[] #[]) (.yld _ _ 0 (by simp only [y6, if_true])) q1 q2
  obtain ⟨r, rd, wr, hK, hcl⟩ := zA8 (vs := #[.func (.yield (w.heap.size + 1)) #[] #[]] ++ vs) hs2 z1 z2 hcall
  refine ⟨w.heap.size + 1, [{ target := .collected w.heap.size, args := #[] }], W, { target := .fn (.func f) vs, args := #[.func (.yield (w.heap.size + 1)) #[] #[]] }, W, f, #[.func (.yield (w.heap.size + 1)) #[] #[]] ++ vs, W, ?_, ?_, fun _ _ => trivial, ?_, ?_, ?_⟩
  ·rw [Fence.wide_round]; exact henter
  ·simp only [resolve, rangeCall, hfv, Deferred.ofValue, Sem.run_pure]
   simp [Act.eval]
  ·simp only [invoke]
   exact J7 hc _
  ·intro h; simp [Fence.wide] at h
  ·refine callsIn_wide.2 (Calls.mono hcl ?_)
   rintro e w' ⟨v, I', loc', rfl, hsr, hvr, hkeep⟩
   obtain ⟨L, env, p, ho, hp⟩ := hK
   obtain ⟨b, rc, g1, g2, g3, g4, g5, g6, g7, g8, g9, g10, _⟩ := hsr.loopSet ho none
   have hb : b = w.heap.size + 1 := by
    have := hkeep nx (by simp [y6])
    rw [g1] at this
    simp only [y6, if_true] at this
    cases this; rfl
   subst hb
   refine ⟨rc.pending, _, run_endLoop g2 (by rw [g7]; cases p <;> simp [X2]), ?_⟩
   have hsr2 : SR E I' loc' ((((σ.setO nx (.loopo ⟨fn, ps, assign, body, σ.n⟩ σ.env (some none))).writes wr)).setO nx .dead) { a with defers := { target := .collected w.heap.size, args := #[] } :: a.defers } (w'.putObj (w.heap.size + 1) (.loop { rc with state := .exhausted })) :=
    hsr.writeG (w' := w'.putObj (w.heap.size + 1) (.loop { rc with state := .exhausted })) (by rw [ho]; rfl) g1 rfl rfl rfl (by simp) (fun k hk => T4 hk) trivial (by simp)
   generalize (w'.putObj (w.heap.size + 1) (.loop { rc with state := .exhausted })) = W' at hsr2 ⊢
   rw [g8]
   cases p with
   | none => exact ⟨_, hp, I', loc', hsr2⟩
   | some c => exact wpIn_wide.2 (hp _ _ ⟨I', loc', hsr2⟩)
end
end Go.Abs

namespace Go.Abs
open Go
attribute [go_sem] G8 G9
section
variable {H : Nat → AObj} {m : List (Option Nat)} {ex : List Nat} {f : Nat → Nat} {n : Nat}
@[go_sem] theorem zJ3 (k o : Nat) : XpF H m ex (.yld k) (.yld o) ↔ m[k]? = some (some o) := by simp only [XpF]
@[go_sem] theorem zMf (o : Nat) : AV.ren f (.yld o) = .yld (f o) := by simp only [AV.ren]
@[go_sem] theorem zK5 (o : Nat) : zNH H (n + 1) (.yld o) = (.yld o, []) := rfl
end
section
variable {P : Program} {f : FuncId} {args : List AV} {fp : List AObj} {r : AV} {out : List AObj}
theorem zDY {w : World} {I : Nat → Prop} {loc : Nat → Loc} {v : Value} (h : VR w I loc (.list []) v) : ∃ a c, v = .slice a 0 c := by
 have hp := h.toPR (.list _)
 cases hp with
 | nil a c => exact ⟨a, c, rfl⟩
 | list b off cap sz _ C => exact ⟨_, _, rfl⟩
theorem zIs (h : ∀ a c, zNF P f (.raw (.slice a 0 c) :: args) fp r out) : zNF P f (.list [] :: args) fp r out := by
 intro w I loc vs hs hl hv
 have h0 : 0 < vs.size := by rw [hl]; simp
 have hv0 := hv 0 (by simp) h0
 simp only [List.getElem_cons_zero] at hv0
 obtain ⟨a, c, e⟩ := zDY hv0
 refine h a c w I loc vs hs (by simpa using hl) (fun i hi hi' => ?_)
 cases i with
 | zero => simp only [List.getElem_cons_zero]; rw [e]; exact .pure (.raw _ rfl)
 | succ i =>
  have := hv (i + 1) (by simpa using hi) hi'
  simp only [List.getElem_cons_succ] at this ⊢
  exact this
end
end Go.Abs

namespace Go.Abs
open Go
abbrev Str := List UInt8
abbrev sV (l : Str) : AV := .raw (.string ⟨l.toArray⟩)
@[go_sem, simp] theorem zKI (a b : List UInt8) : (⟨a.toArray⟩ : ByteArray) ++ ⟨b.toArray⟩ = ⟨(a ++ b).toArray⟩ := by
 apply ByteArray.ext
 rw [ByteArray.data_append]
 simp
@[go_sem, simp] theorem zKM (a : List UInt8) : (⟨a.toArray⟩ : ByteArray).size = a.length := by simp [ByteArray.size]
@[go_sem, simp] theorem zKJ (a : List UInt8) : (⟨a.toArray⟩ : ByteArray).data.toList = a := rfl
@[go_sem, simp] theorem zKN (a : List UInt8) : (⟨a.toArray⟩ : ByteArray).toList = a := by rw [ByteArray.toList_eq]
@[go_sem, simp] theorem zKK (a : List UInt8) (i j : Nat) : (⟨a.toArray⟩ : ByteArray).extract i j = ⟨((a.take j).drop i).toArray⟩ := by
 apply ByteArray.ext
 rw [ByteArray.data_extract]
 simp [List.extract, List.drop_take]
@[simp] theorem zKL (a b : List UInt8) : ((⟨a.toArray⟩ : ByteArray) = ⟨b.toArray⟩) ↔ a = b := by
 constructor
 ·intro h
  have := congrArg (fun s : ByteArray => s.data.toList) h
  simpa using this
 ·rintro rfl; rfl
theorem zEG (s : ByteArray) : ∃ l : List UInt8, s = ⟨l.toArray⟩ := ⟨s.data.toList, by simp⟩
theorem C3 {l : List UInt8} {i : Nat} (h : i < l.length) (ha : (l.getD i 0).toNat < 128) : Utf8.decode ⟨l.toArray⟩ i = ((l.getD i 0).toNat, 1) := by
 have e : (⟨l.toArray⟩ : ByteArray)[i]'(by simpa using h) = l.getD i 0 := by
  show l.toArray[i] = _
  simp [h]
 rw [decode_ascii (⟨l.toArray⟩ : ByteArray) i (by simpa using h) (by rw [e]; exact ha), e]
theorem zFd {l : List UInt8} {i : Nat} (h : i < l.length) : (⟨l.toArray⟩ : ByteArray).get! i = l.getD i 0 := by
 show l.toArray[i]! = _
 simp [h]
theorem zEo {l : List UInt8} {i : Nat} (h : i < l.length) (ha : 128 ≤ (l.getD i 0).toNat) : 128 ≤ (Utf8.decode ⟨l.toArray⟩ i).1 ∧ 1 ≤ (Utf8.decode ⟨l.toArray⟩ i).2 := by
 unfold Utf8.decode
 simp only [Nat.add_zero, zFd h]
 rw [if_neg (by omega)]
 repeat' split
 all_goals (first | (refine ⟨?_, by omega⟩; simp_all [Utf8.runeError]; done) | (refine ⟨?_, by omega⟩; simp_all [Utf8.runeError]; omega))
theorem zBH {n : Int} (h0 : 0 ≤ n) (h1 : n < 128) : Utf8.encode n = ⟨[UInt8.ofNat n.toNat].toArray⟩ := by
 unfold Utf8.encode
 have hv : Utf8.valid n = true := by unfold Utf8.valid; simp; omega
 simp only [hv, if_true]
 rw [if_pos (by omega)]
end Go.Abs

namespace Go.Abs
open Go Go.RowKit
theorem SR.grows {E : Env} {I : Nat → Prop} {loc : Nat → Loc} {σ : AS} {a : Act} {w w' : World} (h : SR E I loc σ a w) (ho : w'.os = w.os) (ht : w'.tape = w.tape) (hu : w'.output = w.output) (hz : w.heap.size ≤ w'.heap.size)
  (hk : ∀ k, k < w.heap.size → w'.heap[k]? = w.heap[k]?) (hd : W5 → w.drawn ≤ w'.drawn) : SR E I loc σ a w' := by
 have hI : ∀ b, I b → w'.heap[b]? = w.heap[b]? := fun b hb => hk b (h.imm b hb)
 exact ⟨h.defers.imp (fun r g1 g2 g3 g4 => ⟨by rw [hk r (Array.getElem?_eq_some_iff.1 g1).1]; exact g1, g2, g3, g4⟩), h.size, fun t => (h.tmps t).mono hI (fun _ x => x) (fun _ _ => rfl),
  fun o => (h.objs o).mono hI (fun _ x => x) (fun _ _ => rfl) (fun e => h.un e) (fun hl b c hb => hk b ((h.objs o).lt hl hb)), h.inj, fun b hb => by have := h.imm b hb; omega, h.sep,
  h.fr.of_same ho ht hu hz (fun b hb _ => hk b (by have := h.fr.size; omega)) hd, h.base, h.top, h.keep⟩
theorem zAM {w : World} {I : Nat → Prop} {loc : Nat → Loc} (vls : List Value) (vs : Array Value) (hl : vs.size = (vls.map AV.raw).length) (h : ∀ i (h : i < (vls.map AV.raw).length) (h' : i < vs.size), VR w I loc (vls.map AV.raw)[i] vs[i]) : vs = vls.toArray := by
 apply Array.ext
 ·simpa using hl
 ·intro i h1 h2
  have h3 : i < vls.length := by simpa using h2
  have k := h i (by simpa using h3) h1
  rw [List.getElem_map] at k
  simpa using k.raw_eq
theorem zIu {P : Program} {f : FuncId} (vls : List Value) (r : Value) (hr : r.oneCell' = true) (h : ∀ w, Calls P f vls.toArray w fun e w' => e = .returned r ∧ w' = w) : zNF P f (vls.map .raw) [] (.raw r) [] := by
 intro w I loc vs hs hv hargs
 obtain rfl := zAM vls vs hv hargs
 refine (h w).mono ?_
 rintro e w' ⟨rfl, rfl⟩
 exact ⟨_, I, loc, rfl, ⟨by simpa using hs, .pure (.raw _ hr), by simp⟩⟩
theorem zIq {P : Program} {f : FuncId} (hM : ¬ W5) (vls : List Value) (r : Value) (hr : r.oneCell' = true) (h : ∀ w, Calls P f vls.toArray w fun e w' => e = .returned r ∧ Below w.heap.size w w') : zNF P f (vls.map .raw) [] (.raw r) [] := by
 intro w I loc vs hs hv hargs
 obtain rfl := zAM vls vs hv hargs
 refine (h w).mono ?_
 rintro e w' ⟨rfl, hb⟩
 exact ⟨_, I, loc, rfl, ⟨by simpa using hs.grows hb.os hb.tape hb.output hb.size hb.block (fun m => absurd m hM), .pure (.raw _ hr), by simp⟩⟩
end Go.Abs

namespace Go.Abs
open Go Go.RowKit
def Z7 (w : World) : Prop := ∀ p, p ∈ H0 → w.cell? ⟨p.1, 0, none⟩ = some p.2
theorem SR.laidW {E : Env} {I : Nat → Prop} {loc : Nat → Loc} {σ : AS} {a : Act} {w : World} (h : SR E I loc σ a w) : Z7 w := fun p hp => by
 obtain ⟨l1, l2⟩ := h.fr.laid p hp
 have hlt : p.1 < E.w0.heap.size := by
  rcases Nat.lt_or_ge p.1 E.w0.heap.size with h | h
  ·exact h
  ·simp [World.cell?, Array.getElem?_eq_none h] at l1
 exact (H6 (h.fr.block p.1 hlt l2) 0).trans l1
abbrev zON (w : World) : Nat → Prop := fun b => b < w.heap.size
theorem zE3 {w : World} (h : Z7 w) : SR (e9 w (zON w) 0 (fun _ => .un)) (zON w) (fun _ => .un) (hs []) X3 w :=
 ⟨.nil, rfl, fun t => .pure (.any _), fun o => rfl, fun o o' b c c' h => by simp [hs, zNL, AS.obj, lkO, AObj.live] at h, fun b hb => hb, fun o b c h => by simp [hs, zNL, AS.obj, lkO, AObj.live] at h,
  ⟨rfl, rfl, rfl, Nat.le_refl _, fun b _ _ => rfl, fun _ => Nat.le_refl _, fun p hp => ⟨h p hp, fun ⟨j, c, hj, _⟩ => absurd hj (Nat.not_lt_zero j)⟩⟩, fun b hb => hb, fun b hb => .inl hb, fun k hk => absurd hk (Nat.not_lt_zero k)⟩
theorem zBA {P : Program} {f : FuncId} {vl : List Value} (h1 : vl.all Value.oneCell' = true) {r : AV} (sp : zNF P f (vl.map .raw) [] r []) {w : World} (hl : Z7 w) :
  Calls P f vl.toArray w fun e w' => ∃ v I' loc', e = .returned v ∧ VR w' I' loc' r v ∧ Below w.heap.size w w' := by
 refine (sp w (zON w) (fun _ => .un) vl.toArray (zE3 hl) (by simp) (fun i h h' => ?_)).mono ?_
 ·have hi : i < vl.length := by simpa using h'
  have := List.all_eq_true.1 h1 vl[i] (List.getElem_mem hi)
  simpa using VR.pure (.raw _ this)
 ·rintro e w' ⟨v, I', loc', rfl, hp⟩
  have fr := hp.sr.fr
  exact ⟨v, I', loc', rfl, hp.val, fr.os, fr.tape, fr.output, fr.size, fun k hk => fr.block k hk (fun ⟨j, c, hj, _⟩ => absurd hj (Nat.not_lt_zero j))⟩
theorem zEO {P : Program} {f : FuncId} {vl : List Value} (h1 : vl.all Value.oneCell' = true) {r : Value} (sp : zNF P f (vl.map .raw) [] (.raw r) []) {w : World} (hl : Z7 w) :
  Calls P f vl.toArray w fun e w' => e = .returned r ∧ Below w.heap.size w w' := by
 refine (zBA h1 sp hl).mono ?_
 rintro e w' ⟨v, I', loc', rfl, hv, hb⟩
 have := hv.raw_eq
 subst this
 exact ⟨rfl, hb⟩
theorem zEP {P : Program} {f : FuncId} {vl : List Value} (h1 : vl.all Value.oneCell' = true) {r s : Value} (sp : zNF P f (vl.map .raw) [] (.tup [.raw r, .raw s]) []) {w : World} (hl : Z7 w) :
  Calls P f vl.toArray w fun e w' => e = .returned (.tuple #[r, s]) ∧ Below w.heap.size w w' := by
 refine (zBA h1 sp hl).mono ?_
 rintro e w' ⟨v, I', loc', rfl, hv, hb⟩
 refine ⟨?_, hb⟩
 cases hv with
 | tup xs vs hn hx =>
  have e0 := (hx 0 (by simp) (by simp at hn; omega)).raw_eq
  have e1 := (hx 1 (by simp) (by simp at hn; omega)).raw_eq
  have hn2 : vs.size = 2 := by simpa using hn.symm
  have : vs = #[r, s] := by
   apply Array.ext
   ·simpa using hn2
   ·intro i g1 g2
    have hi : i = 0 ∨ i = 1 := by omega
    rcases hi with rfl | rfl
    ·exact e0
    ·exact e1
  rw [this]
 | pure h => cases h
theorem zIr {P : Program} {f : FuncId} (hM : ¬ W5) (vl : List Value) (r s : Value) (hr : r.oneCell' = true) (hs' : s.oneCell' = true) (h : ∀ w, Z7 w → Calls P f vl.toArray w fun e w' => e = .returned (.tuple #[r, s]) ∧ Below w.heap.size w w') : zNF P f (vl.map .raw) [] (.tup [.raw r, .raw s]) [] := by
 intro w I loc vs hs hv hargs
 obtain rfl := zAM vl vs hv hargs
 refine (h w hs.laidW).mono ?_
 rintro e w' ⟨rfl, hb⟩
 refine ⟨_, I, loc, rfl, ⟨by simpa using hs.grows hb.os hb.tape hb.output hb.size hb.block (fun m => absurd m hM), .tup _ _ rfl (fun i hi hi' => ?_), by simp⟩⟩
 have : i = 0 ∨ i = 1 := by simp at hi; omega
 rcases this with rfl | rfl
 ·exact .pure (.raw _ hr)
 ·exact .pure (.raw _ hs')
end Go.Abs

namespace Go.Abs
open Go
def zN1 (P : Program) (f : FuncId) (avs : List AV) (H : Nat → AObj) (nx : Nat) (K : Cont) : Prop :=
 ∃ (T : Type) (_ : T) (ids ex : List Nat) (args : List AV) (fp : List AObj) (r : T → AV) (out : T → List AObj), R2 P f args fp r out ∧ (∀ t, MetX (fun _ _ _ _ => True) avs H nx ids ex args fp (r t) (out t)) ∧
  ∀ t, K ((r t).ren (x9 ids nx)) (ids ++ ex ++ c8 ids nx (out t)) (r6 ids nx (out t))
section
variable {P : Program} {E : Env} {I : Nat → Prop} {loc : Nat → Loc} {σ : AS} {a : Act} {w : World}
theorem zDf (hs : SR E I loc σ a w) {o : Oper} {fo : Operand} {args : Array Operand} {ts : Array TypeId} (hop : o.op = .call ⟨.value fo, args, ts⟩) {f : FuncId} (hfe : σ.ev fo = .raw (.func (.func f) #[] #[])) (hc : t7 P f = true) {nx : Nat} {K : Cont}
  (h : zN1 P f (args.toList.map σ.ev) σ.obj nx K) (hd : ∀ d, o.dst = some d → d < σ.n) {next : Act → World → Prop} {Q : Exit → Act → World → Prop}
  (hn : ∀ v rd wr a' w', K v rd wr → St E ((σ.writes wr).putD o.dst v) a' w' → next a' w') : o.wp P a w next Q := by
 obtain ⟨T, t0, ids, ex, as', fp, r, out, sp, hm, hK⟩ := h
 have hfo := hs.ev fo
 obtain ⟨g1, g2⟩ := Y8 hs args
 rw [hfe] at hfo
 have e := hfo.raw_eq
 have hr : (execOp a.eval o).run P w = .ok (.enter f (args.map a.eval)) w := by
  simp only [execOp, hop, resolve, e, Deferred.ofValue, Sem.run_bind, Sem.run_pure, Result.andThen_ok, invoke, Array.append_empty, Array.empty_append]
  exact J7 hc _
 have hcalls : Calls P f (args.map a.eval) w fun e w' => ∃ t v I' loc', e = .returned v ∧ SR E I' loc' (σ.writes (r6 ids nx (out t))) a w' ∧ VR w' I' loc' ((r t).ren (x9 ids nx)) v := by
  obtain ⟨⟨h1, h2, h3⟩, _⟩ := M7 hs g1 g2 (hm t0)
  refine (sp w _ _ _ h1 h2 h3).mono ?_
  rintro e w' ⟨t, hp⟩
  obtain ⟨_, hb⟩ := M7 hs g1 g2 (hm t)
  obtain ⟨v, I', loc', h4, h5, h6, _⟩ := hb e w' hp
  exact ⟨t, v, I', loc', h4, h5, h6⟩
 refine zAk hr (hcalls.mono ?_)
 rintro e w' ⟨t, v, I', loc', he, hsr, hvr⟩
 exact ⟨v, he, hn _ _ _ _ _ (hK t) ⟨I', loc', hsr.putD hvr (fun d e => by rw [(f9 _ σ).1]; exact hd d e)⟩⟩
theorem zFm {Q : Exit → AS → Prop} {id : Nat} {pre post : List Oper} {o : Oper} {fo : Operand} {args : Array Operand} {ts : Array TypeId} (hop : o.op = .call ⟨.value fo, args, ts⟩) {f : FuncId} (hc : t7 P f = true) (hg : o.guard = none)
  (h : y4 P (pre ++ o :: post) (fun σ1 _ => (match o.dst with | some d => ltN d σ1.n | none => True) ∧ σ1.ev fo = .raw (.func (.func f) #[] #[]) ∧
   zN1 P f (args.toList.map σ1.ev) σ1.obj σ1.nx (fun v _ wr => y4 P (pre ++ o :: post) (fun σ' _ => Q .normal σ') post ((σ1.writes wr).putD o.dst v) [])) pre σ []) : Hold P E (.region id (pre ++ o :: post).toArray false) Q σ := fun a w hs => by
 refine wpIn_wide.1 (wpIn_region_list (n := 0) ?_)
 have tail : ∀ (ops : List Oper) (σ : AS) (a : Act) (w : World), y4 P (pre ++ o :: post) (fun σ' _ => Q .normal σ') ops σ [] → St E σ a w → wpListIn Fence.wide 0 P (pre ++ o :: post).toArray (zNU E Q) ops a w := fun ops σ a w h hs => by
  have := Y4 (P := P) (E := E) (Q := zNU E Q) (post := []) (all := pre ++ o :: post) (fun σ' _ a' w' h1 h2 => (⟨σ', h1, h2⟩ : zNU E Q .normal a' w')) ops σ [] a w h hs
  simpa using this
 refine Y4 (post := o :: post) ?_ pre σ [] a w h hs
 rintro σ1 ts1 a1 w1 ⟨hd, hfe, he⟩ ⟨I1, loc1, hs1⟩
 unfold wpListIn
 have hw : Region.wanted o (yielded (pre ++ o :: post).toArray a1.tmps) = true := by unfold Region.wanted; rw [hg]
 rw [if_pos hw]
 exact zOL (zDf hs1 hop hfe hc he (fun d e => by rw [e] at hd; exact hd) (fun v rd wr a' w' hk hst => tail post _ a' w' hk hst))
end
section
variable {P : Program} {E : Env} {Q : Exit → AS → Prop} {σ : AS} {p : List Nat} {b : Code}
theorem zHO {id : Nat} {ops : List Oper} (k : Nat) (h : sub p b = .region id ops.toArray false) {o : Oper} (hk : ops[k]? = some o) {fo : Operand} {args : Array Operand} {ts : Array TypeId} (hop : o.op = .call ⟨.value fo, args, ts⟩) {f : FuncId} (hc : t7 P f = true) (hg : o.guard = none)
  (hx : y4 P ops (fun σ1 _ => (match o.dst with | some d => ltN d σ1.n | none => True) ∧ σ1.ev fo = .raw (.func (.func f) #[] #[]) ∧
   zN1 P f (args.toList.map σ1.ev) σ1.obj σ1.nx (fun v _ wr => y4 P ops (fun σ' _ => Q .normal σ') (ops.drop (k + 1)) ((σ1.writes wr).putD o.dst v) [])) (ops.take k) σ []) : Hold P E (sub p b) Q σ := by
 obtain ⟨hlt, he⟩ := List.getElem?_eq_some_iff.1 hk
 have e : ops = ops.take k ++ o :: ops.drop (k + 1) := by
  rw [← he, ← List.drop_eq_getElem_cons hlt, List.take_append_drop]
 obtain ⟨pre, hpre⟩ : ∃ pre, pre = ops.take k := ⟨_, rfl⟩
 obtain ⟨post, hpost⟩ : ∃ post, post = ops.drop (k + 1) := ⟨_, rfl⟩
 rw [← hpre, ← hpost] at e hx
 rw [h]
 clear h hk he hlt hpre hpost
 subst e
 exact zFm hop hc hg hx
end
theorem D5 {T : Type} (t0 : T) {P : Program} {f : FuncId} {avs : List AV} {H : Nat → AObj} {nx : Nat} {K : Cont} (ids ex : List Nat) {args : List AV} {fp : List AObj} {r : T → AV} {out : T → List AObj} (sp : R2 P f args fp r out)
  (h1 : ids.Nodup) (h2 : XpL H (ids.map some) ex args avs) (h3 : fpsF H (ids.map some) ex fp ids) (h4 : ∀ o, o ∈ ex → o ∉ ids) (h5 : ex = [] ∨ ∀ t, (Scal (r t) ∧ ∀ A, A ∈ out t → R1 A))
  (h6 : ∀ t j, j < (out t).length - ids.length → H (nx + j) = .unb) (h7 : ∀ t A, A ∈ out t → A ≠ .unb) (hk : ∀ t, K ((r t).ren (x9 ids nx)) (ids ++ ex ++ c8 ids nx (out t)) (r6 ids nx (out t))) : zN1 P f avs H nx K := by
 refine ⟨T, t0, ids, ex, args, fp, r, out, sp, fun t => ⟨fun _ _ _ _ _ _ _ => trivial, h1, h4, ?_, (fpsF.sound h3).1, fun k h => ?_, h5.imp (fun h => h) (fun h => h t), h6 t, h7 t⟩, hk⟩
 ·rw [← N4]; exact XpL.all2 h2
 ·rw [← N4]; exact (fpsF.sound h3).2 k h
end Go.Abs

namespace Go.Proofs
@[go_sem] theorem Tryz.sz3 : Abs.sizeT prog 3 = some 1 := by kernel_rfl
@[go_sem] theorem Tryz.by3 : Abs.bytesT prog 3 = some 8 := by kernel_rfl
@[go_sem] theorem Tryz.ze3 : Abs.zeroT prog 3 = some (.int .i64 0) := by kernel_rfl
@[go_sem] theorem Tryz.sz4 : Abs.sizeT prog 4 = some 1 := by kernel_rfl
@[go_sem] theorem Tryz.by4 : Abs.bytesT prog 4 = some 1 := by kernel_rfl
@[go_sem] theorem Tryz.ze4 : Abs.zeroT prog 4 = some (.bool false) := by kernel_rfl
@[go_sem] theorem Tryz.sz5 : Abs.sizeT prog 5 = some 1 := by kernel_rfl
@[go_sem] theorem Tryz.by5 : Abs.bytesT prog 5 = some 1 := by kernel_rfl
@[go_sem] theorem Tryz.ze5 : Abs.zeroT prog 5 = some (.int .u8 0) := by kernel_rfl
@[go_sem] theorem Tryz.sz9 : Abs.sizeT prog 9 = some 1 := by kernel_rfl
@[go_sem] theorem Tryz.by9 : Abs.bytesT prog 9 = some 16 := by kernel_rfl
@[go_sem] theorem Tryz.ze9 : Abs.zeroT prog 9 = some (.string ⟨#[]⟩) := by kernel_rfl
@[go_sem] theorem Tryz.sz22 : Abs.sizeT prog 22 = some 1 := by kernel_rfl
@[go_sem] theorem Tryz.by22 : Abs.bytesT prog 22 = some 24 := by kernel_rfl
@[go_sem] theorem Tryz.ze22 : Abs.zeroT prog 22 = some (.slice none 0 0) := by kernel_rfl
@[go_sem] theorem Tryz.sl22 : Abs.sliceT prog 22 = some 9 := by kernel_rfl
@[go_sem] theorem Tryz.sz23 : Abs.sizeT prog 23 = some 1 := by kernel_rfl
@[go_sem] theorem Tryz.by23 : Abs.bytesT prog 23 = some 24 := by kernel_rfl
@[go_sem] theorem Tryz.ze23 : Abs.zeroT prog 23 = some (.slice none 0 0) := by kernel_rfl
@[go_sem] theorem Tryz.sl23 : Abs.sliceT prog 23 = some 3 := by kernel_rfl
@[go_sem] theorem Tryz.sl30 : Abs.sliceT prog 30 = some 22 := by kernel_rfl
@[go_sem] theorem Tryz.sz34 : Abs.sizeT prog 34 = some 1 := by kernel_rfl
@[go_sem] theorem Tryz.by34 : Abs.bytesT prog 34 = some 8 := by kernel_rfl
@[go_sem] theorem Tryz.ze34 : Abs.zeroT prog 34 = some (.int .i64 0) := by kernel_rfl
@[go_sem] theorem Tryz.sz42 : Abs.sizeT prog 42 = some 1 := by kernel_rfl
@[go_sem] theorem Tryz.by42 : Abs.bytesT prog 42 = some 24 := by kernel_rfl
@[go_sem] theorem Tryz.ze42 : Abs.zeroT prog 42 = some (.slice none 0 0) := by kernel_rfl
@[go_sem] theorem Tryz.sl42 : Abs.sliceT prog 42 = some 83 := by kernel_rfl
@[go_sem] theorem Tryz.sl58 : Abs.sliceT prog 58 = some 42 := by kernel_rfl
@[go_sem] theorem Tryz.sl63 : Abs.sliceT prog 63 = some 23 := by kernel_rfl
@[go_sem] theorem Tryz.sl78 : Abs.sliceT prog 78 = some 34 := by kernel_rfl
@[go_sem] theorem Tryz.sl80 : Abs.sliceT prog 80 = some 4 := by kernel_rfl
@[go_sem] theorem Tryz.sz83 : Abs.sizeT prog 83 = some 2 := by kernel_rfl
@[go_sem] theorem Tryz.by83 : Abs.bytesT prog 83 = some 32 := by kernel_rfl
@[go_sem] theorem Tryz.ze83 : Abs.zeroT prog 83 = some (.agg #[.string ⟨#[]⟩, .string ⟨#[]⟩]) := by kernel_rfl
@[go_sem] theorem Tryz.sz90 : Abs.sizeT prog 90 = some 1 := by kernel_rfl
@[go_sem] theorem Tryz.by90 : Abs.bytesT prog 90 = some 16 := by kernel_rfl
@[go_sem] theorem Tryz.ze90 : Abs.zeroT prog 90 = some (.string ⟨#[]⟩) := by kernel_rfl
@[go_sem] theorem Tryz.sl124 : Abs.sliceT prog 124 = some 90 := by kernel_rfl
@[go_sem] theorem Tryz.sl141 : Abs.sliceT prog 141 = some 5 := by kernel_rfl
@[go_sem] theorem Tryz.sz189 : Abs.sizeT prog 189 = some 2 := by kernel_rfl
@[go_sem] theorem Tryz.by189 : Abs.bytesT prog 189 = some 32 := by kernel_rfl
@[go_sem] theorem Tryz.ze189 : Abs.zeroT prog 189 = some (.agg #[.string ⟨#[]⟩, .string ⟨#[]⟩]) := by kernel_rfl
@[go_sem] theorem Tryz.ba189 (ps : List (Nat × Abs.AV)) (K : Abs.Cont) : Abs.buildA prog 189 ps K = Abs.baC (.agg #[.string ⟨#[]⟩, .string ⟨#[]⟩]) 1 ps K := Abs.buildA_array (e := 9) (n := 2) (by kernel_rfl) Tryz.ze189 (by kernel_rfl) ps K
@[go_sem] theorem Tryz.sl190 : Abs.sliceT prog 190 = some 189 := by kernel_rfl
@[go_sem] theorem Tryz.sl219 : Abs.sliceT prog 219 = some 231 := by kernel_rfl
@[go_sem] theorem Tryz.ze223 : Abs.zeroT prog 223 = some (.agg #[.int .u8 0, .int .u8 0, .int .u8 0, .int .u8 0, .int .u8 0, .int .u8 0, .int .u8 0, .int .u8 0, .int .u8 0, .int .u8 0, .int .u8 0, .int .u8 0, .int .u8 0, .int .u8 0, .int .u8 0, .int .u8 0, .int .u8 0, .int .u8 0, .int .u8 0, .int .u8 0, .int .u8 0, .int .u8 0, .int .u8 0, .int .u8 0, .int .u8 0, .int .u8 0, .int .u8 0, .int .u8 0, .int .u8 0, .int .u8 0, .int .u8 0, .int .u8 0]) := by kernel_rfl
@[go_sem] theorem Tryz.ba223 (ps : List (Nat × Abs.AV)) (K : Abs.Cont) : Abs.buildA prog 223 ps K = Abs.baC (.agg #[.int .u8 0, .int .u8 0, .int .u8 0, .int .u8 0, .int .u8 0, .int .u8 0, .int .u8 0, .int .u8 0, .int .u8 0, .int .u8 0, .int .u8 0, .int .u8 0, .int .u8 0, .int .u8 0, .int .u8 0, .int .u8 0, .int .u8 0, .int .u8 0, .int .u8 0, .int .u8 0, .int .u8 0, .int .u8 0, .int .u8 0, .int .u8 0, .int .u8 0, .int .u8 0, .int .u8 0, .int .u8 0, .int .u8 0, .int .u8 0, .int .u8 0, .int .u8 0]) 2 ps K := Abs.buildA_array (e := 222) (n := 16) (by kernel_rfl) Tryz.ze223 (by kernel_rfl) ps K
@[go_sem] theorem Tryz.ze228 : Abs.zeroT prog 228 = some (.agg #[.int .i32 0, .int .i32 0, .int .i32 0]) := by kernel_rfl
@[go_sem] theorem Tryz.ba228 (ps : List (Nat × Abs.AV)) (K : Abs.Cont) : Abs.buildA prog 228 ps K = Abs.baC (.agg #[.int .i32 0, .int .i32 0, .int .i32 0]) 1 ps K := Abs.buildA_array (e := 21) (n := 3) (by kernel_rfl) Tryz.ze228 (by kernel_rfl) ps K
@[go_sem] theorem Tryz.ze229 : Abs.zeroT prog 229 = some (.agg #[.int .i32 0, .int .i32 0, .int .i32 0]) := by kernel_rfl
@[go_sem] theorem Tryz.ba229 (ps : List (Nat × Abs.AV)) (K : Abs.Cont) : Abs.buildA prog 229 ps K = Abs.baC (.agg #[.int .i32 0, .int .i32 0, .int .i32 0]) 1 ps K := Abs.buildA_array (e := 21) (n := 3) (by kernel_rfl) Tryz.ze229 (by kernel_rfl) ps K
@[go_sem] theorem Tryz.sz231 : Abs.sizeT prog 231 = some 5 := by kernel_rfl
@[go_sem] theorem Tryz.by231 : Abs.bytesT prog 231 = some 20 := by kernel_rfl
@[go_sem] theorem Tryz.ze231 : Abs.zeroT prog 231 = some (.agg #[.int .u32 0, .int .u32 0, .int .i32 0, .int .i32 0, .int .i32 0]) := by kernel_rfl
@[go_sem] theorem Tryz.ze234 : Abs.zeroT prog 234 = some (.agg #[]) := by kernel_rfl
@[go_sem] theorem Tryz.ba234 (ps : List (Nat × Abs.AV)) (K : Abs.Cont) : Abs.buildA prog 234 ps K = Abs.baC (.agg #[]) 1 ps K := Abs.buildA_array (e := 16) (n := 0) (by kernel_rfl) Tryz.ze234 (by kernel_rfl) ps K
@[go_sem] theorem Tryz.bs22 (n : Nat) (ps : List (Nat × Abs.AV)) (H : Nat → Abs.AObj) (nx : Nat) (K : Abs.Cont) : Abs.buildSliceA prog 22 n ps H nx K = Abs.bsR 1 n ps H nx K := Abs.buildSliceA_row Tryz.sl22 Tryz.sz9 Tryz.ze9 rfl (by decide) rfl n ps H nx K
@[go_sem] theorem Tryz.ap22 (s x : Abs.AV) (H : Nat → Abs.AObj) (nx : Nat) (K : Abs.Cont) : Abs.appendA prog 22 s x H nx K = Abs.appR 1 16 s x H nx K := Abs.appendA_row Tryz.sl22 Tryz.sz9 Tryz.by9 Tryz.ze9 rfl (by decide) rfl s x H nx K
@[go_sem] theorem Tryz.bs23 (n : Nat) (ps : List (Nat × Abs.AV)) (H : Nat → Abs.AObj) (nx : Nat) (K : Abs.Cont) : Abs.buildSliceA prog 23 n ps H nx K = Abs.bsR 1 n ps H nx K := Abs.buildSliceA_row Tryz.sl23 Tryz.sz3 Tryz.ze3 rfl (by decide) rfl n ps H nx K
@[go_sem] theorem Tryz.ap23 (s x : Abs.AV) (H : Nat → Abs.AObj) (nx : Nat) (K : Abs.Cont) : Abs.appendA prog 23 s x H nx K = Abs.appR 1 8 s x H nx K := Abs.appendA_row Tryz.sl23 Tryz.sz3 Tryz.by3 Tryz.ze3 rfl (by decide) rfl s x H nx K
@[go_sem] theorem Tryz.ap30 (s x : Abs.AV) (H : Nat → Abs.AObj) (nx : Nat) (K : Abs.Cont) : Abs.appendA prog 30 s x H nx K = Abs.appC 24 s x H nx K := Abs.appendA_box Tryz.sl30 Tryz.sz22 Tryz.by22 Tryz.ze22 rfl rfl s x H nx K
@[go_sem] theorem Tryz.bs30 (n : Nat) (ps : List (Nat × Abs.AV)) (H : Nat → Abs.AObj) (nx : Nat) (K : Abs.Cont) : Abs.buildSliceA prog 30 n ps H nx K = Abs.bsC n ps H nx K := Abs.buildSliceA_box Tryz.sl30 Tryz.sz22 Tryz.ze22 rfl rfl n ps H nx K
@[go_sem] theorem Tryz.bs42 (n : Nat) (ps : List (Nat × Abs.AV)) (H : Nat → Abs.AObj) (nx : Nat) (K : Abs.Cont) : Abs.buildSliceA prog 42 n ps H nx K = Abs.bsR 2 n ps H nx K := Abs.buildSliceA_row Tryz.sl42 Tryz.sz83 Tryz.ze83 rfl (by decide) rfl n ps H nx K
@[go_sem] theorem Tryz.ap42 (s x : Abs.AV) (H : Nat → Abs.AObj) (nx : Nat) (K : Abs.Cont) : Abs.appendA prog 42 s x H nx K = Abs.appR 2 32 s x H nx K := Abs.appendA_row Tryz.sl42 Tryz.sz83 Tryz.by83 Tryz.ze83 rfl (by decide) rfl s x H nx K
@[go_sem] theorem Tryz.ap58 (s x : Abs.AV) (H : Nat → Abs.AObj) (nx : Nat) (K : Abs.Cont) : Abs.appendA prog 58 s x H nx K = Abs.appC 24 s x H nx K := Abs.appendA_box Tryz.sl58 Tryz.sz42 Tryz.by42 Tryz.ze42 rfl rfl s x H nx K
@[go_sem] theorem Tryz.bs58 (n : Nat) (ps : List (Nat × Abs.AV)) (H : Nat → Abs.AObj) (nx : Nat) (K : Abs.Cont) : Abs.buildSliceA prog 58 n ps H nx K = Abs.bsC n ps H nx K := Abs.buildSliceA_box Tryz.sl58 Tryz.sz42 Tryz.ze42 rfl rfl n ps H nx K
@[go_sem] theorem Tryz.ap63 (s x : Abs.AV) (H : Nat → Abs.AObj) (nx : Nat) (K : Abs.Cont) : Abs.appendA prog 63 s x H nx K = Abs.appC 24 s x H nx K := Abs.appendA_box Tryz.sl63 Tryz.sz23 Tryz.by23 Tryz.ze23 rfl rfl s x H nx K
@[go_sem] theorem Tryz.bs63 (n : Nat) (ps : List (Nat × Abs.AV)) (H : Nat → Abs.AObj) (nx : Nat) (K : Abs.Cont) : Abs.buildSliceA prog 63 n ps H nx K = Abs.bsC n ps H nx K := Abs.buildSliceA_box Tryz.sl63 Tryz.sz23 Tryz.ze23 rfl rfl n ps H nx K
@[go_sem] theorem Tryz.bs78 (n : Nat) (ps : List (Nat × Abs.AV)) (H : Nat → Abs.AObj) (nx : Nat) (K : Abs.Cont) : Abs.buildSliceA prog 78 n ps H nx K = Abs.bsR 1 n ps H nx K := Abs.buildSliceA_row Tryz.sl78 Tryz.sz34 Tryz.ze34 rfl (by decide) rfl n ps H nx K
@[go_sem] theorem Tryz.ap78 (s x : Abs.AV) (H : Nat → Abs.AObj) (nx : Nat) (K : Abs.Cont) : Abs.appendA prog 78 s x H nx K = Abs.appR 1 8 s x H nx K := Abs.appendA_row Tryz.sl78 Tryz.sz34 Tryz.by34 Tryz.ze34 rfl (by decide) rfl s x H nx K
@[go_sem] theorem Tryz.bs80 (n : Nat) (ps : List (Nat × Abs.AV)) (H : Nat → Abs.AObj) (nx : Nat) (K : Abs.Cont) : Abs.buildSliceA prog 80 n ps H nx K = Abs.bsR 1 n ps H nx K := Abs.buildSliceA_row Tryz.sl80 Tryz.sz4 Tryz.ze4 rfl (by decide) rfl n ps H nx K
@[go_sem] theorem Tryz.ap80 (s x : Abs.AV) (H : Nat → Abs.AObj) (nx : Nat) (K : Abs.Cont) : Abs.appendA prog 80 s x H nx K = Abs.appR 1 1 s x H nx K := Abs.appendA_row Tryz.sl80 Tryz.sz4 Tryz.by4 Tryz.ze4 rfl (by decide) rfl s x H nx K
@[go_sem] theorem Tryz.bs124 (n : Nat) (ps : List (Nat × Abs.AV)) (H : Nat → Abs.AObj) (nx : Nat) (K : Abs.Cont) : Abs.buildSliceA prog 124 n ps H nx K = Abs.bsR 1 n ps H nx K := Abs.buildSliceA_row Tryz.sl124 Tryz.sz90 Tryz.ze90 rfl (by decide) rfl n ps H nx K
@[go_sem] theorem Tryz.ap124 (s x : Abs.AV) (H : Nat → Abs.AObj) (nx : Nat) (K : Abs.Cont) : Abs.appendA prog 124 s x H nx K = Abs.appR 1 16 s x H nx K := Abs.appendA_row Tryz.sl124 Tryz.sz90 Tryz.by90 Tryz.ze90 rfl (by decide) rfl s x H nx K
@[go_sem] theorem Tryz.bs141 (n : Nat) (ps : List (Nat × Abs.AV)) (H : Nat → Abs.AObj) (nx : Nat) (K : Abs.Cont) : Abs.buildSliceA prog 141 n ps H nx K = Abs.bsR 1 n ps H nx K := Abs.buildSliceA_row Tryz.sl141 Tryz.sz5 Tryz.ze5 rfl (by decide) rfl n ps H nx K
@[go_sem] theorem Tryz.ap141 (s x : Abs.AV) (H : Nat → Abs.AObj) (nx : Nat) (K : Abs.Cont) : Abs.appendA prog 141 s x H nx K = Abs.appR 1 1 s x H nx K := Abs.appendA_row Tryz.sl141 Tryz.sz5 Tryz.by5 Tryz.ze5 rfl (by decide) rfl s x H nx K
@[go_sem] theorem Tryz.bs190 (n : Nat) (ps : List (Nat × Abs.AV)) (H : Nat → Abs.AObj) (nx : Nat) (K : Abs.Cont) : Abs.buildSliceA prog 190 n ps H nx K = Abs.bsR 2 n ps H nx K := Abs.buildSliceA_row Tryz.sl190 Tryz.sz189 Tryz.ze189 rfl (by decide) rfl n ps H nx K
@[go_sem] theorem Tryz.ap190 (s x : Abs.AV) (H : Nat → Abs.AObj) (nx : Nat) (K : Abs.Cont) : Abs.appendA prog 190 s x H nx K = Abs.appR 2 32 s x H nx K := Abs.appendA_row Tryz.sl190 Tryz.sz189 Tryz.by189 Tryz.ze189 rfl (by decide) rfl s x H nx K
@[go_sem] theorem Tryz.bs219 (n : Nat) (ps : List (Nat × Abs.AV)) (H : Nat → Abs.AObj) (nx : Nat) (K : Abs.Cont) : Abs.buildSliceA prog 219 n ps H nx K = Abs.bsR 5 n ps H nx K := Abs.buildSliceA_row Tryz.sl219 Tryz.sz231 Tryz.ze231 rfl (by decide) rfl n ps H nx K
@[go_sem] theorem Tryz.ap219 (s x : Abs.AV) (H : Nat → Abs.AObj) (nx : Nat) (K : Abs.Cont) : Abs.appendA prog 219 s x H nx K = Abs.appR 5 20 s x H nx K := Abs.appendA_row Tryz.sl219 Tryz.sz231 Tryz.by231 Tryz.ze231 rfl (by decide) rfl s x H nx K
@[go_sem] theorem Tryz.eq83 (a0 b0 : ByteArray) (a1 b1 : ByteArray) : Abs.eqC prog 83 [.string a0, .string a1] [.string b0, .string b1] = some (a0 == b0 && a1 == b1) := by
 refine Abs.eqC_V (by kernel_rfl) ?_
 have h : Abs.eqV prog 5 83 [.string a0, .string a1] [.string b0, .string b1] = Abs.andO (some (a0 == b0)) (Abs.andO (some (a1 == b1)) (some true)) := by kernel_rfl
 rw [h]; generalize (a0 == b0) = x0; generalize (a1 == b1) = x1; revert x0 x1; decide
theorem Tryz.mixed : prog.follows .mixedOrders = true := by kernel_rfl
end Go.Proofs
namespace Go.Abs
open Go Go.Proofs Tryz
noncomputable abbrev zza := U6 prog
noncomputable abbrev zzb := bytesT prog
noncomputable abbrev zzc := t7 prog
noncomputable abbrev zzd := zOA prog
noncomputable abbrev zze := r5 prog
noncomputable abbrev zzf := sizeT prog
noncomputable abbrev zzg := sliceT prog
noncomputable abbrev zzh := W0 prog
noncomputable abbrev zzi := I8 prog
noncomputable abbrev zzj := zeroT prog
@[go_sem] theorem Tryz.facts0 : zze 1 = some false ∧ zzf 1 = some 1 ∧ zzb 1 = some 8 ∧ zzj 1 = some (.nilFunc) ∧ zzg 1 = none ∧ zze 2 = some false ∧ zzf 2 = some 1 ∧ zzb 2 = some 8 ∧ zzj 2 = some (.int .i64 0) ∧ zzg 2 = none ∧ zzd 2 = some .i64 ∧ prog.underlying 2 = some (.int .i64) ∧ zze 3 = some false ∧ zzg 3 = none ∧ zzd 3 = some .i64 ∧ prog.underlying 3 = some (.int .i64) ∧ zze 4 = some false ∧ zzg 4 = none ∧ prog.underlying 4 = some (.bool) ∧ zze 5 = some false := by (repeat' apply And.intro) <;> kernel_rfl
@[go_sem] theorem Tryz.facts1 : zzg 5 = none ∧ zzd 5 = some .u8 ∧ prog.underlying 5 = some (.int .u8) ∧ zze 6 = some false ∧ zzf 6 = some 1 ∧ zzb 6 = some 1 ∧ zzj 6 = some (.int .u8 0) ∧ zzg 6 = none ∧ zzd 6 = some .u8 ∧ prog.underlying 6 = some (.int .u8) ∧ zze 7 = some true ∧ zzf 7 = some 4 ∧ zzb 7 = some 24 ∧ zzj 7 = some (.agg #[.int .i64 0, .int .i64 0, .bool false, .int .u8 0]) ∧ zzg 7 = none ∧ zzi 7 = true ∧ x8 prog 7 0 = some (2, 0) ∧ x8 prog 7 1 = some (3, 1) ∧ x8 prog 7 2 = some (4, 2) ∧ x8 prog 7 3 = some (6, 3) := by (repeat' apply And.intro) <;> kernel_rfl
@[go_sem] theorem Tryz.facts2 : zzi 8 = true ∧ zze 9 = some false ∧ zzg 9 = none ∧ zzh 9 = true ∧ zzd 9 = none ∧ prog.underlying 9 = some (.string) ∧ zzh 10 = true ∧ zzd 10 = none ∧ zzh 11 = true ∧ zzd 11 = none ∧ zzd 12 = some .u64 ∧ zzi 13 = true ∧ zzi 14 = true ∧ zze 15 = some false ∧ zzf 15 = some 1 ∧ zzb 15 = some 8 ∧ zzj 15 = some (.pointer none) ∧ zzg 15 = none ∧ zze 16 = some false ∧ zzf 16 = some 1 := by (repeat' apply And.intro) <;> kernel_rfl
@[go_sem] theorem Tryz.facts3 : zzb 16 = some 8 ∧ zzj 16 = some (.pointer none) ∧ zzg 16 = none ∧ zze 17 = some false ∧ zzf 17 = some 1 ∧ zzb 17 = some 8 ∧ zzj 17 = some (.pointer none) ∧ zzg 17 = none ∧ zze 18 = some true ∧ zzf 18 = some 1 ∧ zzb 18 = some 8 ∧ zzj 18 = some (.agg #[.pointer none]) ∧ zzg 18 = none ∧ zzi 18 = true ∧ x8 prog 18 0 = some (17, 0) ∧ zze 19 = some true ∧ zzf 19 = some 1 ∧ zzb 19 = some 8 ∧ zzj 19 = some (.agg #[.pointer none]) ∧ zzg 19 = none := by (repeat' apply And.intro) <;> kernel_rfl
@[go_sem] theorem Tryz.facts4 : zzi 19 = true ∧ x8 prog 19 0 = some (17, 0) ∧ zze 20 = some false ∧ zzf 20 = some 1 ∧ zzb 20 = some 16 ∧ zzj 20 = some (.nilIface) ∧ zzg 20 = none ∧ zze 21 = some false ∧ zzf 21 = some 1 ∧ zzb 21 = some 4 ∧ zzj 21 = some (.int .i32 0) ∧ zzg 21 = none ∧ zzd 21 = some .i32 ∧ prog.underlying 21 = some (.int .i32) ∧ zze 22 = some false ∧ prog.underlying 22 = some (.slice 9) ∧ zze 23 = some false ∧ prog.underlying 23 = some (.slice 3) ∧ zze 24 = some false ∧ zzf 24 = some 1 := by (repeat' apply And.intro) <;> kernel_rfl
@[go_sem] theorem Tryz.facts5 : zzb 24 = some 8 ∧ zzj 24 = some (.nilFunc) ∧ zzg 24 = none ∧ zze 25 = some false ∧ zzf 25 = some 1 ∧ zzb 25 = some 8 ∧ zzj 25 = some (.nilFunc) ∧ zzg 25 = none ∧ zze 26 = some false ∧ zzf 26 = some 1 ∧ zzb 26 = some 8 ∧ zzj 26 = some (.pointer none) ∧ zzg 26 = none ∧ zze 27 = some false ∧ zzf 27 = some 1 ∧ zzb 27 = some 8 ∧ zzj 27 = some (.nilFunc) ∧ zzg 27 = none ∧ zze 28 = some false ∧ zzf 28 = some 1 := by (repeat' apply And.intro) <;> kernel_rfl
@[go_sem] theorem Tryz.facts6 : zzb 28 = some 8 ∧ zzj 28 = some (.nilFunc) ∧ zzg 28 = none ∧ zze 29 = some false ∧ zzf 29 = some 1 ∧ zzb 29 = some 8 ∧ zzj 29 = some (.nilFunc) ∧ zzg 29 = none ∧ zze 30 = some false ∧ zzf 30 = some 1 ∧ zzb 30 = some 24 ∧ zzj 30 = some (.slice none 0 0) ∧ prog.underlying 30 = some (.slice 22) ∧ zze 31 = some false ∧ zzf 31 = some 1 ∧ zzb 31 = some 8 ∧ zzj 31 = some (.nilFunc) ∧ zzg 31 = none ∧ zze 32 = some false ∧ zzf 32 = some 1 := by (repeat' apply And.intro) <;> kernel_rfl
@[go_sem] theorem Tryz.facts7 : zzb 32 = some 8 ∧ zzj 32 = some (.nilFunc) ∧ zzg 32 = none ∧ zze 33 = some false ∧ zzf 33 = some 1 ∧ zzb 33 = some 8 ∧ zzj 33 = some (.nilFunc) ∧ zzg 33 = none ∧ zze 34 = some false ∧ zzg 34 = none ∧ zzd 34 = some .i64 ∧ prog.underlying 34 = some (.int .i64) ∧ zze 36 = some false ∧ zzf 36 = some 1 ∧ zzb 36 = some 8 ∧ zzj 36 = some (.nilFunc) ∧ zzg 36 = none ∧ zze 37 = some false ∧ zzf 37 = some 1 ∧ zzb 37 = some 8 := by (repeat' apply And.intro) <;> kernel_rfl
@[go_sem] theorem Tryz.facts8 : zzj 37 = some (.nilFunc) ∧ zzg 37 = none ∧ zze 38 = some false ∧ zzf 38 = some 1 ∧ zzb 38 = some 8 ∧ zzj 38 = some (.nilFunc) ∧ zzg 38 = none ∧ zze 39 = some false ∧ zzf 39 = some 1 ∧ zzb 39 = some 8 ∧ zzj 39 = some (.nilFunc) ∧ zzg 39 = none ∧ zze 40 = some false ∧ zzf 40 = some 1 ∧ zzb 40 = some 8 ∧ zzj 40 = some (.nilFunc) ∧ zzg 40 = none ∧ zze 41 = some false ∧ zzf 41 = some 1 ∧ zzb 41 = some 8 := by (repeat' apply And.intro) <;> kernel_rfl
@[go_sem] theorem Tryz.facts9 : zzj 41 = some (.nilFunc) ∧ zzg 41 = none ∧ zze 42 = some false ∧ prog.underlying 42 = some (.slice 83) ∧ zze 43 = some false ∧ zzf 43 = some 1 ∧ zzb 43 = some 8 ∧ zzj 43 = some (.nilFunc) ∧ zzg 43 = none ∧ zze 45 = some false ∧ zzf 45 = some 1 ∧ zzb 45 = some 8 ∧ zzj 45 = some (.nilFunc) ∧ zzg 45 = none ∧ zze 46 = some false ∧ zzf 46 = some 1 ∧ zzb 46 = some 8 ∧ zzj 46 = some (.nilFunc) ∧ zzg 46 = none ∧ zze 48 = some false := by (repeat' apply And.intro) <;> kernel_rfl
@[go_sem] theorem Tryz.facts10 : zzf 48 = some 1 ∧ zzb 48 = some 8 ∧ zzj 48 = some (.nilFunc) ∧ zzg 48 = none ∧ zze 54 = some false ∧ zzf 54 = some 1 ∧ zzb 54 = some 8 ∧ zzj 54 = some (.nilFunc) ∧ zzg 54 = none ∧ zze 56 = some false ∧ zzf 56 = some 1 ∧ zzb 56 = some 8 ∧ zzj 56 = some (.nilFunc) ∧ zzg 56 = none ∧ zze 57 = some false ∧ zzf 57 = some 1 ∧ zzb 57 = some 8 ∧ zzj 57 = some (.nilFunc) ∧ zzg 57 = none ∧ zze 58 = some false := by (repeat' apply And.intro) <;> kernel_rfl
@[go_sem] theorem Tryz.facts11 : zzf 58 = some 1 ∧ zzb 58 = some 24 ∧ zzj 58 = some (.slice none 0 0) ∧ prog.underlying 58 = some (.slice 42) ∧ zze 59 = some false ∧ zzf 59 = some 1 ∧ zzb 59 = some 8 ∧ zzj 59 = some (.nilFunc) ∧ zzg 59 = none ∧ zze 61 = some false ∧ zzf 61 = some 1 ∧ zzb 61 = some 8 ∧ zzj 61 = some (.nilFunc) ∧ zzg 61 = none ∧ zze 62 = some false ∧ zzf 62 = some 1 ∧ zzb 62 = some 8 ∧ zzj 62 = some (.nilFunc) ∧ zzg 62 = none ∧ zze 63 = some false := by (repeat' apply And.intro) <;> kernel_rfl
@[go_sem] theorem Tryz.facts12 : zzf 63 = some 1 ∧ zzb 63 = some 24 ∧ zzj 63 = some (.slice none 0 0) ∧ prog.underlying 63 = some (.slice 23) ∧ zze 66 = some false ∧ zzf 66 = some 1 ∧ zzb 66 = some 8 ∧ zzj 66 = some (.nilFunc) ∧ zzg 66 = none ∧ zze 67 = some false ∧ zzf 67 = some 1 ∧ zzb 67 = some 8 ∧ zzj 67 = some (.nilFunc) ∧ zzg 67 = none ∧ zze 68 = some false ∧ zzf 68 = some 1 ∧ zzb 68 = some 8 ∧ zzj 68 = some (.nilFunc) ∧ zzg 68 = none ∧ zze 69 = some false := by (repeat' apply And.intro) <;> kernel_rfl
@[go_sem] theorem Tryz.facts13 : zzf 69 = some 1 ∧ zzb 69 = some 8 ∧ zzj 69 = some (.nilFunc) ∧ zzg 69 = none ∧ zze 70 = some false ∧ zzf 70 = some 1 ∧ zzb 70 = some 8 ∧ zzj 70 = some (.nilFunc) ∧ zzg 70 = none ∧ zze 71 = some false ∧ zzf 71 = some 1 ∧ zzb 71 = some 8 ∧ zzj 71 = some (.nilFunc) ∧ zzg 71 = none ∧ zze 72 = some false ∧ zzf 72 = some 1 ∧ zzb 72 = some 8 ∧ zzj 72 = some (.nilFunc) ∧ zzg 72 = none ∧ zze 73 = some false := by (repeat' apply And.intro) <;> kernel_rfl
@[go_sem] theorem Tryz.facts14 : zzf 73 = some 1 ∧ zzb 73 = some 8 ∧ zzj 73 = some (.nilFunc) ∧ zzg 73 = none ∧ zze 75 = some false ∧ zzf 75 = some 1 ∧ zzb 75 = some 8 ∧ zzj 75 = some (.nilFunc) ∧ zzg 75 = none ∧ zze 76 = some false ∧ zzf 76 = some 1 ∧ zzb 76 = some 8 ∧ zzj 76 = some (.nilFunc) ∧ zzg 76 = none ∧ zze 77 = some false ∧ zzf 77 = some 1 ∧ zzb 77 = some 8 ∧ zzj 77 = some (.nilFunc) ∧ zzg 77 = none ∧ zze 78 = some false := by (repeat' apply And.intro) <;> kernel_rfl
@[go_sem] theorem Tryz.facts15 : zzf 78 = some 1 ∧ zzb 78 = some 24 ∧ zzj 78 = some (.slice none 0 0) ∧ prog.underlying 78 = some (.slice 34) ∧ zze 79 = some false ∧ zzf 79 = some 1 ∧ zzb 79 = some 8 ∧ zzj 79 = some (.nilFunc) ∧ zzg 79 = none ∧ zze 80 = some false ∧ zzf 80 = some 1 ∧ zzb 80 = some 24 ∧ zzj 80 = some (.slice none 0 0) ∧ prog.underlying 80 = some (.slice 4) ∧ zze 81 = some false ∧ zzf 81 = some 1 ∧ zzb 81 = some 8 ∧ zzj 81 = some (.nilFunc) ∧ zzg 81 = none ∧ zze 82 = some true := by (repeat' apply And.intro) <;> kernel_rfl
@[go_sem] theorem Tryz.facts16 : zzf 82 = some 2 ∧ zzb 82 = some 32 ∧ zzj 82 = some (.agg #[.string ⟨#[]⟩, .string ⟨#[]⟩]) ∧ zzg 82 = none ∧ zzi 82 = true ∧ x8 prog 82 0 = some (9, 0) ∧ x8 prog 82 1 = some (9, 1) ∧ zze 83 = some true ∧ zzg 83 = none ∧ zzi 83 = true ∧ x8 prog 83 0 = some (9, 0) ∧ x8 prog 83 1 = some (9, 1) ∧ zze 84 = some false ∧ zzf 84 = some 1 ∧ zzb 84 = some 8 ∧ zzj 84 = some (.int .u64 0) ∧ zzg 84 = none ∧ zzd 84 = some .u64 ∧ prog.underlying 84 = some (.int .u64) ∧ zze 85 = some true := by (repeat' apply And.intro) <;> kernel_rfl
@[go_sem] theorem Tryz.facts17 : zzf 85 = some 3 ∧ zzb 85 = some 40 ∧ zzj 85 = some (.agg #[.slice none 0 0, .int .i64 0, .int .u64 0]) ∧ zzg 85 = none ∧ zzi 85 = true ∧ x8 prog 85 0 = some (23, 0) ∧ x8 prog 85 1 = some (3, 1) ∧ x8 prog 85 2 = some (84, 2) ∧ zze 86 = some true ∧ zzf 86 = some 3 ∧ zzb 86 = some 40 ∧ zzj 86 = some (.agg #[.slice none 0 0, .int .i64 0, .int .u64 0]) ∧ zzg 86 = none ∧ zzi 86 = true ∧ x8 prog 86 0 = some (23, 0) ∧ x8 prog 86 1 = some (3, 1) ∧ x8 prog 86 2 = some (84, 2) ∧ zze 87 = some false ∧ zzf 87 = some 1 ∧ zzb 87 = some 8 := by (repeat' apply And.intro) <;> kernel_rfl
@[go_sem] theorem Tryz.facts18 : zzj 87 = some (.nilFunc) ∧ zzg 87 = none ∧ zze 88 = some false ∧ zzf 88 = some 1 ∧ zzb 88 = some 8 ∧ zzj 88 = some (.nilFunc) ∧ zzg 88 = none ∧ zze 89 = some false ∧ zzf 89 = some 1 ∧ zzb 89 = some 8 ∧ zzj 89 = some (.int .u64 0) ∧ zzg 89 = none ∧ zzd 89 = some .u64 ∧ prog.underlying 89 = some (.int .u64) ∧ zze 90 = some false ∧ zzg 90 = none ∧ zzh 90 = true ∧ zzd 90 = none ∧ prog.underlying 90 = some (.string) ∧ zze 92 = some false := by (repeat' apply And.intro) <;> kernel_rfl
@[go_sem] theorem Tryz.facts19 : zzf 92 = some 1 ∧ zzb 92 = some 8 ∧ zzj 92 = some (.nilFunc) ∧ zzg 92 = none ∧ zze 94 = some false ∧ zzf 94 = some 1 ∧ zzb 94 = some 8 ∧ zzj 94 = some (.nilFunc) ∧ zzg 94 = none ∧ zze 95 = some false ∧ zzf 95 = some 1 ∧ zzb 95 = some 8 ∧ zzj 95 = some (.nilFunc) ∧ zzg 95 = none ∧ zze 97 = some false ∧ zzf 97 = some 1 ∧ zzb 97 = some 8 ∧ zzj 97 = some (.nilFunc) ∧ zzg 97 = none ∧ zze 99 = some false := by (repeat' apply And.intro) <;> kernel_rfl
@[go_sem] theorem Tryz.facts20 : zzf 99 = some 1 ∧ zzb 99 = some 8 ∧ zzj 99 = some (.nilFunc) ∧ zzg 99 = none ∧ zze 100 = some false ∧ zzf 100 = some 1 ∧ zzb 100 = some 8 ∧ zzj 100 = some (.nilFunc) ∧ zzg 100 = none ∧ zze 101 = some false ∧ zzf 101 = some 1 ∧ zzb 101 = some 8 ∧ zzj 101 = some (.nilFunc) ∧ zzg 101 = none ∧ zze 103 = some false ∧ zzf 103 = some 1 ∧ zzb 103 = some 8 ∧ zzj 103 = some (.nilFunc) ∧ zzg 103 = none ∧ zze 104 = some false := by (repeat' apply And.intro) <;> kernel_rfl
@[go_sem] theorem Tryz.facts21 : zzf 104 = some 1 ∧ zzb 104 = some 8 ∧ zzj 104 = some (.nilFunc) ∧ zzg 104 = none ∧ zze 105 = some false ∧ zzf 105 = some 1 ∧ zzb 105 = some 8 ∧ zzj 105 = some (.nilFunc) ∧ zzg 105 = none ∧ zze 106 = some false ∧ zzf 106 = some 1 ∧ zzb 106 = some 8 ∧ zzj 106 = some (.nilFunc) ∧ zzg 106 = none ∧ zze 107 = some false ∧ zzf 107 = some 1 ∧ zzb 107 = some 8 ∧ zzj 107 = some (.nilFunc) ∧ zzg 107 = none ∧ zze 110 = some false := by (repeat' apply And.intro) <;> kernel_rfl
@[go_sem] theorem Tryz.facts22 : zzf 110 = some 1 ∧ zzb 110 = some 8 ∧ zzj 110 = some (.nilFunc) ∧ zzg 110 = none ∧ zze 111 = some false ∧ zzf 111 = some 1 ∧ zzb 111 = some 8 ∧ zzj 111 = some (.nilFunc) ∧ zzg 111 = none ∧ zze 112 = some false ∧ zzf 112 = some 1 ∧ zzb 112 = some 8 ∧ zzj 112 = some (.nilFunc) ∧ zzg 112 = none ∧ zze 113 = some false ∧ zzf 113 = some 1 ∧ zzb 113 = some 8 ∧ zzj 113 = some (.nilFunc) ∧ zzg 113 = none ∧ zze 114 = some false := by (repeat' apply And.intro) <;> kernel_rfl
@[go_sem] theorem Tryz.facts23 : zzf 114 = some 1 ∧ zzb 114 = some 8 ∧ zzj 114 = some (.nilFunc) ∧ zzg 114 = none ∧ zze 116 = some false ∧ zzf 116 = some 1 ∧ zzb 116 = some 8 ∧ zzj 116 = some (.nilFunc) ∧ zzg 116 = none ∧ zze 117 = some false ∧ zzf 117 = some 1 ∧ zzb 117 = some 8 ∧ zzj 117 = some (.nilFunc) ∧ zzg 117 = none ∧ zze 118 = some false ∧ zzf 118 = some 1 ∧ zzb 118 = some 8 ∧ zzj 118 = some (.nilFunc) ∧ zzg 118 = none ∧ zze 119 = some false := by (repeat' apply And.intro) <;> kernel_rfl
@[go_sem] theorem Tryz.facts24 : zzf 119 = some 1 ∧ zzb 119 = some 8 ∧ zzj 119 = some (.nilFunc) ∧ zzg 119 = none ∧ zze 120 = some false ∧ zzf 120 = some 1 ∧ zzb 120 = some 8 ∧ zzj 120 = some (.nilFunc) ∧ zzg 120 = none ∧ zze 121 = some false ∧ zzf 121 = some 1 ∧ zzb 121 = some 8 ∧ zzj 121 = some (.nilFunc) ∧ zzg 121 = none ∧ zze 122 = some false ∧ zzf 122 = some 1 ∧ zzb 122 = some 8 ∧ zzj 122 = some (.nilFunc) ∧ zzg 122 = none ∧ zze 123 = some false := by (repeat' apply And.intro) <;> kernel_rfl
@[go_sem] theorem Tryz.facts25 : zzf 123 = some 1 ∧ zzb 123 = some 8 ∧ zzj 123 = some (.nilFunc) ∧ zzg 123 = none ∧ zze 124 = some false ∧ zzf 124 = some 1 ∧ zzb 124 = some 24 ∧ zzj 124 = some (.slice none 0 0) ∧ prog.underlying 124 = some (.slice 90) ∧ zze 125 = some false ∧ zzf 125 = some 1 ∧ zzb 125 = some 8 ∧ zzj 125 = some (.nilFunc) ∧ zzg 125 = none ∧ zze 126 = some false ∧ zzf 126 = some 1 ∧ zzb 126 = some 8 ∧ zzj 126 = some (.nilFunc) ∧ zzg 126 = none ∧ zze 127 = some false := by (repeat' apply And.intro) <;> kernel_rfl
@[go_sem] theorem Tryz.facts26 : zzf 127 = some 1 ∧ zzb 127 = some 8 ∧ zzj 127 = some (.nilFunc) ∧ zzg 127 = none ∧ zze 128 = some false ∧ zzf 128 = some 1 ∧ zzb 128 = some 8 ∧ zzj 128 = some (.nilFunc) ∧ zzg 128 = none ∧ zze 129 = some false ∧ zzf 129 = some 1 ∧ zzb 129 = some 8 ∧ zzj 129 = some (.nilFunc) ∧ zzg 129 = none ∧ zze 130 = some false ∧ zzf 130 = some 1 ∧ zzb 130 = some 8 ∧ zzj 130 = some (.nilFunc) ∧ zzg 130 = none ∧ zze 131 = some false := by (repeat' apply And.intro) <;> kernel_rfl
@[go_sem] theorem Tryz.facts27 : zzf 131 = some 1 ∧ zzb 131 = some 8 ∧ zzj 131 = some (.nilFunc) ∧ zzg 131 = none ∧ zze 132 = some false ∧ zzf 132 = some 1 ∧ zzb 132 = some 8 ∧ zzj 132 = some (.nilFunc) ∧ zzg 132 = none ∧ zze 133 = some false ∧ zzf 133 = some 1 ∧ zzb 133 = some 8 ∧ zzj 133 = some (.nilFunc) ∧ zzg 133 = none ∧ zze 134 = some false ∧ zzf 134 = some 1 ∧ zzb 134 = some 8 ∧ zzj 134 = some (.nilFunc) ∧ zzg 134 = none ∧ zze 135 = some false := by (repeat' apply And.intro) <;> kernel_rfl
@[go_sem] theorem Tryz.facts28 : zzf 135 = some 1 ∧ zzb 135 = some 8 ∧ zzj 135 = some (.nilFunc) ∧ zzg 135 = none ∧ zze 136 = some false ∧ zzf 136 = some 1 ∧ zzb 136 = some 8 ∧ zzj 136 = some (.nilFunc) ∧ zzg 136 = none ∧ zze 137 = some false ∧ zzf 137 = some 1 ∧ zzb 137 = some 8 ∧ zzj 137 = some (.nilFunc) ∧ zzg 137 = none ∧ zze 138 = some false ∧ zzf 138 = some 1 ∧ zzb 138 = some 8 ∧ zzj 138 = some (.nilFunc) ∧ zzg 138 = none ∧ zze 139 = some false := by (repeat' apply And.intro) <;> kernel_rfl
@[go_sem] theorem Tryz.facts29 : zzf 139 = some 1 ∧ zzb 139 = some 8 ∧ zzj 139 = some (.nilFunc) ∧ zzg 139 = none ∧ zze 140 = some false ∧ zzf 140 = some 1 ∧ zzb 140 = some 8 ∧ zzj 140 = some (.nilFunc) ∧ zzg 140 = none ∧ zze 141 = some false ∧ zzf 141 = some 1 ∧ zzb 141 = some 24 ∧ zzj 141 = some (.slice none 0 0) ∧ prog.underlying 141 = some (.slice 5) ∧ zze 142 = some false ∧ zzf 142 = some 1 ∧ zzb 142 = some 8 ∧ zzj 142 = some (.nilFunc) ∧ zzg 142 = none ∧ zze 143 = some false := by (repeat' apply And.intro) <;> kernel_rfl
@[go_sem] theorem Tryz.facts30 : zzf 143 = some 1 ∧ zzb 143 = some 8 ∧ zzj 143 = some (.nilFunc) ∧ zzg 143 = none ∧ zze 144 = some false ∧ zzf 144 = some 1 ∧ zzb 144 = some 8 ∧ zzj 144 = some (.nilFunc) ∧ zzg 144 = none ∧ zze 145 = some false ∧ zzf 145 = some 1 ∧ zzb 145 = some 8 ∧ zzj 145 = some (.nilFunc) ∧ zzg 145 = none ∧ zze 146 = some false ∧ zzf 146 = some 1 ∧ zzb 146 = some 16 ∧ zzj 146 = some (.nilIface) ∧ zzg 146 = none ∧ zze 147 = some false := by (repeat' apply And.intro) <;> kernel_rfl
@[go_sem] theorem Tryz.facts31 : zzf 147 = some 1 ∧ zzb 147 = some 16 ∧ zzj 147 = some (.nilIface) ∧ zzg 147 = none ∧ zze 149 = some false ∧ zzf 149 = some 1 ∧ zzb 149 = some 8 ∧ zzj 149 = some (.nilFunc) ∧ zzg 149 = none ∧ zze 150 = some false ∧ zzf 150 = some 1 ∧ zzb 150 = some 16 ∧ zzj 150 = some (.string ⟨#[]⟩) ∧ zzg 150 = none ∧ zzh 150 = true ∧ zzd 150 = none ∧ prog.underlying 150 = some (.string) ∧ zze 151 = some false ∧ zzf 151 = some 1 ∧ zzb 151 = some 8 := by (repeat' apply And.intro) <;> kernel_rfl
@[go_sem] theorem Tryz.facts32 : zzj 151 = some (.nilFunc) ∧ zzg 151 = none ∧ zze 153 = some false ∧ zzf 153 = some 1 ∧ zzb 153 = some 8 ∧ zzj 153 = some (.nilFunc) ∧ zzg 153 = none ∧ zze 154 = some false ∧ zzf 154 = some 1 ∧ zzb 154 = some 8 ∧ zzj 154 = some (.nilFunc) ∧ zzg 154 = none ∧ zze 155 = some false ∧ zzf 155 = some 1 ∧ zzb 155 = some 8 ∧ zzj 155 = some (.map none) ∧ zzg 155 = none ∧ zze 156 = some false ∧ zzf 156 = some 1 ∧ zzb 156 = some 8 := by (repeat' apply And.intro) <;> kernel_rfl
@[go_sem] theorem Tryz.facts33 : zzj 156 = some (.nilFunc) ∧ zzg 156 = none ∧ zze 157 = some false ∧ zzf 157 = some 1 ∧ zzb 157 = some 8 ∧ zzj 157 = some (.nilFunc) ∧ zzg 157 = none ∧ zze 158 = some false ∧ zzf 158 = some 1 ∧ zzb 158 = some 8 ∧ zzj 158 = some (.nilFunc) ∧ zzg 158 = none ∧ zze 159 = some false ∧ zzf 159 = some 1 ∧ zzb 159 = some 8 ∧ zzj 159 = some (.nilFunc) ∧ zzg 159 = none ∧ zze 161 = some false ∧ zzf 161 = some 1 ∧ zzb 161 = some 8 := by (repeat' apply And.intro) <;> kernel_rfl
@[go_sem] theorem Tryz.facts34 : zzj 161 = some (.nilFunc) ∧ zzg 161 = none ∧ zze 162 = some false ∧ zzf 162 = some 1 ∧ zzb 162 = some 8 ∧ zzj 162 = some (.nilFunc) ∧ zzg 162 = none ∧ zze 165 = some false ∧ zzf 165 = some 1 ∧ zzb 165 = some 8 ∧ zzj 165 = some (.pointer none) ∧ zzg 165 = none ∧ zze 166 = some false ∧ zzf 166 = some 1 ∧ zzb 166 = some 8 ∧ zzj 166 = some (.int .u64 0) ∧ zzg 166 = none ∧ zzd 166 = some .u64 ∧ prog.underlying 166 = some (.int .u64) ∧ zzi 167 = true := by (repeat' apply And.intro) <;> kernel_rfl
@[go_sem] theorem Tryz.facts35 : zze 168 = some true ∧ zzf 168 = some 3 ∧ zzb 168 = some 24 ∧ zzj 168 = some (.agg #[.pointer none, .pointer none, .int .u64 0]) ∧ zzg 168 = none ∧ zzi 168 = true ∧ x8 prog 168 0 = some (17, 0) ∧ x8 prog 168 1 = some (165, 1) ∧ x8 prog 168 2 = some (166, 2) ∧ zze 169 = some false ∧ zzf 169 = some 1 ∧ zzb 169 = some 8 ∧ zzj 169 = some (.nilFunc) ∧ zzg 169 = none ∧ zze 170 = some false ∧ zzf 170 = some 1 ∧ zzb 170 = some 16 ∧ zzj 170 = some (.nilIface) ∧ zzg 170 = none ∧ zze 171 = some false := by (repeat' apply And.intro) <;> kernel_rfl
@[go_sem] theorem Tryz.facts36 : zzf 171 = some 1 ∧ zzb 171 = some 16 ∧ zzj 171 = some (.nilIface) ∧ zzg 171 = none ∧ zze 172 = some false ∧ zzf 172 = some 1 ∧ zzb 172 = some 8 ∧ zzj 172 = some (.nilFunc) ∧ zzg 172 = none ∧ zze 173 = some false ∧ zzf 173 = some 1 ∧ zzb 173 = some 1 ∧ zzj 173 = some (.int .u8 0) ∧ zzg 173 = none ∧ zzd 173 = some .u8 ∧ prog.underlying 173 = some (.int .u8) ∧ zze 178 = some false ∧ zzf 178 = some 1 ∧ zzb 178 = some 8 ∧ zzj 178 = some (.pointer none) := by (repeat' apply And.intro) <;> kernel_rfl
@[go_sem] theorem Tryz.facts37 : zzg 178 = none ∧ zze 179 = some true ∧ zzf 179 = some 2 ∧ zzb 179 = some 32 ∧ zzj 179 = some (.agg #[.pointer none, .slice none 0 0]) ∧ zzg 179 = none ∧ zzi 179 = true ∧ x8 prog 179 0 = some (178, 0) ∧ x8 prog 179 1 = some (141, 1) ∧ zze 180 = some true ∧ zzf 180 = some 2 ∧ zzb 180 = some 32 ∧ zzj 180 = some (.agg #[.pointer none, .slice none 0 0]) ∧ zzg 180 = none ∧ zzi 180 = true ∧ x8 prog 180 0 = some (178, 0) ∧ x8 prog 180 1 = some (141, 1) ∧ zze 181 = some false ∧ zzf 181 = some 1 ∧ zzb 181 = some 8 := by (repeat' apply And.intro) <;> kernel_rfl
@[go_sem] theorem Tryz.facts38 : zzj 181 = some (.nilFunc) ∧ zzg 181 = none ∧ zze 187 = some false ∧ zzf 187 = some 1 ∧ zzb 187 = some 8 ∧ zzj 187 = some (.nilFunc) ∧ zzg 187 = none ∧ zze 189 = some true ∧ zzg 189 = none ∧ zza 189 = some (2, 9) ∧ prog.underlying 189 = some (.array 2 9) ∧ zze 190 = some false ∧ zzf 190 = some 1 ∧ zzb 190 = some 24 ∧ zzj 190 = some (.slice none 0 0) ∧ prog.underlying 190 = some (.slice 189) ∧ zze 191 = some false ∧ zzf 191 = some 1 ∧ zzb 191 = some 8 ∧ zzj 191 = some (.nilFunc) := by (repeat' apply And.intro) <;> kernel_rfl
@[go_sem] theorem Tryz.facts39 : zzg 191 = none ∧ zze 192 = some false ∧ zzf 192 = some 1 ∧ zzb 192 = some 8 ∧ zzj 192 = some (.nilFunc) ∧ zzg 192 = none ∧ zze 193 = some true ∧ zzf 193 = some 1 ∧ zzb 193 = some 8 ∧ zzj 193 = some (.agg #[.pointer none]) ∧ zzg 193 = none ∧ zzi 193 = true ∧ x8 prog 193 0 = some (17, 0) ∧ zze 194 = some true ∧ zzf 194 = some 1 ∧ zzb 194 = some 8 ∧ zzj 194 = some (.agg #[.pointer none]) ∧ zzg 194 = none ∧ zzi 194 = true ∧ x8 prog 194 0 = some (17, 0) := by (repeat' apply And.intro) <;> kernel_rfl
@[go_sem] theorem Tryz.facts40 : zze 207 = some false ∧ zzf 207 = some 1 ∧ zzb 207 = some 8 ∧ zzj 207 = some (.pointer none) ∧ zzg 207 = none ∧ zze 219 = some false ∧ zzf 219 = some 1 ∧ zzb 219 = some 24 ∧ zzj 219 = some (.slice none 0 0) ∧ prog.underlying 219 = some (.slice 231) ∧ zze 220 = some true ∧ zzf 220 = some 256 ∧ zzb 220 = some 256 ∧ zzg 220 = none ∧ zza 220 = some (256, 5) ∧ prog.underlying 220 = some (.array 256 5) ∧ zzi 221 = true ∧ zze 222 = some true ∧ zzf 222 = some 2 ∧ zzb 222 = some 2 := by (repeat' apply And.intro) <;> kernel_rfl
@[go_sem] theorem Tryz.facts41 : zzj 222 = some (.agg #[.int .u8 0, .int .u8 0]) ∧ zzg 222 = none ∧ zzi 222 = true ∧ x8 prog 222 0 = some (5, 0) ∧ x8 prog 222 1 = some (5, 1) ∧ zze 223 = some true ∧ zzf 223 = some 32 ∧ zzb 223 = some 32 ∧ zzg 223 = none ∧ zza 223 = some (16, 222) ∧ prog.underlying 223 = some (.array 16 222) ∧ zze 224 = some false ∧ zzf 224 = some 1 ∧ zzb 224 = some 4 ∧ zzj 224 = some (.int .u32 0) ∧ zzg 224 = none ∧ zzd 224 = some .u32 ∧ prog.underlying 224 = some (.int .u32) ∧ zze 225 = some false ∧ zzf 225 = some 1 := by (repeat' apply And.intro) <;> kernel_rfl
@[go_sem] theorem Tryz.facts42 : zzb 225 = some 8 ∧ zzj 225 = some (.pointer none) ∧ zzg 225 = none ∧ zze 227 = some false ∧ zzf 227 = some 1 ∧ zzb 227 = some 8 ∧ zzj 227 = some (.nilFunc) ∧ zzg 227 = none ∧ zza 228 = some (3, 21) ∧ zze 229 = some true ∧ zzf 229 = some 3 ∧ zzb 229 = some 12 ∧ zzg 229 = none ∧ zza 229 = some (3, 21) ∧ prog.underlying 229 = some (.array 3 21) ∧ zze 230 = some true ∧ zzf 230 = some 5 ∧ zzb 230 = some 20 ∧ zzj 230 = some (.agg #[.int .u32 0, .int .u32 0, .int .i32 0, .int .i32 0, .int .i32 0]) ∧ zzg 230 = none := by (repeat' apply And.intro) <;> kernel_rfl
@[go_sem] theorem Tryz.facts43 : zzi 230 = true ∧ x8 prog 230 0 = some (224, 0) ∧ x8 prog 230 1 = some (224, 1) ∧ x8 prog 230 2 = some (229, 2) ∧ zze 231 = some true ∧ zzg 231 = none ∧ zzi 231 = true ∧ x8 prog 231 0 = some (224, 0) ∧ x8 prog 231 1 = some (224, 1) ∧ x8 prog 231 2 = some (229, 2) ∧ zzi 232 = true ∧ zzi 233 = true ∧ zza 234 = some (0, 16) ∧ zzi 235 = true ∧ zzi 236 = true ∧ zzd 238 = some .u8 ∧ zze 240 = some false ∧ zzf 240 = some 1 ∧ zzb 240 = some 4 ∧ zzj 240 = some (.int .i32 0) := by (repeat' apply And.intro) <;> kernel_rfl
@[go_sem] theorem Tryz.facts44 : zzg 240 = none ∧ zzd 240 = some .i32 ∧ prog.underlying 240 = some (.int .i32) ∧ zzd 241 = some .i32 ∧ zzi 242 = true ∧ zzi 243 = true ∧ zzi 246 = true ∧ zzi 247 = true ∧ zzd 250 = some .u16 ∧ zzi 251 = true ∧ zzi 252 = true ∧ zzd 254 = some .i32 ∧ zzi 255 = true ∧ zzi 256 = true ∧ zzc 5 = true ∧ zzc 15 = true ∧ zzc 16 = true ∧ zzc 17 = true ∧ zzc 18 = true ∧ zzc 19 = true := by (repeat' apply And.intro) <;> kernel_rfl
@[go_sem] theorem Tryz.facts45 : zzc 21 = true ∧ zzc 22 = true ∧ zzc 23 = true ∧ zzc 24 = true ∧ zzc 25 = true ∧ zzc 26 = true ∧ zzc 27 = true ∧ zzc 28 = true ∧ zzc 29 = true ∧ zzc 30 = true ∧ zzc 31 = true ∧ zzc 32 = true ∧ zzc 33 = true ∧ zzc 34 = true ∧ zzc 35 = true ∧ zzc 36 = true ∧ zzc 37 = true ∧ zzc 38 = true ∧ zzc 39 = true ∧ zzc 40 = true := by (repeat' apply And.intro) <;> kernel_rfl
@[go_sem] theorem Tryz.facts46 : zzc 41 = true ∧ zzc 42 = true ∧ zzc 43 = true ∧ zzc 44 = true ∧ zzc 45 = true ∧ zzc 46 = true ∧ zzc 47 = true ∧ zzc 48 = true ∧ zzc 49 = true ∧ zzc 54 = true ∧ zzc 56 = true ∧ zzc 57 = true ∧ zzc 58 = true ∧ zzc 59 = true ∧ zzc 61 = true ∧ zzc 62 = true ∧ zzc 63 = true ∧ zzc 66 = true ∧ zzc 67 = true ∧ zzc 68 = true := by (repeat' apply And.intro) <;> kernel_rfl
@[go_sem] theorem Tryz.facts47 : zzc 69 = true ∧ zzc 70 = true ∧ zzc 71 = true ∧ zzc 72 = true ∧ zzc 73 = true ∧ zzc 74 = true ∧ zzc 75 = true ∧ zzc 76 = true ∧ zzc 77 = true ∧ zzc 78 = true ∧ zzc 79 = true ∧ zzc 80 = true ∧ zzc 81 = true ∧ zzc 82 = true ∧ zzc 83 = true ∧ zzc 84 = true ∧ zzc 85 = true ∧ zzc 86 = true ∧ zzc 87 = true ∧ zzc 88 = true := by (repeat' apply And.intro) <;> kernel_rfl
@[go_sem] theorem Tryz.facts48 : zzc 89 = true ∧ zzc 90 = true ∧ zzc 91 = true ∧ zzc 92 = true ∧ zzc 93 = true ∧ zzc 94 = true ∧ zzc 95 = true ∧ zzc 96 = true ∧ zzc 97 = true ∧ zzc 99 = true ∧ zzc 100 = true ∧ zzc 101 = true ∧ zzc 102 = true ∧ zzc 103 = true ∧ zzc 104 = true ∧ zzc 105 = true ∧ zzc 106 = true ∧ zzc 107 = true ∧ zzc 110 = true ∧ zzc 111 = true := by (repeat' apply And.intro) <;> kernel_rfl
@[go_sem] theorem Tryz.facts49 : zzc 112 = true ∧ zzc 113 = true ∧ zzc 114 = true ∧ zzc 115 = true ∧ zzc 116 = true ∧ zzc 117 = true ∧ zzc 118 = true ∧ zzc 119 = true ∧ zzc 120 = true ∧ zzc 121 = true ∧ zzc 122 = true ∧ zzc 123 = true ∧ zzc 124 = true ∧ zzc 125 = true ∧ zzc 126 = true ∧ zzc 127 = true ∧ zzc 128 = true ∧ zzc 129 = true ∧ zzc 130 = true ∧ zzc 131 = true := by (repeat' apply And.intro) <;> kernel_rfl
@[go_sem] theorem Tryz.facts50 : zzc 132 = true ∧ zzc 133 = true ∧ zzc 134 = true ∧ zzc 135 = true ∧ zzc 136 = true ∧ zzc 137 = true ∧ zzc 138 = true ∧ zzc 139 = true ∧ zzc 140 = true ∧ zzc 141 = true ∧ zzc 142 = true ∧ zzc 143 = true ∧ zzc 144 = true ∧ zzc 145 = true ∧ zzc 146 = true ∧ zzc 147 = true ∧ zzc 148 = true ∧ zzc 149 = true ∧ zzc 150 = true ∧ zzc 151 = true := by (repeat' apply And.intro) <;> kernel_rfl
@[go_sem] theorem Tryz.facts51 : zzc 152 = true ∧ zzc 153 = true ∧ zzc 154 = true ∧ zzc 155 = true ∧ zzc 156 = true ∧ zzc 160 = true ∧ zzc 161 = true ∧ zzc 162 = true ∧ zzc 167 = true ∧ zzc 169 = true ∧ zzc 170 = true ∧ zzc 171 = true ∧ zzc 172 = true ∧ zzc 173 = true ∧ zzc 178 = true ∧ zzc 189 = true ∧ zzc 190 = true ∧ zzc 191 = true ∧ zzc 193 = true := by (repeat' apply And.intro) <;> kernel_rfl
end Go.Abs
namespace Go.Proofs
end Go.Proofs

namespace Go.Abs
open Go
abbrev M5 (f : FuncId) (v : Value) : AV := .raw (.func (.func f) #[v] #[])
section
variable {P : Program} {E : Env} {I : Nat → Prop} {loc : Nat → Loc} {σ : AS} {a : Act} {w : World}
theorem zED (hs : SR E I loc σ a w) {o : Oper} {f : FuncId} {x : Operand} (hop : o.op = .makeFunc (.func f) #[x] #[]) {v : Value} (hx : σ.ev x = .raw v) (hd : ∀ d, o.dst = some d → d < σ.n) {next : Act → World → Prop} {Q : Exit → Act → World → Prop}
  (hn : ∀ a' w', St E (σ.putD o.dst (M5 f v)) a' w' → next a' w') : o.wp P a w next Q := by
 have e := hs.ev x
 rw [hx] at e
 have e := e.raw_eq
 have hr : (execOp a.eval o).run P w = .ok (.value (.func (.func f) #[v] #[])) w := by
  simp [execOp, hop, Instr.makeFunc, e]
 exact S7 hr (hn _ _ ⟨I, loc, hs.putD (.pure (.raw _ rfl)) hd⟩)
theorem zEE (hs : SR E I loc σ a w) {o : Oper} {fo : Operand} {args : Array Operand} {ts : Array TypeId} (hop : o.op = .call ⟨.value fo, args, ts⟩) {f : FuncId} {v : Value} (hv1 : v.oneCell' = true) (hfe : σ.ev fo = M5 f v) (hc : t7 P f = true) {nx : Nat} {K : Cont}
  (h : zN1 P f (.raw v :: args.toList.map σ.ev) σ.obj nx K) (hd : ∀ d, o.dst = some d → d < σ.n) {next : Act → World → Prop} {Q : Exit → Act → World → Prop}
  (hn : ∀ v rd wr a' w', K v rd wr → St E ((σ.writes wr).putD o.dst v) a' w' → next a' w') : o.wp P a w next Q := by
 obtain ⟨T, t0, ids, ex, as', fp, r, out, sp, hm, hK⟩ := h
 have hfo := hs.ev fo
 obtain ⟨g1, g2⟩ := Y8 hs args
 rw [hfe] at hfo
 have e := hfo.raw_eq
 have hr : (execOp a.eval o).run P w = .ok (.enter f (#[v] ++ args.map a.eval)) w := by
  simp only [execOp, hop, resolve, e, Deferred.ofValue, Sem.run_bind, Sem.run_pure, Result.andThen_ok, invoke, Array.append_empty]
  exact J7 hc _
 have k1 : (AV.raw v :: args.toList.map σ.ev).length = (#[v] ++ args.map a.eval).size := by
  rw [List.length_cons, g1, Array.size_append]; simp; omega
 have k2 : ∀ i (h : i < (AV.raw v :: args.toList.map σ.ev).length) (h' : i < (#[v] ++ args.map a.eval).size), VR w I loc (AV.raw v :: args.toList.map σ.ev)[i] (#[v] ++ args.map a.eval)[i] := fun i h h' => by
  cases i with
  | zero =>
   have e0 : (#[v] ++ args.map a.eval)[0] = v := by rw [Array.getElem_append_left (by simp)]; rfl
   rw [e0]
   exact .pure (.raw _ hv1)
  | succ i =>
   have hi : i < (args.toList.map σ.ev).length := by simpa using h
   have hi2 : i < (args.map a.eval).size := by omega
   have e2 : (#[v] ++ args.map a.eval)[i + 1] = (args.map a.eval)[i] := by
    rw [Array.getElem_append_right (by simp)]; simp
   rw [e2, List.getElem_cons_succ]
   exact g2 i hi hi2
 have hcalls : Calls P f (#[v] ++ args.map a.eval) w fun e w' => ∃ t v I' loc', e = .returned v ∧ SR E I' loc' (σ.writes (r6 ids nx (out t))) a w' ∧ VR w' I' loc' ((r t).ren (x9 ids nx)) v := by
  obtain ⟨⟨h1, h2, h3⟩, _⟩ := M7 hs k1 k2 (hm t0)
  refine (sp w _ _ _ h1 h2 h3).mono ?_
  rintro e w' ⟨t, hp⟩
  obtain ⟨_, hb⟩ := M7 hs k1 k2 (hm t)
  obtain ⟨v, I', loc', h4, h5, h6, _⟩ := hb e w' hp
  exact ⟨t, v, I', loc', h4, h5, h6⟩
 refine zAk hr (hcalls.mono ?_)
 rintro e w' ⟨t, v, I', loc', he, hsr, hvr⟩
 exact ⟨v, he, hn _ _ _ _ _ (hK t) ⟨I', loc', hsr.putD hvr (fun d e => by rw [(f9 _ σ).1]; exact hd d e)⟩⟩
end
section
variable {P : Program} {E : Env} {Q : Exit → AS → Prop} {σ : AS} {p : List Nat} {b : Code}
theorem zHP {id : Nat} {ops : List Oper} (k : Nat) (h : sub p b = .region id ops.toArray false) {o : Oper} (hk : ops[k]? = some o) {f : FuncId} {x : Operand} (hop : o.op = .makeFunc (.func f) #[x] #[]) (hg : o.guard = none) {v : Value}
  (hx : y4 P ops (fun σ1 _ => (match o.dst with | some d => ltN d σ1.n | none => True) ∧ σ1.ev x = .raw v ∧
   y4 P ops (fun σ' _ => Q .normal σ') (ops.drop (k + 1)) (σ1.putD o.dst (M5 f v)) []) (ops.take k) σ []) : Hold P E (sub p b) Q σ := by
 obtain ⟨hlt, he⟩ := List.getElem?_eq_some_iff.1 hk
 have e : ops = ops.take k ++ o :: ops.drop (k + 1) := by
  rw [← he, ← List.drop_eq_getElem_cons hlt, List.take_append_drop]
 obtain ⟨pre, hpre⟩ : ∃ pre, pre = ops.take k := ⟨_, rfl⟩
 obtain ⟨post, hpost⟩ : ∃ post, post = ops.drop (k + 1) := ⟨_, rfl⟩
 rw [← hpre, ← hpost] at e hx
 rw [h]
 clear h hk he hlt hpre hpost
 subst e
 intro a w hs
 refine wpIn_wide.1 (wpIn_region_list (n := 0) ?_)
 have tail : ∀ (ops : List Oper) (σ : AS) (a : Act) (w : World), y4 P (pre ++ o :: post) (fun σ' _ => Q .normal σ') ops σ [] → St E σ a w → wpListIn Fence.wide 0 P (pre ++ o :: post).toArray (zNU E Q) ops a w := fun ops σ a w h hs => by
  have := Y4 (P := P) (E := E) (Q := zNU E Q) (post := []) (all := pre ++ o :: post) (fun σ' _ a' w' h1 h2 => (⟨σ', h1, h2⟩ : zNU E Q .normal a' w')) ops σ [] a w h hs
  simpa using this
 refine Y4 (post := o :: post) ?_ pre σ [] a w hx hs
 rintro σ1 ts1 a1 w1 ⟨hd, hfe, he⟩ ⟨I1, loc1, hs1⟩
 unfold wpListIn
 have hw : Region.wanted o (yielded (pre ++ o :: post).toArray a1.tmps) = true := by unfold Region.wanted; rw [hg]
 rw [if_pos hw]
 exact zOL (zED hs1 hop hfe (fun d e => by rw [e] at hd; exact hd) (fun a' w' hst => tail post _ a' w' he hst))
theorem zCp {id : Nat} {ops : List Oper} (k : Nat) (h : sub p b = .region id ops.toArray false) {o : Oper} (hk : ops[k]? = some o) {fo : Operand} {args : Array Operand} {ts : Array TypeId} (hop : o.op = .call ⟨.value fo, args, ts⟩) {f : FuncId} (hc : t7 P f = true) (hg : o.guard = none) {v : Value} (hv1 : v.oneCell' = true)
  (hx : y4 P ops (fun σ1 _ => (match o.dst with | some d => ltN d σ1.n | none => True) ∧ σ1.ev fo = M5 f v ∧
   zN1 P f (.raw v :: args.toList.map σ1.ev) σ1.obj σ1.nx (fun v _ wr => y4 P ops (fun σ' _ => Q .normal σ') (ops.drop (k + 1)) ((σ1.writes wr).putD o.dst v) [])) (ops.take k) σ []) : Hold P E (sub p b) Q σ := by
 obtain ⟨hlt, he⟩ := List.getElem?_eq_some_iff.1 hk
 have e : ops = ops.take k ++ o :: ops.drop (k + 1) := by
  rw [← he, ← List.drop_eq_getElem_cons hlt, List.take_append_drop]
 obtain ⟨pre, hpre⟩ : ∃ pre, pre = ops.take k := ⟨_, rfl⟩
 obtain ⟨post, hpost⟩ : ∃ post, post = ops.drop (k + 1) := ⟨_, rfl⟩
 rw [← hpre, ← hpost] at e hx
 rw [h]
 clear h hk he hlt hpre hpost
 subst e
 intro a w hs
 refine wpIn_wide.1 (wpIn_region_list (n := 0) ?_)
 have tail : ∀ (ops : List Oper) (σ : AS) (a : Act) (w : World), y4 P (pre ++ o :: post) (fun σ' _ => Q .normal σ') ops σ [] → St E σ a w → wpListIn Fence.wide 0 P (pre ++ o :: post).toArray (zNU E Q) ops a w := fun ops σ a w h hs => by
  have := Y4 (P := P) (E := E) (Q := zNU E Q) (post := []) (all := pre ++ o :: post) (fun σ' _ a' w' h1 h2 => (⟨σ', h1, h2⟩ : zNU E Q .normal a' w')) ops σ [] a w h hs
  simpa using this
 refine Y4 (post := o :: post) ?_ pre σ [] a w hx hs
 rintro σ1 ts1 a1 w1 ⟨hd, hfe, he⟩ ⟨I1, loc1, hs1⟩
 unfold wpListIn
 have hw : Region.wanted o (yielded (pre ++ o :: post).toArray a1.tmps) = true := by unfold Region.wanted; rw [hg]
 rw [if_pos hw]
 exact zOL (zEE hs1 hop hv1 hfe hc he (fun d e => by rw [e] at hd; exact hd) (fun v rd wr a' w' hk hst => tail post _ a' w' hk hst))
end
theorem zC7 {P : Program} {f : FuncId} {args : List AV} {fp : List AObj} {r : AV} {out : List AObj} (sp : zNF P f args fp r out) : R2 (T := Unit) P f args fp (fun _ => r) (fun _ => out) := fun w I loc vs h1 h2 h3 =>
 (sp w I loc vs h1 h2 h3).mono fun e w' ⟨v, I', loc', h4, h5⟩ => ⟨(), v, I', loc', h4, h5⟩
end Go.Abs

namespace Go.Abs
open Go
abbrev iV (n : Int) : AV := .raw (.int .i64 n)
abbrev bV (b : Bool) : AV := .raw (.bool b)
abbrev zOk : AV := .raw (.slice none 0 0)
@[go_sem] theorem zLB {α β : Type} [Inhabited α] {f : α → β} {l : List α} {i : Nat} {d : β} (h : i < l.length) : (l.map f).getD i d = f (l.getD i default) := by
 simp [List.getD, h]
@[go_sem] theorem zLj (n : Nat) : (0 ≤ (n : Int)) = True := by simp
@[go_sem] theorem zLh (m n : Nat) : ((m : Int) < (n : Int)) = (m < n) := by simp
@[go_sem] theorem zLf (m n : Nat) : ((m : Int) ≤ (n : Int)) = (m ≤ n) := by simp
attribute [go_sem] Int.toNat_natCast List.length_map List.length_append List.length_take Nat.zero_add Nat.add_zero
theorem wrap_i64 {n : Int} (h0 : -9223372036854775808 ≤ n) (h1 : n ≤ 9223372036854775807) : IntKind.i64.wrap n = n := by
 rw [IntKind.wrap_i64]; omega
theorem t6 {n : Nat} (h : n < 9223372036854775807) : IntKind.i64.wrap ((n : Int) + 1) = ((n + 1 : Nat) : Int) := by
 rw [wrap_i64 (by omega) (by omega)]; omega
structure Plate where
 number : Int
 letter : Int
 deriving DecidableEq, Inhabited
structure House where
 street : Int
 plate : Plate
 deriving DecidableEq, Inhabited
abbrev zNR := List (List Plate)
@[reducible] def Plate.enc (p : Plate) : AV := .agg [iV p.number, iV p.letter]
@[reducible] def House.enc (p : House) : AV := .agg [iV p.street, iV p.plate.number, iV p.plate.letter]
@[reducible] def C5 (l : List Plate) : AV := .list (l.map Plate.enc)
@[reducible] def zEs (p : zNR) : AV := .agg [.list (p.map C5)]
attribute [go_sem] Plate.enc House.enc C5 zEs
def zBl : Nat → zNR → List House
 | _, [] => []
 | i, l :: r => l.map (fun x => ⟨i, x⟩) ++ zBl (i + 1) r
def zFz (p : zNR) : List House := zBl 0 p
end Go.Abs

namespace Go.Abs
open Go
structure Change where
 kind : Int
 street : Int
 other : Int
 src : Plate
 dst : Plate
 deriving DecidableEq, Inhabited
structure Fact where
 src : House
 dst : House
 deriving DecidableEq, Inhabited
structure Story where
 first : zNR
 steps : List (List Change)
 facts : List Fact
 deriving DecidableEq, Inhabited
@[reducible] def Change.enc (c : Change) : AV := .agg [iV c.kind, iV c.street, iV c.other, iV c.src.number, iV c.src.letter, iV c.dst.number, iV c.dst.letter]
@[reducible] def Fact.enc (f : Fact) : AV := .agg [iV f.src.street, iV f.src.plate.number, iV f.src.plate.letter, iV f.dst.street, iV f.dst.plate.number, iV f.dst.plate.letter]
@[reducible] def zBG (l : List Change) : AV := .agg [.list (l.map Change.enc)]
@[reducible] def Story.enc (s : Story) : AV := .agg [.list (s.first.map C5), .list (s.steps.map zBG), .list (s.facts.map Fact.enc)]
@[reducible] def zEr (l : List House) : AV := .list (l.map House.enc)
attribute [go_sem] Change.enc Fact.enc zBG Story.enc zEr
theorem j3 {α : Type} [Inhabited α] {l : List α} {i : Nat} (h : i < l.length) : l.drop i = l.getD i default :: l.drop (i + 1) := by
 rw [List.drop_eq_getElem_cons h]; simp [List.getD, h]
theorem c0 {α : Type} {l : List α} {i : Nat} (h : l.length ≤ i) : l.drop i = [] := List.drop_of_length_le h
theorem o7 {α : Type} [Inhabited α] {l : List α} {i : Nat} (h : i < l.length) : l.getD i default ∈ l := by simp [List.getD, h]
def zN8 (n lo hi : Int) : Bool := decide (lo ≤ n) && decide (n ≤ hi)
def Plate.ok (x : Plate) : Bool := zN8 x.number 1 40 && zN8 x.letter 0 4
def Plate.lt (a b : Plate) : Bool := decide (a.number < b.number) || (decide (a.number = b.number) && decide (a.letter < b.letter))
def House.lt (a b : House) : Bool := decide (a.street < b.street) || (decide (a.street = b.street) && a.plate.lt b.plate)
def zNV (a b : Int) : Int := if a < b then -1 else if b < a then 1 else 0
def orI (a b : Int) : Int := if a = 0 then b else a
def zOa (a b : Plate) : Int := orI (zNV a.number b.number) (zNV a.letter b.letter)
def zOi (a b : House) : Int := orI (zNV a.street b.street) (zOa a.plate b.plate)
def H7 : Option Plate → List Plate → Int
 | _, [] => 0
 | none, x :: r => if x.ok = true then H7 (some x) r else 1
 | some y, x :: r => if x.ok = true then (if y.lt x = true then H7 (some x) r else 5) else 1
def zBB : zNR → Int
 | [] => 0
 | l :: r => if 8 < l.length then 6 else if H7 none l = 0 then zBB r else H7 none l
def check (p : zNR) : Int := if p.length = 0 then 7 else if 3 < p.length then 6 else zBB p
structure Sound (l : List Plate) : Prop where
 len : l.length ≤ 8
 ok : ∀ x, x ∈ l → x.ok = true
 sorted : l.Pairwise (fun x y => x.lt y = true)
structure Valid (p : zNR) : Prop where
 ne : 0 < p.length
 len : p.length ≤ 3
 rows : ∀ l, l ∈ p → Sound l
def S4 (p : zNR) (s : Int) : List Plate := p.getD s.toNat default
def zOU (x : Plate) : Bool := decide (x.number % 2 = 1)
def base (l : List Plate) : Int := let n := l.foldl (fun n x => max n x.number) 0; n + n % 2
def zOW (l : List Plate) (x : Plate) : Int := if x ∈ l then (l.idxOf x : Nat) else -1
def letter (l : List Plate) (n : Int) : Int :=
 if ⟨n, 1⟩ ∉ l then 1 else if ⟨n, 2⟩ ∉ l then 2 else if ⟨n, 3⟩ ∉ l then 3 else if ⟨n, 4⟩ ∉ l then 4 else 0
def zBV (p : zNR) (c : Change) : Int :=
 let l := S4 p c.street
 if c.kind = 4 then
  let o := S4 p c.other
  if 8 < l.length + o.length then 6 else if l.any (fun x => decide (40 < x.number + base o)) = true then 1 else 0
 else if c.kind = 5 then if c.src ∉ l then 3 else if l.length = 8 ∨ letter l c.src.number = 0 then 6 else 0
 else if c.kind = 6 then if c.src ∉ l then 3 else 0
 else if c.kind = 7 then if c.src ∉ l ∨ c.dst ∉ l then 3 else if c.dst.lt c.src = true then 5 else if 0 < (S4 p c.other).length then 12 else 0
 else 0
def R0 : Plate := ⟨0, 0⟩
def can (p : zNR) (c : Change) : Int :=
 if zN8 c.kind 1 7 = false then 8
 else if zN8 c.street 0 (p.length - 1) = false then 3
 else if (c.kind = 4 ∨ c.kind = 7) ∧ zN8 c.other 0 (p.length - 1) = false then 3
 else if (c.kind = 4 ∨ c.kind = 7) ∧ c.other = c.street then 4
 else if (¬ (c.kind = 4 ∨ c.kind = 7) ∧ c.other ≠ 0) ∨ (¬ 5 ≤ c.kind ∧ c.src ≠ R0) ∨ (¬ c.kind = 7 ∧ c.dst ≠ R0) then 1
 else zBV p c
def toP (p : zNR) (c : Change) (x : Plate) : List House :=
 let l := S4 p c.street
 let own := l.filter (fun y => zOU y == zOU x)
 let k := own.idxOf x
 if c.kind = 1 then [⟨c.street, own.getD (own.length - 1 - k) default⟩]
 else if c.kind = 2 then [⟨c.street, ⟨if zOU x = true then x.number + 1 else x.number - 1, x.letter⟩⟩]
 else if c.kind = 3 then [⟨c.street, ⟨2 * (k : Nat) + 2 - x.number % 2, 0⟩⟩]
 else if c.kind = 4 then [⟨c.other, ⟨x.number + base (S4 p c.other), x.letter⟩⟩]
 else if c.kind = 5 then if x = c.src then [⟨c.street, x⟩, ⟨c.street, ⟨x.number, letter l x.number⟩⟩] else [⟨c.street, x⟩]
 else if c.kind = 6 then if x = c.src then [] else [⟨c.street, x⟩]
 else if c.kind = 7 then if x.lt c.src = false ∧ c.dst.lt x = false then [⟨c.other, ⟨zOW l x - zOW l c.src + 1, 0⟩⟩] else [⟨c.street, x⟩]
 else [⟨c.street, x⟩]
def mv (p : zNR) (c : Change) (h : House) : List House := if h.street = c.street then toP p c h.plate else [h]
def zOX (x : House) : List House → List House
 | [] => [x]
 | y :: r => if y.lt x = true then y :: zOX x r else if y = x then y :: r else x :: y :: r
def zHe (l : List House) : List House := l.foldl (fun out x => zOX x out) []
def laid (l : List House) (n : Nat) : zNR := (List.range n).map fun (s : Nat) => ((zHe l).filter (fun h => h.street == (s : Int))).map House.plate
def zFZ (p : zNR) (c : Change) : List House := (zFz p).flatMap (mv p c)
def zDd (p : zNR) (c : Change) : zNR := laid (zFZ p c) p.length
def zKY (p : zNR) (c : Change) : Int := if check p = 0 then can p c else check p
def zEY (kind : Int) (p : zNR) (s : Nat) : List Change :=
 if kind = 4 then (List.range p.length).map fun o => ⟨4, s, (o : Nat), R0, R0⟩
 else if kind = 5 ∨ kind = 6 then (p.getD s default).map fun x => ⟨kind, s, 0, x, R0⟩
 else [⟨kind, s, 0, R0, R0⟩]
def zEZ (p : zNR) : List Change := ([1, 2, 3, 4, 5, 6] : List Int).flatMap fun k => (List.range p.length).flatMap fun s => (zEY k p s).filter fun c => decide (can p c = 0)
def o6 {α β : Type} (f : α → Option β) : List α → Option β
 | [] => none
 | x :: r => match f x with
  | some y => some y
  | none => o6 f r
def zBj : Nat → zNR → zNR → Option (List Change)
 | 0, p, q => if p = q then some [] else none
 | n + 1, p, q => o6 (fun c => (zBj n (zDd p c) q).map (c :: ·)) (zEZ p)
def zLE (p q : zNR) : Option (List Change) := o6 (fun n => zBj n p q) [0, 1, 2]
end Go.Abs

namespace Go.Abs
open Go Go.Proofs Tryz
attribute [go_sem] bne_eq_false_iff_eq Bool.not_eq_true' Bool.not_eq_false'
@[go_sem] theorem zLk (n : Nat) : ((0 : Int) < (n : Int)) = (0 < n) := by simp
@[go_sem] theorem zLg (n : Nat) : ((n : Int) ≤ 0) = (n ≤ 0) := by simp
attribute [go_sem] Nat.mul_one List.length_set Nat.le_refl Nat.sub_zero
@[go_sem] theorem zLi (n : Nat) : ((n : Int) < 2) = (n < 2) := by simp; omega
@[go_sem] theorem zLW : ((0 : Nat) : Int) = 0 := rfl
@[go_sem] theorem zLX : ((1 : Nat) : Int) = 1 := rfl
@[go_sem] theorem zLY : ((2 : Nat) : Int) = 2 := rfl
@[go_sem] theorem zLZ : ((3 : Nat) : Int) = 3 := rfl
@[go_sem] theorem zLa : ((4 : Nat) : Int) = 4 := rfl
@[go_sem] theorem zLb : ((5 : Nat) : Int) = 5 := rfl
@[go_sem] theorem zLc : ((6 : Nat) : Int) = 6 := rfl
@[go_sem] theorem zLd : ((7 : Nat) : Int) = 7 := rfl
@[go_sem] theorem zLe : ((8 : Nat) : Int) = 8 := rfl
@[go_sem] theorem zM5 {α β : Type} (f : α → β) (l : List α) : (l.map f).take l.length = l.map f := List.take_of_length_le (by simp)
theorem zDa {H : Nat → AObj} {m : List (Option Nat)} {ex : List Nat} {α : Type} {f : α → AV} (hf : ∀ x, XpF H m ex (f x) (f x)) : ∀ l : List α, XpL H m ex (l.map f) (l.map f)
 | [] => by simp [zAu]
 | x :: r => by simp only [List.map_cons, D2]; exact ⟨hf x, zDa hf r⟩
@[go_sem] theorem zKu (H : Nat → AObj) (n : Nat) (f : Fn) (a b : Array Value) : zNH H (n + 1) (.raw (.func f a b)) = (.raw (.func f a b), []) := rfl
theorem x5 {P : Program} {f : FuncId} {avs : List AV} {H : Nat → AObj} {nx : Nat} {K : Cont} {r : AV} (sp : zNF P f avs [] r []) (h : XpL H [] [] avs avs) (hk : K (r.ren (x9 [] nx)) [] []) : y9 P f avs H nx K :=
 r7 [] [] sp (by simp) h trivial (by simp) (.inl rfl) (fun j hj => by simp at hj) (fun A hA => by simp at hA) hk
theorem R7 (ex : List Nat) {P : Program} {f : FuncId} {avs : List AV} {H : Nat → AObj} {nx : Nat} {K : Cont} {args : List AV} {r : AV} (sp : zNF P f args [] r []) (h : XpL H [] ex args avs) (hs : Scal r) (hk : K (r.ren (x9 [] nx)) ex []) : y9 P f avs H nx K :=
 r7 [] ex sp (by simp) h trivial (by simp) (.inr ⟨hs, fun A hA => by simp at hA⟩) (fun j hj => by simp at hj) (fun A hA => by simp at hA) (by simpa [c8, r6, zNL] using hk)
section
variable {P : Program} {E : Env} {Q : Exit → AS → Prop} {σ : AS} {p : List Nat} {b : Code}
theorem Qd {id : Nat} {ops : List Oper} (h : sub p b = .region id ops.toArray true) (he : L2 ops = true) (hx : y4 prog ops (fun σ' ts => T6 ops ts = true ∧ Q .normal σ') ops σ []) : Hold prog E (sub p b) Q σ := zHR h mixed he hx
theorem Qc {c : Operand} {t : Bool} (h : A0 (sub p b) = some c) (ht : σ.ev c = .raw (.bool t)) (h1 : t = true → Hold P E (sub (0 :: p) b) Q σ) (h2 : t = false → Hold P E (sub (1 :: p) b) Q σ) : Hold P E (sub p b) Q σ := F9 h ⟨t, ht, h1, h2⟩
theorem y5 {f : FuncId} {avs : List AV} {H : Nat → AObj} {nx : Nat} {K : Cont} {r : AV} (sp : zNF P f avs [] r []) (hk : K (r.ren (x9 [] nx)) [] []) (h : XpL H [] [] avs avs := by simp only [go_sem, *]; done) : y9 P f avs H nx K := x5 sp h hk
theorem j1 {f : FuncId} {avs : List AV} {H : Nat → AObj} {nx : Nat} {K : Cont} {r : AV} {out : List AObj} (sp : zNF P f avs [] r out) (hk : K (r.ren (x9 [] nx)) (c8 [] nx out) (r6 [] nx out)) (h : XpL H [] [] avs avs := by simp only [go_sem, *]; done)
  (hu : ∀ j, j < out.length → H (nx + j) = .unb := by first | (simp; done) | (simp [go_sem]; done)) (h7 : ∀ A, A ∈ out → A ≠ .unb := by first | (simp; done) | (simp [go_sem]; done)) : y9 P f avs H nx K :=
 r7 [] [] sp (by simp) h trivial (by simp) (.inl rfl) (fun j hj => hu j (by simpa using hj)) h7 (by simpa using hk)
theorem v8 {f : FuncId} {avs : List AV} {H : Nat → AObj} {nx : Nat} {K : Cont} (ids : List Nat) {args : List AV} {fp : List AObj} {r : AV} {out : List AObj} (sp : zNF P f args fp r out) (hk : K (r.ren (x9 ids nx)) (ids ++ [] ++ c8 ids nx out) (r6 ids nx out))
  (h1 : ids.Nodup := by simp) (h2 : XpL H (ids.map some) [] args avs := by simp only [go_sem, *]; done) (h3 : fpsF H (ids.map some) [] fp ids := by simp only [go_sem, *]; done)
  (h6 : ∀ j, j < out.length - ids.length → H (nx + j) = .unb := by first | (simp; done) | (simp [go_sem]; done)) (h7 : ∀ A, A ∈ out → A ≠ .unb := by first | (simp; done) | (simp [go_sem]; done)) : y9 P f avs H nx K :=
 r7 ids [] sp h1 h2 h3 (by simp) (.inl rfl) h6 h7 hk
theorem n0 (h : G2 (sub p b) = true) (L : Nat) (R : Nat → Prop) (N : Nat) (env : Nat → List (Nat × AV)) (As : Nat → List AObj) (m : List (Option Nat)) (ex : List Nat) (hp : R 0)
  (hx : ∀ i, i ≤ L → R i → Hold P E (sub (0 :: p) b) (q6 (fun σ' => ∃ n', n' < L - i ∧ ∃ m ex zN zenv zAs, Weak E.n m ex σ' zN zenv zAs ∧ ∃ i, n' = L - i ∧ i ≤ L ∧ R i ∧ zN = N ∧ zenv = env i ∧ zAs = As i) Q) ⟨N, env i, zNL 0 (As i)⟩)
  (hW : Weak E.n m ex σ N (env 0) (As 0) := by (simp only [Weak, go_sem, List.map_append, List.map_set, *] <;> (try simp (disch := omega) only [t6]) <;> (try simp) <;> (try omega))) : Hold P E (sub p b) Q σ := by
 refine zAR h (fun zn zN zenv zAs => ∃ i, zn = L - i ∧ i ≤ L ∧ R i ∧ zN = N ∧ zenv = env i ∧ zAs = As i) L ⟨m, ex, _, _, _, hW, 0, rfl, Nat.zero_le _, hp, rfl, rfl, rfl⟩ ?_
 rintro _ _ _ _ ⟨i, rfl, hi, hP, rfl, rfl, rfl⟩
 exact hx i hi hP
theorem d7 {L B i' N : Nat} {R : Nat → Prop} {env : Nat → List (Nat × AV)} {As : Nat → List AObj} {n : Nat} {σ' : AS} (m : List (Option Nat)) (ex : List Nat) (hp : R i') (h1 : L - i' < B := by omega) (h2 : i' ≤ L := by omega)
  (hW : Weak n m ex σ' N (env i') (As i') := by (simp only [Weak, go_sem, List.map_append, List.map_set, *] <;> (try simp (disch := omega) only [t6]) <;> (try simp) <;> (try omega))) :
  ∃ n', n' < B ∧ ∃ m ex zN zenv zAs, Weak n m ex σ' zN zenv zAs ∧ ∃ i, n' = L - i ∧ i ≤ L ∧ R i ∧ zN = N ∧ zenv = env i ∧ zAs = As i := ⟨_, h1, m, ex, _, _, _, hW, i', rfl, h2, hp, rfl, rfl, rfl⟩
theorem c7 {α : Type} (h : G2 (sub p b) = true) (L : Nat) (R : Nat → α → Prop) (N : Nat) (env : Nat → α → List (Nat × AV)) (As : Nat → α → List AObj) (m : List (Option Nat)) (ex : List Nat) (w : α) (hp : R 0 w)
  (hx : ∀ i v, i ≤ L → R i v → Hold P E (sub (0 :: p) b) (q6 (fun σ' => ∃ n', n' < L - i ∧ ∃ m ex zN zenv zAs, Weak E.n m ex σ' zN zenv zAs ∧ ∃ i v, n' = L - i ∧ i ≤ L ∧ R i v ∧ zN = N ∧ zenv = env i v ∧ zAs = As i v) Q) ⟨N, env i v, zNL 0 (As i v)⟩)
  (hW : Weak E.n m ex σ N (env 0 w) (As 0 w) := by (simp only [Weak, go_sem, List.map_append, List.map_set, *] <;> (try simp (disch := omega) only [t6]) <;> (try simp) <;> (try omega))) : Hold P E (sub p b) Q σ := by
 refine zAR h (fun zn zN zenv zAs => ∃ i v, zn = L - i ∧ i ≤ L ∧ R i v ∧ zN = N ∧ zenv = env i v ∧ zAs = As i v) L ⟨m, ex, _, _, _, hW, 0, w, rfl, Nat.zero_le _, hp, rfl, rfl, rfl⟩ ?_
 rintro _ _ _ _ ⟨i, v, rfl, hi, hP, rfl, rfl, rfl⟩
 exact hx i v hi hP
theorem p5 {α : Type} {L B i' N : Nat} {R : Nat → α → Prop} {env : Nat → α → List (Nat × AV)} {As : Nat → α → List AObj} {n : Nat} {σ' : AS} (m : List (Option Nat)) (ex : List Nat) (w : α) (hp : R i' w) (h1 : L - i' < B := by omega) (h2 : i' ≤ L := by omega)
  (hW : Weak n m ex σ' N (env i' w) (As i' w) := by (simp only [Weak, go_sem, List.map_append, List.map_set, *] <;> (try simp (disch := omega) only [t6]) <;> (try simp) <;> (try omega))) :
  ∃ n', n' < B ∧ ∃ m ex zN zenv zAs, Weak n m ex σ' zN zenv zAs ∧ ∃ i v, n' = L - i ∧ i ≤ L ∧ R i v ∧ zN = N ∧ zenv = env i v ∧ zAs = As i v := ⟨_, h1, m, ex, _, _, _, hW, i', w, rfl, h2, hp, rfl, rfl, rfl⟩
theorem O0 {α β : Type} (h : G2 (sub p b) = true) (L : Nat) (R : Nat → α → β → Prop) (N : Nat) (env : Nat → α → β → List (Nat × AV)) (As : Nat → α → β → List AObj) (m : List (Option Nat)) (ex : List Nat) (w : α) (x : β) (hp : R 0 w x)
  (hx : ∀ i v u, i ≤ L → R i v u → Hold P E (sub (0 :: p) b) (q6 (fun σ' => ∃ n', n' < L - i ∧ ∃ m ex zN zenv zAs, Weak E.n m ex σ' zN zenv zAs ∧ ∃ i v u, n' = L - i ∧ i ≤ L ∧ R i v u ∧ zN = N ∧ zenv = env i v u ∧ zAs = As i v u) Q) ⟨N, env i v u, zNL 0 (As i v u)⟩)
  (hW : Weak E.n m ex σ N (env 0 w x) (As 0 w x) := by (simp only [Weak, go_sem, List.map_append, List.map_set, *] <;> (try simp (disch := omega) only [t6]) <;> (try simp) <;> (try omega))) : Hold P E (sub p b) Q σ := by
 refine zAR h (fun zn zN zenv zAs => ∃ i v u, zn = L - i ∧ i ≤ L ∧ R i v u ∧ zN = N ∧ zenv = env i v u ∧ zAs = As i v u) L ⟨m, ex, _, _, _, hW, 0, w, x, rfl, Nat.zero_le _, hp, rfl, rfl, rfl⟩ ?_
 rintro _ _ _ _ ⟨i, v, u, rfl, hi, hP, rfl, rfl, rfl⟩
 exact hx i v u hi hP
theorem i7 {α β : Type} {L B i' N : Nat} {R : Nat → α → β → Prop} {env : Nat → α → β → List (Nat × AV)} {As : Nat → α → β → List AObj} {n : Nat} {σ' : AS} (m : List (Option Nat)) (ex : List Nat) (w : α) (x : β) (hp : R i' w x) (h1 : L - i' < B := by omega) (h2 : i' ≤ L := by omega)
  (hW : Weak n m ex σ' N (env i' w x) (As i' w x) := by (simp only [Weak, go_sem, List.map_append, List.map_set, *] <;> (try simp (disch := omega) only [t6]) <;> (try simp) <;> (try omega))) :
  ∃ n', n' < B ∧ ∃ m ex zN zenv zAs, Weak n m ex σ' zN zenv zAs ∧ ∃ i v u, n' = L - i ∧ i ≤ L ∧ R i v u ∧ zN = N ∧ zenv = env i v u ∧ zAs = As i v u := ⟨_, h1, m, ex, _, _, _, hW, i', w, x, rfl, h2, hp, rfl, rfl, rfl⟩
end
structure Hid (p : Prop) : Prop where
 out : p
structure Own (ids : List Nat) (p : Prop) : Prop where
 out : p
structure Frz (p : Prop) : Prop where
 out : p
theorem own (ids : List Nat) {p : Prop} (h : p) : Own ids p := ⟨h⟩
theorem frz {p : Prop} (h : p) : Frz p := ⟨h⟩
theorem L9 {k : IntKind} {a b : Int} (h : a = b) : Value.int k a = Value.int k b := by rw [h]
end Go.Abs

