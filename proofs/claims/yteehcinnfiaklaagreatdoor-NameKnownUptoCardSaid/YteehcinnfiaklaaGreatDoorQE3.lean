/-
  WHAT THE PROOF STANDS ON, PART 3: contracts of the program's functions and the logic that they are proved in. No condition.
-/
import Derived.Test.YteehcinnfiaklaaGreatDoorQE2
set_option maxRecDepth 100000
set_option maxHeartbeats 4000000
set_option linter.unusedVariables false
set_option linter.unusedSimpArgs false
set_option linter.unusedSectionVars false
namespace Go.Abs
open Go Go.Proofs Tryz
attribute [go_sem] List.take_length List.length_drop
section
variable {P : Program} {E : Env} {Q : Exit → AS → Prop} {σ : AS} {p : List Nat} {b c : Code} {l : Nat}
def N2 : Code → Code
 | .rangeFunc _ _ a _ => a
 | _ => .skip
def N3 : Code → Code
 | .rangeFunc _ _ _ b => b
 | _ => .skip
def zF9 : Code → Option (Operand × Array Tmp)
 | .rangeFunc g ps _ _ => some (g, ps)
 | _ => none
theorem l5 {id : Nat} {ops : List Oper} (h : c = .region id ops.toArray false) (hx : y4 P ops (fun σ' _ => Q .normal σ') ops σ []) : HoldR l P E c Q σ := by rw [h]; exact zFi hx
theorem T9 {id : Nat} (h : zBs c = some id) (hx : HoldR l P E (U7 0 c) (z8 id Q) σ) : HoldR l P E c Q σ := by
 cases c with
 | block i c => cases h; exact zFf hx
 | _ => cases h
theorem E0 {g : Operand} {ps : Array Tmp} (h : zF9 (sub p b) = some (g, ps)) {f : FuncId} {caps : List AV} (hg : σ.ev g = .fn f caps) (hc : t7 P f = true) {nx : Nat} (hnx : σ.obj nx = .unb)
  (hx : ∀ fn, ∃ nx', y9 P f (.yld nx :: caps) (σ.setO nx (.loopo ⟨fn, ps, N2 (sub p b), N3 (sub p b), σ.n⟩ σ.env (some none))).obj nx' (fun _ _ wr => zCc P E Q nx ((σ.setO nx (.loopo ⟨fn, ps, N2 (sub p b), N3 (sub p b), σ.n⟩ σ.env (some none))).writes wr))) : Hold P E (sub p b) Q σ := by
 cases hq : sub p b with
 | rangeFunc g' ps' a b' =>
  rw [hq] at h hx; cases h
  exact zFt hg hc hnx hx
 | _ => rw [hq] at h; cases h
theorem I3 {id : Nat} {ops : List Oper} (k : Nat) (h : sub p b = .region id ops.toArray false) {o : Oper} (hk : ops[k]? = some o) {fo : Operand} {args : Array Operand} {ts : Array TypeId} (hop : o.op = .call ⟨.value fo, args, ts⟩)
  (hx : y4 P ops (fun σ1 _ => p7 ops σ1 o
   ((match o.dst with | some d => ltN d σ1.n | none => True) ∧ S8 P (σ1.ev fo) (args.toList.map σ1.ev) σ1.obj σ1.nx (fun v _ wr => y4 P ops (fun σ' _ => Q .normal σ') (ops.drop (k + 1)) ((σ1.writes wr).putD o.dst v) []))
   ((match o.dst with | some d => ltN d σ1.n | none => True) ∧ y4 P ops (fun σ' _ => Q .normal σ') (ops.drop (k + 1)) (σ1.putD o.dst (.tup [])) [])) (ops.take k) σ []) : Hold P E (sub p b) Q σ := by
 obtain ⟨hlt, he⟩ := List.getElem?_eq_some_iff.1 hk
 have e : ops = ops.take k ++ o :: ops.drop (k + 1) := by
  rw [← he, ← List.drop_eq_getElem_cons hlt, List.take_append_drop]
 obtain ⟨pre, hpre⟩ : ∃ pre, pre = ops.take k := ⟨_, rfl⟩
 obtain ⟨post, hpost⟩ : ∃ post, post = ops.drop (k + 1) := ⟨_, rfl⟩
 rw [← hpre, ← hpost] at e hx
 rw [h]
 clear h hk he hlt hpre hpost
 subst e
 exact zFy hop hx
end
theorem zBi {all : List Oper} {σ : AS} {o : Oper} {j d : Nat} {want : Bool} {Y N : Prop} (hg : o.guard = some (j, want)) (hj : (all[j]?).bind (·.dst) = some d) (hv : σ.get d = .raw (.bool want)) (h : Y) : p7 all σ o Y N := by
 unfold p7
 rw [hg]
 simp only [hj, hv]
 show gIf want want Y N
 unfold gIf
 exact ⟨fun _ => h, fun e => by cases want <;> cases e⟩
theorem zBg {all : List Oper} {σ : AS} {o : Oper} {j d : Nat} {want : Bool} {Y N : Prop} (hg : o.guard = some (j, want)) (hj : (all[j]?).bind (·.dst) = some d) (hv : σ.get d = .raw (.bool !want)) (h : N) : p7 all σ o Y N := by
 unfold p7
 rw [hg]
 simp only [hj, hv]
 show gIf (!want) want Y N
 unfold gIf
 exact ⟨fun e => (by cases want <;> cases e), fun _ => h⟩
theorem D0 {P : Program} {y : AV} {avs : List AV} {H : Nat → AObj} {nx : Nat} {K : Cont} {oid : Nat} (ids ex : List Nat) {args : List AV} {fp : List AObj} {r : AV} {out : List AObj} (sp : e7 P args fp r out)
  (hy : y = .yld oid) (hh : ids.head? = some oid) (h1 : ids.Nodup) (h2 : XpL H (ids.map some) ex args avs) (h3 : fpsF H (ids.map some) ex fp ids) (h4 : ∀ o, o ∈ ex → o ∉ ids) (h5 : ex = [] ∨ (Scal r ∧ ∀ A, A ∈ out → R1 A))
  (h6 : ∀ j, j < out.length - ids.length → H (nx + j) = .unb) (h7 : ∀ A, A ∈ out → A ≠ .unb) (hk : K (r.ren (x9 ids nx)) (ids ++ ex ++ c8 ids nx out) (r6 ids nx out)) : S8 P y avs H nx K := by
 refine ⟨oid, ids, ex, args, fp, r, out, hy, hh, ⟨sp, h1, h4, ?_, (fpsF.sound h3).1, fun k h => ?_, h5, h6, h7⟩, hk⟩
 ·rw [← N4]; exact XpL.all2 h2
 ·rw [← N4]; exact (fpsF.sound h3).2 k h
theorem Q4 {P : Program} {f : FuncId} {avs as' args : List AV} {H : Nat → AObj} {nx : Nat} {K : Cont} {r : AV} {fp out : List AObj} (ids gone : List Nat) (sp : zNF P f args fp r out) (ha : (avs.map fun x => (zNH H 3 x).1) = as') (hg : (avs.map fun x => (zNH H 3 x).2).flatten = gone)
  (h1 : ids.Nodup) (h2 : XpL (fun o => if o ∈ gone then .dead else H o) (ids.map some) [] args as') (h3 : fpsF (fun o => if o ∈ gone then .dead else H o) (ids.map some) [] fp ids)
  (h6 : ∀ j, j < out.length - ids.length → (if nx + j ∈ gone then AObj.dead else H (nx + j)) = .unb) (h7 : ∀ A, A ∈ out → A ≠ .unb)
  (hk : K (r.ren (x9 ids nx)) (gone ++ (ids ++ c8 ids nx out)) (u6 gone ++ r6 ids nx out)) : y9 P f avs H nx K := by
 refine zEM ?_
 rw [ha, hg]
 exact zA9 ids [] sp h1 h2 h3 (by simp) (.inl rfl) h6 h7 (by simpa using hk)
theorem zDZ {H : Nat → AObj} {m : List (Option Nat)} {ex : List Nat} {x y : AV} : ∀ (xs : List AV), (∀ z, z ∈ xs → XpF H m ex z z) → (XpL H m ex (xs ++ [x]) (xs ++ [y]) ↔ XpF H m ex x y)
 | [], _ => by simp only [List.nil_append, D2, zAu, and_true]
 | z :: r, h => by
  simp only [List.cons_append, D2]
  rw [zDZ r (fun z hz => h z (by simp [hz]))]
  exact ⟨fun h => h.2, fun h2 => ⟨h z (by simp), h2⟩⟩
section
variable {P : Program} {E : Env} {Q : Exit → AS → Prop} {σ : AS} {c : Code} {l : Nat}
theorem Q2 (h : zBu c = true) (hx : HoldR l P E (U7 0 c) (q6 (HoldR l P E (U7 1 c) Q) Q) σ) : HoldR l P E c Q σ := by
 cases c with
 | seq x y => exact zFj hx
 | _ => cases h
theorem U0 {o : Operand} {t : Bool} (h : A0 c = some o) (ht : σ.ev o = .raw (.bool t)) (h1 : t = true → HoldR l P E (U7 0 c) Q σ) (h2 : t = false → HoldR l P E (U7 1 c) Q σ) : HoldR l P E c Q σ := by
 cases c with
 | cond o' x y => cases h; exact zFg ht h1 h2
 | _ => cases h
theorem J4 (h : c = .skip) (hx : Q .normal σ) : HoldR l P E c Q σ := by rw [h]; exact zFk hx
theorem zG0 {id : Nat} (h : c = .exit id) (hx : Q (.exit id) σ) : HoldR l P E c Q σ := by rw [h]; exact zFh hx
end
section
variable {P : Program} {E : Env} {I : Nat → Prop} {loc : Nat → Loc} {σ : AS} {a : Act} {w : World} {l0 : Nat}
theorem F4 {all : List Oper} {K : AS → List Touch → Prop} {Q : Exit → Act → World → Prop} {post : List Oper} (hK : ∀ σ ts a w, K σ ts → St E σ a w → wpListIn (FR l0) 0 P all.toArray Q post a w) :
  ∀ (ops : List Oper) (σ : AS) (ts : List Touch) (a : Act) (w : World), y4 P all K ops σ ts → St E σ a w → wpListIn (FR l0) 0 P all.toArray Q (ops ++ post) a w
 | [], σ, ts, a, w, h, hs => hK σ ts a w h hs
 | o :: rest, σ, ts, a, w, h, ⟨I, loc, hs⟩ => by
  rw [List.cons_append]
  unfold wpListIn
  rcases T3 hs h with ⟨hw, hd, he⟩ | ⟨hw, hd, hr⟩
  ·rw [if_pos hw]
   exact zDO (zBL he) (L3 hs he (fun d e => by rw [e] at hd; exact hd) (fun v rd wr a' w' hk hst => F4 hK rest _ _ a' w' hk hst))
  ·rw [hw, if_neg (by simp)]
   exact ⟨fun _ _ => trivial, F4 hK rest _ _ _ _ hr ⟨I, loc, hs.putD Y5 (fun d e => by rw [e] at hd; exact hd)⟩⟩
theorem zJU (hs : SR E I loc σ a w) {o : Oper} {fo : Operand} {args : Array Operand} {ts : Array TypeId} (hop : o.op = .call ⟨.value fo, args, ts⟩) {nx : Nat} {K : Cont}
  (h : S8 P (σ.ev fo) (args.toList.map σ.ev) σ.obj nx K) (hd : ∀ d, o.dst = some d → d < σ.n) {next : Act → World → Prop} {Q : Exit → Act → World → Prop}
  (hn : ∀ v rd wr a' w', K v rd wr → St E ((σ.writes wr).putD o.dst v) a' w' → next a' w') : o.wpIn (FR l0) 0 P a w next Q := by
 obtain ⟨oid, ids, ex, args', fp, r, out, hy, hh, hm, hK⟩ := h
 obtain ⟨g1, g2⟩ := Y8 hs args
 have hfo := hs.ev fo
 rw [hy] at hfo
 generalize hfv : a.eval fo = fv at hfo
 obtain ⟨l, c, lp, h1, h2, h3, h4⟩ := D7 (C := roundC P) roundC.mono hs g1 g2 hm
 cases hfo with
 | pure hp => cases hp
 | yld _ b c' hb =>
  have h0 : zNJ (u7 ids) loc 0 = loc oid := by
   cases ids with
   | nil => simp at hh
   | cons i r => simp at hh; subst hh; simp [zNJ, u7]
  rw [h0, hb] at h1
  cases h1
  refine ⟨fun _ _ => trivial, ?_⟩
  rw [Oper.semAt_eq _ _ _ (by intro c e; rw [hop] at e; cases e)]
  have hrun : (execOp a.eval o).run P w = .ok (.round l lp.fn (N0 lp.tmps lp.params (args.map a.eval)) lp.assign lp.body) w := by
   simp only [execOp, hop, resolve, hfv, Deferred.ofValue, Sem.run_bind, Sem.run_pure, Result.andThen_ok, invoke, Array.empty_append]
   exact run_yield h2 h3
  rw [hrun, Oper.uponIn_round]
  have h5 : RoundIn (FR l0) 0 P l lp.fn (N0 lp.tmps lp.params (args.map a.eval)) lp.assign lp.body w _ := h4
  refine ⟨fun h => by simp [FR, Fence.wide] at h, h5.mono ?_⟩
  rintro e w' ⟨v, I', loc', rfl, hsr, hvr, _⟩
  exact hn _ _ _ _ _ hK ⟨I', loc', hsr.putD hvr (fun d e => by rw [(f9 _ σ).1]; exact hd d e)⟩
theorem zFl {Q : Exit → AS → Prop} {id : Nat} {pre post : List Oper} {o : Oper} {fo : Operand} {args : Array Operand} {ts : Array TypeId} (hop : o.op = .call ⟨.value fo, args, ts⟩)
  (h : y4 P (pre ++ o :: post) (fun σ1 _ => p7 (pre ++ o :: post) σ1 o
   ((match o.dst with | some d => ltN d σ1.n | none => True) ∧ S8 P (σ1.ev fo) (args.toList.map σ1.ev) σ1.obj σ1.nx (fun v _ wr => y4 P (pre ++ o :: post) (fun σ' _ => Q .normal σ') post ((σ1.writes wr).putD o.dst v) []))
   ((match o.dst with | some d => ltN d σ1.n | none => True) ∧ y4 P (pre ++ o :: post) (fun σ' _ => Q .normal σ') post (σ1.putD o.dst (.tup [])) [])) pre σ []) : HoldR l0 P E (.region id (pre ++ o :: post).toArray false) Q σ := fun a w hs => by
 refine wpIn_region_list ?_
 have tail : ∀ (ops : List Oper) (σ : AS) (a : Act) (w : World), y4 P (pre ++ o :: post) (fun σ' _ => Q .normal σ') ops σ [] → St E σ a w → wpListIn (FR l0) 0 P (pre ++ o :: post).toArray (zNU E Q) ops a w := fun ops σ a w h hs => by
  have := F4 (l0 := l0) (P := P) (E := E) (Q := zNU E Q) (post := []) (all := pre ++ o :: post) (fun σ' _ a' w' h1 h2 => (⟨σ', h1, h2⟩ : zNU E Q .normal a' w')) ops σ [] a w h hs
  simpa using this
 refine F4 (post := o :: post) ?_ pre σ [] a w h hs
 rintro σ1 ts1 a1 w1 hg ⟨I1, loc1, hs1⟩
 unfold wpListIn
 rcases T3 hs1 hg with ⟨hw, hd, he⟩ | ⟨hw, hd, hr⟩
 ·rw [if_pos hw]
  exact zJU hs1 hop he (fun d e => by rw [e] at hd; exact hd) (fun v rd wr a' w' hk hst => tail post _ a' w' hk hst)
 ·rw [hw, if_neg (by simp)]
  exact ⟨fun _ _ => trivial, tail post _ _ _ hr ⟨I1, loc1, hs1.putD Y5 (fun d e => by rw [e] at hd; exact hd)⟩⟩
theorem zG1 {Q : Exit → AS → Prop} {c : Code} {id : Nat} {ops : List Oper} (k : Nat) (h : c = .region id ops.toArray false) {o : Oper} (hk : ops[k]? = some o) {fo : Operand} {args : Array Operand} {ts : Array TypeId} (hop : o.op = .call ⟨.value fo, args, ts⟩)
  (hx : y4 P ops (fun σ1 _ => p7 ops σ1 o
   ((match o.dst with | some d => ltN d σ1.n | none => True) ∧ S8 P (σ1.ev fo) (args.toList.map σ1.ev) σ1.obj σ1.nx (fun v _ wr => y4 P ops (fun σ' _ => Q .normal σ') (ops.drop (k + 1)) ((σ1.writes wr).putD o.dst v) []))
   ((match o.dst with | some d => ltN d σ1.n | none => True) ∧ y4 P ops (fun σ' _ => Q .normal σ') (ops.drop (k + 1)) (σ1.putD o.dst (.tup [])) [])) (ops.take k) σ []) : HoldR l0 P E c Q σ := by
 obtain ⟨hlt, he⟩ := List.getElem?_eq_some_iff.1 hk
 have e : ops = ops.take k ++ o :: ops.drop (k + 1) := by
  rw [← he, ← List.drop_eq_getElem_cons hlt, List.take_append_drop]
 obtain ⟨pre, hpre⟩ : ∃ pre, pre = ops.take k := ⟨_, rfl⟩
 obtain ⟨post, hpost⟩ : ∃ post, post = ops.drop (k + 1) := ⟨_, rfl⟩
 rw [← hpre, ← hpost] at e hx
 rw [h]
 clear h hk he hlt hpre hpost
 subst e
 exact zFl hop hx
end
theorem zBh {all : List Oper} {σ : AS} {o : Oper} {Y N : Prop} (hg : o.guard = none) (h : Y) : p7 all σ o Y N := by
 unfold p7
 rw [hg]; exact h
end Go.Abs

