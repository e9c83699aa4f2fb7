/-
  WHAT THE PROOF STANDS ON, PART 4: contracts of the program's functions and the logic that they are proved in. No condition.
-/
import Derived.Test.YtoodnahaohmmkaaGreatDoorRows
import Derived.ProofKit
import Derived.OpenShut
import Derived.JoinedCond
import Derived.ChangeSlices
import Derived.Carry
import Derived.Test.YtoodnahaohmmkaaGreatDoorCards
import Derived.Deep.DeepHandedRow
import Derived.Deep.DeepWitnessRowRef
import Derived.Lib.LaidCaseMet
import Derived.Shelf.Lays
import Derived.KernelRfl
import Derived.Maps.Keyed
import Derived.DeepKeys3
import Derived.Lib.Builder
import Derived.LaidEqlPtr
import Derived.Lib.Bytealg
import Derived.Test.YtoodnahaohmmkaaGreatDoorQAKL33
set_option maxRecDepth 100000
set_option maxHeartbeats 4000000
set_option linter.unnecessarySimpa false
set_option linter.unusedVariables false
set_option linter.unusedSimpArgs false
set_option linter.unusedSectionVars false
namespace Go.Abs
open Go
variable [Cur]
theorem zIP {P : Program} {g : FuncId} {caps : List AV} {F : AS → Prop} {e : Exit} {σ : AS} (md : FrameMode) (ids : List Nat) {args : List AV} {fp out : List AObj} (sp : zBu P g md .returning args fp out)
  (he : match e with | .normal => md = .returning | .ret => md = .returning | .panic ch => md = .panicking ch | _ => False)
  (h1 : ids.Nodup) (h2 : XpL σ.obj (ids.map some) [] args caps) (h3 : fpsF σ.obj (ids.map some) [] fp ids) (h6 : out.length = ids.length) (h7 : ∀ A, A ∈ out → A ≠ .unb) (hF : F (σ.writes (t9 ids 0 out))) : zD8 P g caps F e σ := by
 refine ⟨md, he, 0, ids, [], args, fp, out, ⟨sp, h1, by simp, ?_, (fpsF.sound h3).1, fun k h => ?_, .inl rfl, fun j hj => by omega, h7⟩, hF⟩
 ·rw [← B2]; exact XpL.all2 h2
 ·rw [← B2]; exact (fpsF.sound h3).2 k h
structure StopK (p : Prop) : Prop where
 it : p
theorem B7 {P : Program} {E : Env} {b : Code} {Q : Exit → AS → Prop} {σ : AS} (p : List Nat) (h : StopK (Hold P E (sub p b) Q σ)) : Hold P E (sub p b) Q σ := h.it
section
variable {P : Program} {E : Env} {Q : Exit → FrameMode → AS → Prop} {mode : FrameMode} {σ : AS} {p : List Nat} {b : Code}
theorem zMX (h : zBF (sub p b) = true) (hx : R6 P E (sub (0 :: p) b) (fun e m σ' => match e with | .normal => R6 P E (sub (1 :: p) b) Q m σ' | e => Q e m σ') mode σ) : R6 P E (sub p b) Q mode σ := by
 have e : sub p b = .seq (sub (0 :: p) b) (sub (1 :: p) b) := by
  show sub p b = .seq (P0 0 (sub p b)) (P0 1 (sub p b))
  cases hs : sub p b <;> simp_all [zBF, P0]
 rw [e]
 exact zKB hx
theorem zMW {id : Nat} {ops : List Oper} (h : sub p b = .region id ops.toArray false) {o : Oper} {post : List Oper} (hops : ops = o :: post) {args : Array Operand} {ts : Array TypeId} (hop : o.op = .call ⟨.builtin .recover, args, ts⟩) (hg : o.guard = none) (h1 : ((Y4 mode).1).oneCell' = true) (hd : ∀ d, o.dst = some d → d < σ.n)
  (hx : q9 P (o :: post) (fun σ' _ => Q .normal (Y4 mode).2 σ') post (σ.putD o.dst (.raw (Y4 mode).1)) []) : R6 P E (sub p b) Q mode σ := by
 rw [h, hops]
 exact zKA hop hg h1 hd hx
end
end Go.Abs

namespace Go.Abs
open Go
variable [Cur]
def nwC : List AV → List AV → Prop
 | [], [] => True
 | d :: ds, c :: cs => (d = c ∨ (d = .list [] ∧ c = .raw (.slice none 0 0))) ∧ nwC ds cs
 | _, _ => False
def nwL : List AV → List AV → Prop
 | [], [] => True
 | y :: ys, x :: xs => nwC y.cells x.cells ∧ nwL ys xs
 | _, _ => False
theorem nwC.get : ∀ {ds cs : List AV}, nwC ds cs → ds.length = cs.length ∧ ∀ j (h : j < ds.length) (h' : j < cs.length), ds[j] = cs[j] ∨ (ds[j] = .list [] ∧ cs[j] = .raw (.slice none 0 0))
 | [], [], _ => ⟨rfl, fun j h => by cases h⟩
 | d :: ds, c :: cs, h => by
  obtain ⟨h1, h2⟩ := h
  obtain ⟨h3, h4⟩ := nwC.get h2
  refine ⟨by simp [h3], fun j hj hj' => ?_⟩
  cases j with
  | zero => exact h1
  | succ j => exact h4 j (by simpa using hj) (by simpa using hj')
 | [], _ :: _, h => h.elim
 | _ :: _, [], h => h.elim
theorem nwL.get : ∀ {ys xs : List AV}, nwL ys xs → ys.length = xs.length ∧ ∀ i (h : i < ys.length) (h' : i < xs.length), nwC (ys[i]).cells (xs[i]).cells
 | [], [], _ => ⟨rfl, fun j h => by cases h⟩
 | y :: ys, x :: xs, h => by
  obtain ⟨h1, h2⟩ := h
  obtain ⟨h3, h4⟩ := nwL.get h2
  refine ⟨by simp [h3], fun j hj hj' => ?_⟩
  cases j with
  | zero => exact h1
  | succ j => exact h4 j (by simpa using hj) (by simpa using hj')
 | [], _ :: _, h => h.elim
 | _ :: _, [], h => h.elim
theorem PR.nw {w : World} {I : Nat → Prop} {d c : AV} {v : Value} (h : d = c ∨ (d = .list [] ∧ c = .raw (.slice none 0 0))) (hp : PR w I c v) : PR w I d v := by
 rcases h with rfl | ⟨rfl, rfl⟩
 ·exact hp
 ·cases hp with
  | raw v h => exact .nil none 0
section
variable {P : Program} {E : Env} {Q : Exit → AS → Prop} {σ : AS}
theorem zKS {c : Code} {o sz : Nat} {xs : List AV} (ys : List AV) (h : σ.obj o = .row sz xs) (hn : nwL ys xs) (hH : Hold P E c Q (σ.setO o (.row sz ys))) : Hold P E c Q σ := fun a w γ hst => by
 obtain ⟨I, loc, hs, og⟩ := hst
 obtain ⟨hl, hc⟩ := hn.get
 have hlive : ∀ k, ((σ.setO o (.row sz ys)).obj k).live = (σ.obj k).live := fun k => by
  rw [AS.obj_setO]
  by_cases e : o = k
  ·subst e; rw [if_pos rfl, h]; rfl
  ·rw [if_neg e]
 refine hH a w γ ⟨I, loc, ⟨hs.defers.imp (fun r g1 g2 g3 g4 => ⟨g1, g2, g3, fun k c hk => g4 k c (by rw [← hlive]; exact hk)⟩), hs.size, hs.tmps, fun k => ?_, fun o1 o2 b c1 c2 h1 h2 => hs.inj o1 o2 b c1 c2 (by rw [← hlive]; exact h1) (by rw [← hlive]; exact h2), hs.imm, fun k b c hk => hs.sep k b c (by rw [← hlive]; exact hk), hs.fr, hs.base, hs.top, hs.keep⟩,
  ⟨og.wf, og.rd, fun k b c hk => og.live k b c (by rw [← hlive]; exact hk), og.mark, og.own, og.fro⟩⟩
 rw [AS.obj_setO]
 by_cases e : o = k
 ·subst e
  rw [if_pos rfl]
  have ho := hs.objs o
  rw [h] at ho
  obtain ⟨h0, h1, h2⟩ := ho
  have hcl : ∀ i (hi : i < ys.length) (hi' : i < xs.length), (ys[i]).cells.length = (xs[i]).cells.length := fun i hi hi' => (hc i hi hi').get.1
  refine ⟨h0, fun i hi => by rw [hcl i hi (by omega)]; exact h1 i (by omega), ?_⟩
  rcases h2 with ⟨e1, e2⟩ | ⟨b, C, e, e1, e2, e3, e4⟩
  ·exact .inl ⟨e1, by rw [e2] at hl; exact List.eq_nil_of_length_eq_zero hl⟩
  ·refine .inr ⟨b, C, e, e1, e2, by rw [hl]; exact e3, fun i hi j hj h' => ?_⟩
   have hi' : i < xs.length := by omega
   have hj' : j < (xs[i]).cells.length := by rw [← hcl i hi hi']; exact hj
   exact PR.nw ((hc i hi hi').get.2 j hj hj') (e4 i hi' j hj' h')
 ·rw [if_neg e]; exact hs.objs k
end
end Go.Abs

namespace Go.Abs
open Go Go.Proofs Tryz
variable [Cur]
attribute [go_sem] Nat.mul_one List.length_set Nat.le_refl Nat.sub_zero
@[go_sem] theorem zRy (n : Nat) : ((n : Int) < 2) = (n < 2) := by simp; omega
@[go_sem] theorem zRe : ((0 : Nat) : Int) = 0 := rfl
@[go_sem] theorem zRg : ((1 : Nat) : Int) = 1 := rfl
@[go_sem] theorem zRi : ((2 : Nat) : Int) = 2 := rfl
@[go_sem] theorem zRk : ((3 : Nat) : Int) = 3 := rfl
@[go_sem] theorem zRm : ((4 : Nat) : Int) = 4 := rfl
@[go_sem] theorem zRo : ((5 : Nat) : Int) = 5 := rfl
@[go_sem] theorem zRq : ((6 : Nat) : Int) = 6 := rfl
@[go_sem] theorem zRs : ((7 : Nat) : Int) = 7 := rfl
@[go_sem] theorem zRu : ((8 : Nat) : Int) = 8 := rfl
@[go_sem] theorem zSn {α β : Type} (f : α → β) (l : List α) : (l.map f).take l.length = l.map f := List.take_of_length_le (by simp)
theorem zDj {H : Nat → AObj} {m : List (Option Nat)} {ex : List Nat} {α : Type} {f : α → AV} (hf : ∀ x, XpF H m ex (f x) (f x)) : ∀ l : List α, XpL H m ex (l.map f) (l.map f)
 | [] => by simp [zBx]
 | x :: r => by simp only [List.map_cons, zAp]; exact ⟨hf x, zDj hf r⟩
@[go_sem] theorem zRD (H : Nat → AObj) (n : Nat) (f : Fn) (a b : Array Value) : zSz H (n + 1) (.raw (.func f a b)) = (.raw (.func f a b), []) := rfl
end Go.Abs

namespace Go.Abs
open Go Go.Proofs Tryz
variable [Cur]
attribute [go_sem] List.take_length List.length_drop
section
variable {P : Program} {E : Env} {Q : Exit → AS → Prop} {σ : AS} {p : List Nat} {b c : Code} {l : Nat}
def B0 : Code → Code
 | .rangeFunc _ _ a _ => a
 | _ => .skip
def B1 : Code → Code
 | .rangeFunc _ _ _ b => b
 | _ => .skip
def zKm : Code → Option (Operand × Array Tmp)
 | .rangeFunc g ps _ _ => some (g, ps)
 | _ => none
theorem X2 {id : Nat} {ops : List Oper} (h : c = .region id ops.toArray false) (hx : q9 P ops (fun σ' _ => Q .normal σ') ops σ []) : HoldR l P E c Q σ := by rw [h]; exact zKF hx
theorem C8 {id : Nat} (h : zE8 c = some id) (hx : HoldR l P E (P0 0 c) (z5 id Q) σ) : HoldR l P E c Q σ := by
 cases c with
 | block i c => cases h; exact zKC hx
 | _ => cases h
theorem zBb {g : Operand} {ps : Array Tmp} (h : zKm (sub p b) = some (g, ps)) {f : FuncId} {caps : List AV} (hg : σ.ev g = .fn f caps) (hc : t6 P f = true) {nx : Nat} (hnx : σ.obj nx = .unb)
  (hx : ∀ fn, ∃ nx', y2 P f (.yld nx :: caps) (σ.setO nx (.loopo ⟨fn, ps, B0 (sub p b), B1 (sub p b), σ.n⟩ σ.env (some none))).obj nx' (fun _ _ wr => zFs P E Q nx ((σ.setO nx (.loopo ⟨fn, ps, B0 (sub p b), B1 (sub p b), σ.n⟩ σ.env (some none))).writes wr))) : Hold P E (sub p b) Q σ := by
 cases hq : sub p b with
 | rangeFunc g' ps' a b' =>
  rw [hq] at h hx; cases h
  exact zKP hg hc hnx hx
 | _ => rw [hq] at h; cases h
theorem zAX {id : Nat} {ops : List Oper} (k : Nat) (h : sub p b = .region id ops.toArray false) {o : Oper} (hk : ops[k]? = some o) {fo : Operand} {args : Array Operand} {ts : Array TypeId} (hop : o.op = .call ⟨.value fo, args, ts⟩)
  (hx : q9 P ops (fun σ1 _ => f5 ops σ1 o
   ((match o.dst with | some d => ltN d σ1.n | none => True) ∧ J4 P (σ1.ev fo) (args.toList.map σ1.ev) σ1.obj σ1.nx (fun v _ wr => q9 P ops (fun σ' _ => Q .normal σ') (ops.drop (k + 1)) ((σ1.writes wr).putD o.dst v) []))
   ((match o.dst with | some d => ltN d σ1.n | none => True) ∧ q9 P ops (fun σ' _ => Q .normal σ') (ops.drop (k + 1)) (σ1.putD o.dst (.tup [])) [])) (ops.take k) σ []) : Hold P E (sub p b) Q σ := by
 obtain ⟨hlt, he⟩ := List.getElem?_eq_some_iff.1 hk
 have e : ops = ops.take k ++ o :: ops.drop (k + 1) := by
  rw [← he, ← List.drop_eq_getElem_cons hlt, List.take_append_drop]
 obtain ⟨pre, hpre⟩ : ∃ pre, pre = ops.take k := ⟨_, rfl⟩
 obtain ⟨post, hpost⟩ : ∃ post, post = ops.drop (k + 1) := ⟨_, rfl⟩
 rw [← hpre, ← hpost] at e hx
 rw [h]
 clear h hk he hlt hpre hpost
 subst e
 exact zKV hop hx
end
theorem zCV {all : List Oper} {σ : AS} {o : Oper} {j d : Nat} {want : Bool} {Y N : Prop} (hg : o.guard = some (j, want)) (hj : (all[j]?).bind (·.dst) = some d) (hv : σ.get d = .raw (.bool want)) (h : Y) : f5 all σ o Y N := by
 unfold f5
 rw [hg]
 simp only [hj, hv]
 show gIf want want Y N
 unfold gIf
 exact ⟨fun _ => h, fun e => by cases want <;> cases e⟩
theorem zEp {all : List Oper} {σ : AS} {o : Oper} {j d : Nat} {want : Bool} {Y N : Prop} (hg : o.guard = some (j, want)) (hj : (all[j]?).bind (·.dst) = some d) (hv : σ.get d = .raw (.bool !want)) (h : N) : f5 all σ o Y N := by
 unfold f5
 rw [hg]
 simp only [hj, hv]
 show gIf (!want) want Y N
 unfold gIf
 exact ⟨fun e => (by cases want <;> cases e), fun _ => h⟩
theorem zBm {P : Program} {y : AV} {avs : List AV} {H : Nat → AObj} {nx : Nat} {K : Cont} {oid : Nat} (ids ex : List Nat) {args : List AV} {fp : List AObj} {r : AV} {out : List AObj} (sp : U0 P args fp r out)
  (hy : y = .yld oid) (hh : ids.head? = some oid) (h1 : ids.Nodup) (h2 : XpL H (ids.map some) ex args avs) (h3 : fpsF H (ids.map some) ex fp ids) (h4 : ∀ o, o ∈ ex → o ∉ ids) (h5 : ex = [] ∨ (Scal r ∧ ∀ A, A ∈ out → A1 A))
  (h6 : ∀ j, j < out.length - ids.length → H (nx + j) = .unb) (h7 : ∀ A, A ∈ out → A ≠ .unb) (hk : K (r.ren (w5 ids nx)) (ids ++ ex ++ W3 ids nx out) (t9 ids nx out)) : J4 P y avs H nx K := by
 refine ⟨oid, ids, ex, args, fp, r, out, hy, hh, ⟨sp, h1, h4, ?_, (fpsF.sound h3).1, fun k h => ?_, h5, h6, h7⟩, hk⟩
 ·rw [← B2]; exact XpL.all2 h2
 ·rw [← B2]; exact (fpsF.sound h3).2 k h
theorem R8 {P : Program} {f : FuncId} {avs as' args : List AV} {H : Nat → AObj} {nx : Nat} {K : Cont} {r : AV} {fp out : List AObj} (ids gone : List Nat) (sp : zSx P f args fp r out) (ha : (avs.map fun x => (zSz H 3 x).1) = as') (hg : (avs.map fun x => (zSz H 3 x).2).flatten = gone)
  (h1 : ids.Nodup) (h2 : XpL (fun o => if o ∈ gone then .dead else H o) (ids.map some) [] args as') (h3 : fpsF (fun o => if o ∈ gone then .dead else H o) (ids.map some) [] fp ids)
  (h6 : ∀ j, j < out.length - ids.length → (if nx + j ∈ gone then AObj.dead else H (nx + j)) = .unb) (h7 : ∀ A, A ∈ out → A ≠ .unb)
  (hk : K (r.ren (w5 ids nx)) (gone ++ (ids ++ W3 ids nx out)) (w4 gone ++ t9 ids nx out)) : y2 P f avs H nx K := by
 refine zB8 ?_
 rw [ha, hg]
 exact zAv ids [] sp h1 h2 h3 (by simp) (.inl rfl) h6 h7 (by simpa using hk)
theorem zBw {H : Nat → AObj} {m : List (Option Nat)} {ex : List Nat} {x y : AV} : ∀ (xs : List AV), (∀ z, z ∈ xs → XpF H m ex z z) → (XpL H m ex (xs ++ [x]) (xs ++ [y]) ↔ XpF H m ex x y)
 | [], _ => by simp only [List.nil_append, zAp, zBx, and_true]
 | z :: r, h => by
  simp only [List.cons_append, zAp]
  rw [zBw r (fun z hz => h z (by simp [hz]))]
  exact ⟨fun h => h.2, fun h2 => ⟨h z (by simp), h2⟩⟩
section
variable {P : Program} {E : Env} {Q : Exit → AS → Prop} {σ : AS} {c : Code} {l : Nat}
theorem N4 (h : zBF c = true) (hx : HoldR l P E (P0 0 c) (z6 (HoldR l P E (P0 1 c) Q) Q) σ) : HoldR l P E c Q σ := by
 cases c with
 | seq x y => exact zKG hx
 | _ => cases h
theorem C9 {o : Operand} {t : Bool} (h : zCd c = some o) (ht : σ.ev o = .raw (.bool t)) (h1 : t = true → HoldR l P E (P0 0 c) Q σ) (h2 : t = false → HoldR l P E (P0 1 c) Q σ) : HoldR l P E c Q σ := by
 cases c with
 | cond o' x y => cases h; exact zKD ht h1 h2
 | _ => cases h
theorem zBT (h : c = .skip) (hx : Q .normal σ) : HoldR l P E c Q σ := by rw [h]; exact zKH hx
theorem zLy {id : Nat} (h : c = .exit id) (hx : Q (.exit id) σ) : HoldR l P E c Q σ := by rw [h]; exact zKE hx
end
section
variable {P : Program} {E : Env} {I : Nat → Prop} {loc : Nat → Loc} {σ : AS} {a : Act} {w : World} {l0 : Nat}
theorem zLz {Q : Exit → AS → Prop} {c : Code} {id : Nat} {ops : List Oper} (k : Nat) (h : c = .region id ops.toArray false) {o : Oper} (hk : ops[k]? = some o) {fo : Operand} {args : Array Operand} {ts : Array TypeId} (hop : o.op = .call ⟨.value fo, args, ts⟩)
  (hx : q9 P ops (fun σ1 _ => f5 ops σ1 o
   ((match o.dst with | some d => ltN d σ1.n | none => True) ∧ J4 P (σ1.ev fo) (args.toList.map σ1.ev) σ1.obj σ1.nx (fun v _ wr => q9 P ops (fun σ' _ => Q .normal σ') (ops.drop (k + 1)) ((σ1.writes wr).putD o.dst v) []))
   ((match o.dst with | some d => ltN d σ1.n | none => True) ∧ q9 P ops (fun σ' _ => Q .normal σ') (ops.drop (k + 1)) (σ1.putD o.dst (.tup [])) [])) (ops.take k) σ []) : HoldR l0 P E c Q σ := by
 obtain ⟨hlt, he⟩ := List.getElem?_eq_some_iff.1 hk
 have e : ops = ops.take k ++ o :: ops.drop (k + 1) := by
  rw [← he, ← List.drop_eq_getElem_cons hlt, List.take_append_drop]
 obtain ⟨pre, hpre⟩ : ∃ pre, pre = ops.take k := ⟨_, rfl⟩
 obtain ⟨post, hpost⟩ : ∃ post, post = ops.drop (k + 1) := ⟨_, rfl⟩
 rw [← hpre, ← hpost] at e hx
 rw [h]
 clear h hk he hlt hpre hpost
 subst e
 exact zKI hop hx
end
end Go.Abs

namespace Go.Abs
open Go Go.Proofs Go.Proofs.YtoodnahaohmmkaaGreatDoor Go.ChangeShapes Go.WideShapes Go.ChangeAt Go.RowKit
theorem zUn : ownKnob Tryz.prog.godebug = none := by kernel_rfl
theorem zRY : laidOutB Tryz.prog = true := by kernel_rfl
abbrev zUa (w : World) : Nat → Prop := fun b => b < w.heap.size
abbrev zHM (w : World) : Prop := zBr w
theorem zQv {f : FuncId} {args : List AV} (sp : @zSx zCo Tryz.prog f args [] (bV true) []) (w : World) (vs : Array Value) (hl : vs.size = args.length) (hv : ∀ i (h : i < args.length) (h' : i < vs.size), PR w (zUa w) args[i] vs[i]) (hlaid : zHM w := by (intro p hp; simp [zBq] at hp)) :
  Calls Tryz.prog f vs w fun e w' => e = .returned (.bool true) ∧ Below w.heap.size w w' :=
 letI : Cur := zCo
 (zLB sp hlaid hl (fun i h h' => .pure (hv i h h'))).mono fun e w' ⟨v, I', loc', he, hp, hb⟩ => by
  have hr := hp.raw_eq
  subst hr
  exact ⟨he, hb⟩
theorem zLe {H : Type} (d : DataW H) : 1 ≤ Rows.uptoBulk d := by
 cases d with
 | lit l => cases l <;> simp [Rows.uptoBulk]
 | _ => simp [Rows.uptoBulk]
theorem length_le {H : Type} (l : List (DataW H)) : l.length ≤ Rows.uptoBulkAll l := by
 induction l with
 | nil => simp [Rows.uptoBulkAll]
 | cons x r ih => have := zLe x; simp only [Rows.uptoBulkAll, List.length_cons]; omega
theorem zQN {H : Type} {enc : TypeId × Value → H} {W : World} {v : Value} {d : DataW H} {ps : List MemPlace} (hval : Value.okWide Tryz.prog W .any 0 22 v ∨ ∃ base, Value.okWide Tryz.prog W .any base 22 v)
    (h : DataW.Trod enc Tryz.prog W 0 (fun _ => true) true 22 v d ps) (hk : Rows.uptoBulk d ≤ 1048576) : ∃ l : List Int, PR W (zUa W) (.list (l.map iV)) v ∧ l.length ≤ 1048576 := by
  have hsl : ∃ a len cap, v = .slice a len cap := by
    rcases hval with hval | ⟨base, hval⟩
    · exact okWide_slice Tryz.underlying22 hval
    · exact okWide_slice Tryz.underlying22 hval
  obtain ⟨a, len, cap, rfl⟩ := hsl
  obtain ⟨fuel, hf⟩ := h
  have hc : Tryz.prog.cellsOf 3 = 1 := by kernel_rfl
  rcases open_ints Tryz.underlying22 Tryz.underlying3 hc hf with ⟨hcs, _⟩ | ⟨a0, len0, cap0, zs, hcs, _, hle, hm, hz, hx, hcell, hwz⟩
  · have e : Value.slice a len cap = .slice none 0 0 := by simpa [Value.cells] using hcs
    rw [e]
    exact ⟨[], .nil _ _, by simp⟩
  · have e : Value.slice a len cap = .slice (some a0) len0 cap0 := by simpa [Value.cells] using hcs
    rw [e]
    simp only [if_true] at hz
    have hd := congrArg Prod.fst hx
    simp only at hd
    subst hd
    have hlen : (zs.take len0).length = len0 := by simp; omega
    refine ⟨zs.take len0, ?_, ?_⟩
    · by_cases h0 : len0 = 0
      · subst h0; exact .nil _ _
      · have h1 := hcell 0 (by omega)
        have hspot : a0.spot = none := by
          unfold World.cell? at h1
          split at h1
          · split at h1
            · cases h1
            · rename_i hs
              simpa [Addr.add] using hs
          · cases h1
        have hblk : a0.block < W.heap.size := by
          unfold World.cell? at h1
          split at h1
          · rename_i hb
            have := (Array.getElem?_eq_some_iff.1 hb).1
            simpa [Addr.add] using this
          · cases h1
        obtain ⟨b, off, sp⟩ := a0
        simp only at hspot hblk
        subst hspot
        have key := PR.list (w := W) (I := zUa W) b off cap0 1 ((zs.take len0).map iV) (fun i _ => .int .i64 (zs.getD i 0)) hblk (by omega) (by simp; omega) (fun i hi => by simp [AV.cells])
          (fun i j hi hj => by
            have hi' : i < zs.length := by simp at hi; omega
            have := hcell i hi'
            have hj0 : j = 0 := by omega
            subst hj0
            have ea : (⟨b, off, none⟩ : Addr).add i = ⟨b, off + i * 1 + 0, none⟩ := by
              unfold Addr.add
              split
              · rename_i h; subst h; simp
              · simp
            rw [ea] at this; exact this)
          (fun i hi j hj => by
            have hi' : i < zs.length := by simp at hi; omega
            have hj0 : j = 0 := by simp [AV.cells] at hj; omega
            subst hj0
            have e2 : (((zs.take len0).map iV)[i]).cells[0] = iV (zs.getD i 0) := by simp [AV.cells, List.getD, hi']
            rw [e2]
            exact .raw _ rfl)
        rw [List.length_map, hlen] at key
        exact key
    · have h1 : (zs.take len0).length ≤ Rows.uptoBulkAll (H := H) (lits .i64 (zs.take len0)) := by
        have := length_le (H := H) (lits .i64 (zs.take len0))
        simpa [lits] using this
      simp only [Rows.uptoBulk] at hk
      omega
end Go.Abs

namespace Go.Abs
open Go Go.Proofs Go.Proofs.YtoodnahaohmmkaaGreatDoor
theorem zK0 {P : Program} {w : World} {a b c : String × DataW Unit} (h : laidMet P [a, c, b] w) : laidMet P [a, b, c] w := by
 obtain ⟨ps, hv, hn, hr⟩ := h
 obtain ⟨n1, d1⟩ := a
 obtain ⟨n2, d2⟩ := b
 obtain ⟨n3, d3⟩ := c
 obtain ⟨g1, t1, c1, f1, p1, q1, a1, b1, v1, r1, ⟨g3, t3, c3, f3, p3, q3, a3, b3, v3, r3, ⟨g2, t2, c2, f2, p2, q2, a2, b2, v2, r2, e2, rfl⟩, rfl⟩, rfl⟩ := hv
 cases (show q2 = [] from e2)
 have hp : ((MemPlace.row ⟨g1, 0, none⟩ c1.size ++ p1) ++ ((MemPlace.row ⟨g3, 0, none⟩ c3.size ++ p3) ++ ((MemPlace.row ⟨g2, 0, none⟩ c2.size ++ p2) ++ []))).Perm ((MemPlace.row ⟨g1, 0, none⟩ c1.size ++ p1) ++ ((MemPlace.row ⟨g2, 0, none⟩ c2.size ++ p2) ++ ((MemPlace.row ⟨g3, 0, none⟩ c3.size ++ p3) ++ []))) := by
  simp only [List.append_nil]
  exact List.Perm.append_left _ List.perm_append_comm
 exact ⟨_, ⟨g1, t1, c1, f1, p1, _, a1, b1, v1, r1, ⟨g2, t2, c2, f2, p2, _, a2, b2, v2, r2, ⟨g3, t3, c3, f3, p3, [], a3, b3, v3, r3, rfl, rfl⟩, rfl⟩, rfl⟩, hp.nodup_iff.1 hn, fun b off hm => hr b off (hp.mem_iff.2 hm)⟩
def laysC_ren : Go.Shelf.Ren := ⟨fun | 274 => 210 | n => n, fun | 46 => 145 | 51 => 352 | 160 => 353 | 162 => 322 | 206 => 377 | 208 => 379 | n => n, fun | 13 => 2 | n => n⟩
theorem zK2 : Go.Proofs.Lays.n274 Tryz.prog laysC_ren := {
 mixed := by kernel_rfl
 f274 := Tryz.func210.trans (congrArg some (by kernel_rfl))
 t0 := Tryz.underlying0
 a0 := Tryz.isAgg0
 z0 := Tryz.sizeOf0
 v0 := Tryz.zeroValue0
 t3 := Tryz.underlying3
 a3 := Tryz.isAgg3
 z3 := Tryz.sizeOf3
 v3 := Tryz.zeroValue3
 t4 := Tryz.underlying4
 a4 := Tryz.isAgg4
 z4 := Tryz.sizeOf4
 v4 := Tryz.zeroValue4
 t21 := Tryz.underlying21
 a21 := Tryz.isAgg21
 z21 := Tryz.sizeOf21
 v21 := Tryz.zeroValue21
 t46 := Tryz.underlying145
 a46 := Tryz.isAgg145
 z46 := Tryz.sizeOf145
 v46 := Tryz.zeroValue145
 t51 := Tryz.underlying352
 a51 := Tryz.isAgg352
 z51 := Tryz.sizeOf352
 v51 := Tryz.zeroValue352
 t160 := Tryz.underlying353
 a160 := Tryz.isAgg353
 z160 := Tryz.sizeOf353
 v160 := Tryz.zeroValue353
 t162 := Tryz.underlying322
 a162 := Tryz.isAgg322
 z162 := Tryz.sizeOf322
 v162 := Tryz.zeroValue322
 t208 := Tryz.underlying379
 a208 := Tryz.isAgg379
 z208 := Tryz.sizeOf379
 v208 := Tryz.zeroValue379
}
noncomputable def zK1 (os : Os) : World :=
 let N := (World.settled Tryz.prog os).heap.size
 let w0 := World.holding Tryz.prog os ⟨#[.cells Lib.caseCells5 (laysC_ren.t 208)], #[], []⟩
 let put (h : Array Obj) (g : Nat) (cs : Array Value) : Array Obj := h.modify g fun
  | .cells _ t frozen => .cells cs t frozen
  | o => o
 let h1 := put w0.heap 3 (Lib.firstTab.map fun z => Value.int .u8 z).toArray
 let h2 := put h1 4 ((List.range 16).flatMap fun i => [Value.int .u8 (Lib.accLo i), Value.int .u8 (Lib.accHi i)]).toArray
 let h3 := put h2 2 #[.slice (some ⟨N, 0, none⟩) 336 336]
 { w0 with heap := h3 }
theorem zHS : (Rows.laid_unicode_utf8_acceptRanges : DataW Unit) = Lib.acceptData := by kernel_rfl
theorem zH3 : Rows.laid_unicode_CaseRanges = Lib.caseData := by kernel_rfl
theorem zIz : Rows.laid_unicode_utf8_first = Lib.firstData := by kernel_rfl
theorem zRZ (os : Os) (args : Array Value) : laidMet Tryz.prog [("unicode/utf8.acceptRanges", Rows.laid_unicode_utf8_acceptRanges), ("unicode.CaseRanges", Rows.laid_unicode_CaseRanges), ("unicode/utf8.first", Rows.laid_unicode_utf8_first)] ((zK1 os).forCall (fun _ _ => 0) ⟨#[], args, []⟩).memory := by
 rw [zHS, zH3, zIz]
 refine zK0 ?_
 exact laidMet_with_case (ρ := laysC_ren) zK2 Tryz.underlying377 ⟨by kernel_rfl, by kernel_rfl, by kernel_rfl, by kernel_rfl, by kernel_rfl, by kernel_rfl⟩
  (l := [("unicode/utf8.acceptRanges", Lib.acceptData), ("unicode/utf8.first", Lib.firstData)])
  10 (by kernel_rfl) (by kernel_rfl) (by kernel_rfl) ((World.settled Tryz.prog default).heap.size) (laysC_ren.t 208) (of_decide_eq_true (by kernel_rfl)) (by kernel_rfl) (by kernel_rfl) (by kernel_rfl)
theorem zSI : laidOutB Tryz.pinned.checked.prog = true := by kernel_rfl
theorem zSK : mapsRowed Tryz.pinned.checked.prog = true := by kernel_rfl
theorem zSL : (Tryz.pinned.checked.prog.stops == []) = true := by kernel_rfl
theorem zSH : (Tryz.pinned.checked.prog.stopKnobs == []) = true := by kernel_rfl
theorem zSG : Tryz.pinned.checked.prog.stopsHeard = true := by kernel_rfl
theorem zSF : Tryz.pinned.checked.prog.mayEnter = true := by kernel_rfl
theorem zSJ : true = Tryz.pinned.checked.prog.looks [] := by kernel_rfl
end Go.Abs

namespace Go.Abs
open Go
theorem Plate.lt_iff (a b : Plate) : a.lt b = true ↔ a.number < b.number ∨ (a.number = b.number ∧ a.letter < b.letter) := by simp [Plate.lt]
theorem House.lt_iff (a b : House) : a.lt b = true ↔ a.street < b.street ∨ (a.street = b.street ∧ (a.plate.number < b.plate.number ∨ (a.plate.number = b.plate.number ∧ a.plate.letter < b.plate.letter))) := by simp [House.lt, Plate.lt]
theorem Plate.eq_iff (a b : Plate) : a = b ↔ a.number = b.number ∧ a.letter = b.letter := by cases a; cases b; simp
theorem House.eq_iff (a b : House) : a = b ↔ a.street = b.street ∧ a.plate.number = b.plate.number ∧ a.plate.letter = b.plate.letter := by
 cases a with | mk s p => cases b with | mk t q => cases p; cases q; simp
theorem Plate.lt_trans {a b c : Plate} (h1 : a.lt b = true) (h2 : b.lt c = true) : a.lt c = true := by rw [Plate.lt_iff] at *; omega
theorem House.lt_trans {a b c : House} (h1 : a.lt b = true) (h2 : b.lt c = true) : a.lt c = true := by rw [House.lt_iff] at *; omega
theorem House.lt_irrefl (a : House) : ¬ a.lt a = true := by rw [House.lt_iff]; omega
theorem House.lt_tri (a b : House) : a.lt b = true ∨ a = b ∨ b.lt a = true := by rw [House.lt_iff, House.lt_iff, House.eq_iff]; omega
theorem zD2 (a b : Plate) : zT1 a b < 0 ↔ a.lt b = true := by
 rw [Plate.lt_iff]; unfold zT1 orI zTG; repeat' split
 all_goals omega
theorem zCC (a b : House) : zTX a b < 0 ↔ a.lt b = true := by
 rw [House.lt_iff]; unfold zTX zT1 orI zTG; repeat' split
 all_goals omega
theorem mem_insH {x z : House} : ∀ {l : List House}, z ∈ zTg x l ↔ z = x ∨ z ∈ l
 | [] => by simp [zTg]
 | y :: r => by
  simp only [zTg]
  split
  ·simp only [List.mem_cons, mem_insH (l := r)]
   constructor
   ·rintro (h | h | h) <;> simp [h]
   ·rintro (h | h | h) <;> simp [h]
  ·split
   ·rename_i e; subst e; simp
   ·simp
abbrev Strict (l : List House) : Prop := l.Pairwise (fun a b => a.lt b = true)
theorem zGi {x : House} : ∀ {l : List House}, Strict l → Strict (zTg x l)
 | [], _ => by simp [zTg, Strict]
 | y :: r, h => by
  obtain ⟨h1, h2⟩ := List.pairwise_cons.1 h
  simp only [zTg]
  split
  ·rename_i hy
   refine List.pairwise_cons.2 ⟨fun z hz => ?_, zGi h2⟩
   rcases mem_insH.1 hz with rfl | hz
   ·exact hy
   ·exact h1 z hz
  ·rename_i hy
   split
   ·exact h
   ·rename_i hne
    have hxy : x.lt y = true := by
     rcases House.lt_tri x y with h | h | h
     ·exact h
     ·exact absurd h.symm hne
     ·exact absurd h hy
    refine List.pairwise_cons.2 ⟨fun z hz => ?_, h⟩
    rcases List.mem_cons.1 hz with rfl | hz
    ·exact hxy
    ·exact House.lt_trans hxy (h1 z hz)
theorem zGE (l : List House) : ∀ out : List House, Strict out → Strict (l.foldl (fun out x => zTg x out) out) ∧ ∀ z, z ∈ l.foldl (fun out x => zTg x out) out ↔ z ∈ out ∨ z ∈ l := by
 induction l with
 | nil => intro out h; exact ⟨h, fun z => by simp⟩
 | cons x r ih =>
  intro out h
  obtain ⟨h1, h2⟩ := ih (zTg x out) (zGi h)
  refine ⟨h1, fun z => ?_⟩
  simp only [List.foldl_cons]
  rw [h2, mem_insH, List.mem_cons]
  constructor
  ·rintro ((h | h) | h) <;> simp [h]
  ·rintro (h | h | h) <;> simp [h]
theorem zOu (l : List House) : Strict (V7 l) := (zGE l [] List.Pairwise.nil).1
theorem mem_sortH {l : List House} {z : House} : z ∈ V7 l ↔ z ∈ l := by
 have := (zGE l [] List.Pairwise.nil).2 z
 simpa [V7] using this
theorem zGj : ∀ {a b : List House}, Strict a → Strict b → (∀ z, z ∈ a ↔ z ∈ b) → a = b
 | [], [], _, _, _ => rfl
 | [], y :: b, _, _, h => absurd ((h y).2 (by simp)) (by simp)
 | x :: a, [], _, _, h => absurd ((h x).1 (by simp)) (by simp)
 | x :: a, y :: b, ha, hb, h => by
  obtain ⟨a1, a2⟩ := List.pairwise_cons.1 ha
  obtain ⟨b1, b2⟩ := List.pairwise_cons.1 hb
  have hxy : x = y := by
   rcases List.mem_cons.1 ((h x).1 (by simp)) with e | h1
   ·exact e
   ·rcases List.mem_cons.1 ((h y).2 (by simp)) with e | h2
    ·exact e.symm
    ·exact absurd (House.lt_trans (b1 x h1) (a1 y h2)) (House.lt_irrefl _)
  subst hxy
  have : a = b := zGj a2 b2 (fun z => by
   have hz := h z
   simp only [List.mem_cons] at hz
   constructor
   ·intro hm
    rcases hz.1 (.inr hm) with e | hm'
    ·subst e; exact absurd (a1 z hm) (House.lt_irrefl _)
    ·exact hm'
   ·intro hm
    rcases hz.2 (.inr hm) with e | hm'
    ·subst e; exact absurd (b1 z hm) (House.lt_irrefl _)
    ·exact hm')
  rw [this]
theorem Strict.nodup {l : List House} (h : Strict l) : l.Nodup := h.imp (fun {a b} hab e => by subst e; exact House.lt_irrefl _ hab)
theorem zDz : ∀ (l : List Plate) (o : Option Plate), i9 o l = 0 ↔ (∀ x, x ∈ l → x.ok = true) ∧ l.Pairwise (fun x y => x.lt y = true) ∧ ∀ y, o = some y → ∀ x, x ∈ l → y.lt x = true
 | [], o => by cases o <;> simp [i9]
 | x :: r, o => by
  have key : i9 o (x :: r) = 0 ↔ x.ok = true ∧ (∀ y, o = some y → y.lt x = true) ∧ i9 (some x) r = 0 := by
   cases o with
   | none => simp only [i9]; by_cases h : x.ok = true <;> simp [h]
   | some y => simp only [i9]; by_cases h : x.ok = true <;> by_cases h' : y.lt x = true <;> simp [h, h']
  rw [key, zDz r (some x)]
  constructor
  ·rintro ⟨h1, h2, h3, h4, h5⟩
   refine ⟨fun z hz => ?_, List.pairwise_cons.2 ⟨fun z hz => h5 x rfl z hz, h4⟩, fun y e z hz => ?_⟩
   ·rcases List.mem_cons.1 hz with rfl | hz
    ·exact h1
    ·exact h3 z hz
   ·rcases List.mem_cons.1 hz with rfl | hz
    ·exact h2 y e
    ·exact Plate.lt_trans (h2 y e) (h5 x rfl z hz)
  ·rintro ⟨h1, h2, h3⟩
   obtain ⟨h4, h5⟩ := List.pairwise_cons.1 h2
   exact ⟨h1 x (by simp), fun y e => h3 y e x (by simp), fun z hz => h1 z (by simp [hz]), h5, fun y e z hz => by cases e; exact h4 z hz⟩
theorem zD0 : ∀ (p : zS2), X8 p = 0 ↔ ∀ l, l ∈ p → Sound l
 | [] => by simp [X8]
 | l :: r => by
  have key : X8 (l :: r) = 0 ↔ l.length ≤ 8 ∧ i9 none l = 0 ∧ X8 r = 0 := by
   simp only [X8]
   by_cases h : 8 < l.length
   ·rw [if_pos h]; exact ⟨fun e => by omega, fun e => by omega⟩
   ·rw [if_neg h]
    by_cases h' : i9 none l = 0
    ·rw [if_pos h']; exact ⟨fun e => ⟨by omega, h', e⟩, fun e => e.2.2⟩
    ·rw [if_neg h']; exact ⟨fun e => absurd e h', fun e => absurd e.2.1 h'⟩
  rw [key, zD0 r, zDz]
  constructor
  ·rintro ⟨h1, ⟨h2, h3, _⟩, h4⟩ m hm
   rcases List.mem_cons.1 hm with rfl | hm
   ·exact ⟨h1, h2, h3⟩
   ·exact h4 m hm
  ·intro h
   have hl := h l (by simp)
   exact ⟨hl.len, ⟨hl.ok, hl.sorted, fun y e => by cases e⟩, fun m hm => h m (by simp [hm])⟩
theorem E5 (p : zS2) : check p = 0 ↔ Valid p := by
 unfold check
 by_cases h : p.length = 0
 ·simp only [h, if_true]; exact ⟨fun e => by omega, fun v => absurd v.ne (by omega)⟩
 ·by_cases h' : 3 < p.length
  ·simp only [h, h', if_true, if_false]; exact ⟨fun e => by omega, fun v => absurd v.len (by omega)⟩
  ·simp only [h, h', if_false, zD0]
   exact ⟨fun hr => ⟨by omega, by omega, hr⟩, fun v => v.rows⟩
theorem zKW (k : Nat) (p : zS2) : T9 k p = (List.range p.length).flatMap fun s => (p.getD s default).map fun x => (⟨((k + s : Nat) : Int), x⟩ : House) := by
 induction p generalizing k with
 | nil => simp [T9]
 | cons l r ih =>
  simp only [T9, List.length_cons, List.range_succ_eq_map, List.flatMap_cons, List.flatMap_map, ih]
  simp [Nat.add_assoc, Nat.add_comm 1]
theorem zCX (p : zS2) : x6 p = (List.range p.length).flatMap fun s => (p.getD s default).map fun x => (⟨(s : Nat), x⟩ : House) := by
 have := zKW 0 p
 simpa [x6] using this
theorem mem_houses {p : zS2} {h : House} : h ∈ x6 p ↔ 0 ≤ h.street ∧ h.street < p.length ∧ h.plate ∈ S9 p h.street := by
 rw [zCX]
 simp only [List.mem_flatMap, List.mem_range, List.mem_map, S9]
 constructor
 ·rintro ⟨s, hs, x, hx, rfl⟩
  exact ⟨by simp, by simp; exact hs, by simpa using hx⟩
 ·rintro ⟨h0, h1, h2⟩
  refine ⟨h.street.toNat, by omega, h.plate, h2, ?_⟩
  cases h; simp at *; omega
theorem Valid.row {p : zS2} (v : Valid p) (s : Int) : Sound (S9 p s) := by
 unfold S9
 by_cases h : s.toNat < p.length
 ·exact v.rows _ (j9 h)
 ·simp only [List.getD_eq_getElem?_getD, List.getElem?_eq_none (Nat.le_of_not_lt h), Option.getD_none]
  show Sound []
  exact ⟨by simp, fun x hx => by simp at hx, List.Pairwise.nil⟩
theorem zOt {p : zS2} (v : Valid p) : Strict (x6 p) := by
 rw [zCX]
 have key : ∀ n, n ≤ p.length → Strict ((List.range n).flatMap fun s => (p.getD s default).map fun x => (⟨(s : Nat), x⟩ : House)) := by
  intro n
  induction n with
  | zero => intro _; simp [Strict]
  | succ n ih =>
   intro hn
   rw [List.range_succ, List.flatMap_append]
   refine List.pairwise_append.2 ⟨ih (by omega), ?_, fun a ha b hb => ?_⟩
   ·simp only [List.flatMap_cons, List.flatMap_nil, List.append_nil]
    rw [List.pairwise_map]
    exact (v.rows _ (j9 (by omega))).sorted.imp (fun {x y} h => by rw [House.lt_iff]; rw [Plate.lt_iff] at h; exact .inr ⟨rfl, h⟩)
   ·simp only [List.mem_flatMap, List.mem_range, List.mem_map, List.flatMap_cons, List.flatMap_nil, List.append_nil] at ha hb
    obtain ⟨s, hs, x, _, rfl⟩ := ha
    obtain ⟨y, _, rfl⟩ := hb
    rw [House.lt_iff]; left; simp; omega
 exact key _ (Nat.le_refl _)
end Go.Abs

namespace Go.Abs
open Go
structure Fit (p : zS2) (c : Change) : Prop where
 kind : 1 ≤ c.kind ∧ c.kind ≤ 7
 street : 0 ≤ c.street ∧ c.street < p.length
 other : c.kind = 4 ∨ c.kind = 7 → 0 ≤ c.other ∧ c.other < p.length ∧ c.other ≠ c.street
 fits : zET p c = 0
theorem zLb (x : Plate) : x.ok = true ↔ (1 ≤ x.number ∧ x.number ≤ 40) ∧ 0 ≤ x.letter ∧ x.letter ≤ 4 := by simp [Plate.ok, zTf]
section
variable {p : zS2} {c : Change} {x : Plate}
end
end Go.Abs

namespace Go.Abs
open Go
theorem zE3 {l : List Plate} {x : Plate} (h : x ∈ l) : zTy l x = (l.idxOf x : Nat) := by simp [zTy, h]
end Go.Abs

namespace Go.Abs
open Go
abbrev u3 (a b : Str) : Bool := Op.bytesLess a b
theorem zDJ (a b : UInt8) (x y : Str) : u3 (a :: x) (b :: y) = (decide (a < b) || (a == b && u3 x y)) := rfl
theorem zDK : ∀ a : Str, u3 a a = false
 | [] => rfl
 | a :: x => by rw [zDJ, zDK x]; simp
theorem zDL : ∀ {a b c : Str}, u3 a b = true → u3 b c = true → u3 a c = true
 | [], [], _, h, _ => by cases h
 | [], _ :: _, [], _, h => by cases h
 | [], _ :: _, _ :: _, _, _ => rfl
 | _ :: _, [], _, h, _ => by cases h
 | _ :: _, _ :: _, [], _, h => by cases h
 | a :: x, b :: y, c :: z, h1, h2 => by
  rw [zDJ, Bool.or_eq_true, Bool.and_eq_true, decide_eq_true_eq, beq_iff_eq] at h1 h2 ⊢
  rw [UInt8.lt_iff_toNat_lt] at h1 h2 ⊢
  rcases h1 with h1 | ⟨rfl, h1⟩
  ·rcases h2 with h2 | ⟨rfl, h2⟩
   ·exact .inl (by omega)
   ·exact .inl h1
  ·rcases h2 with h2 | ⟨rfl, h2⟩
   ·exact .inl h2
   ·exact .inr ⟨rfl, zDL h1 h2⟩
theorem zAd : ∀ {a b : Str}, u3 a b = false → u3 b a = false → a = b
 | [], [], _, _ => rfl
 | [], _ :: _, h, _ => by cases h
 | _ :: _, [], _, h => by cases h
 | a :: x, b :: y, h1, h2 => by
  rw [zDJ, Bool.or_eq_false_iff] at h1 h2
  have e1 : ¬ a < b := by simpa using h1.1
  have e2 : ¬ b < a := by simpa using h2.1
  rw [UInt8.lt_iff_toNat_lt] at e1 e2
  have e : a = b := UInt8.toNat_inj.1 (by omega)
  subst e
  have g1 : u3 x y = false := by simpa using h1.2
  have g2 : u3 y x = false := by simpa using h2.2
  rw [zAd g1 g2]
theorem zOs {a b : Str} (h : u3 a b = true) : u3 b a = false := by
 cases e : u3 b a with
 | false => rfl
 | true => have := zDL h e; rw [zDK] at this; cases this
def zS5 (a b : Str) : Int := if u3 a b = true then -1 else if u3 b a = true then 1 else 0
theorem cmpS_neg {a b : Str} : zS5 a b < 0 ↔ u3 a b = true := by
 unfold zS5
 by_cases h : u3 a b = true
 ·rw [if_pos h]; simp [h]
 ·rw [if_neg h]
  split <;> simp [h]
theorem cmpS_zero {a b : Str} : zS5 a b = 0 ↔ a = b := by
 unfold zS5
 constructor
 ·intro h
  by_cases h1 : u3 a b = true
  ·rw [if_pos h1] at h; cases h
  ·rw [if_neg h1] at h
   by_cases h2 : u3 b a = true
   ·rw [if_pos h2] at h; cases h
   ·exact zAd (by simpa using h1) (by simpa using h2)
 ·rintro rfl
  simp [zDK]
def w6 (c : UInt8) : Bool := decide (97 ≤ c.toNat) && decide (c.toNat ≤ 122)
def U9 (c : UInt8) : Bool := decide (65 ≤ c.toNat) && decide (c.toNat ≤ 90) && !(c == 72 || c == 81 || c == 87)
def u6 (c : UInt8) : Int := if w6 c = true then 1 else if U9 c = true then 2 else 0
def o6 (c : UInt8) : Str := if c = 67 then [99, 104] else if c = 74 then [106, 117] else if c = 88 then [115, 104] else if c = 89 then [106, 97] else if 65 ≤ c.toNat ∧ c.toNat ≤ 90 then [UInt8.ofNat (c.toNat + 32)] else [c]
def zS0 (s : Str) : Str := s.flatMap o6
def Y0 (s : Str) : Bool := s.all w6 || s.all U9
def s9 (s : Str) : Int := if s.length = 0 then 7 else if 6 < s.length then 10 else if Y0 s = true then 0 else 2
structure ValidN (s : Str) : Prop where
 ne : 0 < s.length
 len : s.length ≤ 6
 form : Y0 s = true
theorem checkN_zero {s : Str} : s9 s = 0 ↔ ValidN s := by
 unfold s9
 constructor
 ·intro h
  split at h
  ·cases h
  ·split at h
   ·cases h
   ·split at h
    ·rename_i h1 h2 h3; exact ⟨by omega, by omega, h3⟩
    ·cases h
 ·intro v
  have h1 := v.ne
  have h2 := v.len
  rw [if_neg (by omega), if_neg (by omega), if_pos v.form]
theorem zMl {c : UInt8} (h : w6 c = true) : o6 c = [c] := by
 unfold w6 at h
 rw [Bool.and_eq_true, decide_eq_true_eq, decide_eq_true_eq] at h
 have ne : ∀ d : UInt8, d.toNat < 97 → ¬ c = d := fun d hd e => by subst e; omega
 unfold o6
 rw [if_neg (ne 67 (by decide)), if_neg (ne 74 (by decide)), if_neg (ne 88 (by decide)), if_neg (ne 89 (by decide)), if_neg (by omega)]
theorem zFC : ∀ {s : Str}, s.all w6 = true → zS0 s = s
 | [], _ => rfl
 | c :: r, h => by
  rw [List.all_cons, Bool.and_eq_true] at h
  show o6 c ++ zS0 r = _
  rw [zMl h.1, zFC h.2]; rfl
theorem zGF (c : UInt8) : 1 ≤ (o6 c).length ∧ (o6 c).length ≤ 2 := by
 unfold o6
 repeat' split
 all_goals simp
theorem zCf : ∀ s : Str, s.length ≤ (zS0 s).length ∧ (zS0 s).length ≤ 2 * s.length
 | [] => by simp [zS0]
 | c :: r => by
  have h1 := zGF c
  have h2 := zCf r
  have e : zS0 (c :: r) = o6 c ++ zS0 r := rfl
  rw [e, List.length_append, List.length_cons]
  omega
theorem zMm {c : UInt8} (h : U9 c = true) : ∀ d, d ∈ o6 c → w6 d = true := by
 unfold U9 at h
 rw [Bool.and_eq_true, Bool.and_eq_true, decide_eq_true_eq, decide_eq_true_eq] at h
 obtain ⟨⟨h1, h2⟩, _⟩ := h
 unfold o6
 split
 ·decide
 ·split
  ·decide
  ·split
   ·decide
   ·split
    ·decide
    ·rw [if_pos ⟨h1, h2⟩]
     intro d hd
     rw [List.mem_singleton.1 hd]
     unfold w6
     have : (UInt8.ofNat (c.toNat + 32)).toNat = c.toNat + 32 := UInt8.toNat_ofNat_of_lt' (by show c.toNat + 32 < 256; omega)
     rw [this]
     simp; omega
theorem zKp {s : Str} (h : Y0 s = true) : (zS0 s).all w6 = true := by
 unfold Y0 at h
 rw [Bool.or_eq_true] at h
 rcases h with h | h
 ·rw [zFC h]; exact h
 ·rw [List.all_eq_true] at h ⊢
  intro d hd
  obtain ⟨c, hc, hd⟩ := List.mem_flatMap.1 hd
  exact zMm (h c hc) d hd
def Q1 (s : Str) : Int := u6 (s.getD 0 0)
def X9 (a b : Str) : Int := orI (zS5 (zS0 a) (zS0 b)) (zTG (Q1 a) (Q1 b))
end Go.Abs

namespace Go.Abs
open Go
structure Rule where
 src : Str
 dst : Str
 deriving DecidableEq, Inhabited
@[reducible] def Rule.enc (r : Rule) : AV := .agg [sV r.src, sV r.dst]
def v7 (s : Str) (lo hi : Nat) : Bool := decide (lo ≤ s.length) && (decide (s.length ≤ hi) && s.all w6)
def Rule.ok (r : Rule) : Bool := v7 r.src 1 2 && (v7 r.dst 0 2 && !(decide (r.src = r.dst)))
def r9 (l : List Rule) : Int := if 4 < l.length then 6 else if l.all Rule.ok = true then 0 else 2
def Z9 : List Str → Int
 | [] => 0
 | s :: r => if s9 s = 0 then Z9 r else s9 s
def N6 (k a b : Str) (i : Nat) : List Str := (List.range' i (k.length + 1 - i)).flatMap fun i => if a.isPrefixOf (k.drop i) = true ∧ v7 (k.take i ++ b ++ k.drop (i + a.length)) 1 12 = true then [k.take i ++ b ++ k.drop (i + a.length)] else []
def X3 (k a b : Str) : List Str := N6 k a b 0
def Q3 (l : List Rule) (k : Str) : List Str := l.flatMap fun r => X3 k r.src r.dst ++ X3 k r.dst r.src
def O7 (met : List Str) : List Str → List Str
 | [] => []
 | x :: r => if x ∈ met then O7 met r else x :: O7 (x :: met) r
theorem zCt : ∀ (l met : List Str) (x : Str), x ∈ O7 met l ↔ x ∈ l ∧ x ∉ met
 | [], met, x => by simp [O7]
 | y :: r, met, x => by
  rw [O7]
  split
  ·rename_i h
   rw [zCt r met x]
   constructor
   ·rintro ⟨h1, h2⟩; exact ⟨by simp [h1], h2⟩
   ·rintro ⟨h1, h2⟩
    refine ⟨?_, h2⟩
    rcases List.mem_cons.1 h1 with rfl | h1
    ·exact absurd h h2
    ·exact h1
  ·rename_i h
   rw [List.mem_cons, zCt r _ x]
   simp only [List.mem_cons, not_or]
   constructor
   ·rintro (rfl | ⟨h1, h2, h3⟩)
    ·exact ⟨.inl rfl, h⟩
    ·exact ⟨.inr h1, h3⟩
   ·rintro ⟨h1, h2⟩
    by_cases e : x = y
    ·exact .inl e
    ·exact .inr ⟨h1.resolve_left e, e, h2⟩
def zAy (l : List Str) : List Str := O7 [] l
theorem mem_dedupN {l : List Str} {x : Str} : x ∈ zAy l ↔ x ∈ l := by unfold zAy; rw [zCt]; simp
def j6 (l : List Rule) (to : Str) : Nat → Str → List Str → List (List Str)
 | 0, now, pre => if now = to then [pre ++ [now]] else []
 | n + 1, now, pre => (zAy (Q3 l now)).flatMap fun s => j6 l to n s (pre ++ [now])
inductive IsChain (l : List Rule) (to : Str) : Nat → Str → List Str → Prop
 | nil : IsChain l to 0 to [to]
 | cons {n : Nat} {s s' : Str} {c : List Str} : s' ∈ Q3 l s → IsChain l to n s' c → IsChain l to (n + 1) s (s :: c)
theorem mem_chainsN {l : List Rule} {to : Str} : ∀ {n : Nat} {s : Str} {pre c : List Str}, c ∈ j6 l to n s pre ↔ ∃ d, c = pre ++ d ∧ IsChain l to n s d
 | 0, s, pre, c => by
  rw [j6]
  constructor
  ·intro h
   split at h
   ·rename_i e
    subst e
    exact ⟨[s], List.mem_singleton.1 h, .nil⟩
   ·cases h
  ·rintro ⟨d, rfl, h⟩
   cases h
   simp
 | n + 1, s, pre, c => by
  rw [j6, List.mem_flatMap]
  constructor
  ·rintro ⟨s', h1, h2⟩
   obtain ⟨d, rfl, h⟩ := mem_chainsN.1 h2
   exact ⟨s :: d, by simp, .cons (mem_dedupN.1 h1) h⟩
  ·rintro ⟨d, rfl, h⟩
   cases h with
   | cons h1 h2 => exact ⟨_, mem_dedupN.2 h1, mem_chainsN.2 ⟨_, by simp, h2⟩⟩
def zS1 : List Str → List Str → Int
 | [], [] => 0
 | [], _ :: _ => -1
 | _ :: _, [] => 1
 | a :: x, b :: y => if zS5 a b = 0 then zS1 x y else zS5 a b
theorem O6 (a b : Str) : zS5 b a = -zS5 a b := by
 unfold zS5
 cases h : u3 a b with
 | true => rw [zOs h]; simp
 | false => cases h2 : u3 b a <;> simp
theorem zCD : ∀ x y : List Str, zS1 y x = -zS1 x y
 | [], [] => rfl
 | [], _ :: _ => rfl
 | _ :: _, [] => rfl
 | a :: x, b :: y => by
  rw [zS1, zS1, O6 a b]
  by_cases h : zS5 a b = 0
  ·rw [if_pos h, if_pos (by omega), zCD x y]
  ·rw [if_neg h, if_neg (by omega)]
theorem zD1 : ∀ {x y : List Str}, zS1 x y = 0 → x = y
 | [], [], _ => rfl
 | [], _ :: _, h => by cases h
 | _ :: _, [], h => by cases h
 | a :: x, b :: y, h => by
  rw [zS1] at h
  split at h
  ·rename_i e; rw [cmpS_zero.1 e, zD1 h]
  ·rename_i e; exact absurd h e
def w7 {α : Type} (cmp : α → α → Int) : Option α → List α → Option α
 | b, [] => b
 | none, x :: r => w7 cmp (some x) r
 | some y, x :: r => if cmp x y < 0 then w7 cmp (some x) r else w7 cmp (some y) r
def zCO {α : Type} (cmp : α → α → Int) (l : List α) : Option α := w7 cmp none l
def R7 {α : Type} (cmp : α → α → Int) (S : α → Prop) (b : α) : Prop := S b ∧ ∀ x, S x → ¬ cmp x b < 0
section
variable {α : Type} {cmp : α → α → Int} (tr : ∀ x y z, ¬ cmp x y < 0 → ¬ cmp y z < 0 → ¬ cmp x z < 0) (asy : ∀ x y, cmp x y < 0 → ¬ cmp y x < 0)
include tr asy
theorem zCN : ∀ (l : List α) (y : α), ∃ b, w7 cmp (some y) l = some b ∧ R7 cmp (fun x => x = y ∨ x ∈ l) b
 | [], y => ⟨y, rfl, .inl rfl, fun x hx => by
  rcases hx with rfl | hx
  ·exact fun h => asy _ _ h h
  ·cases hx⟩
 | x :: r, y => by
  rw [w7]
  split
  ·rename_i h
   obtain ⟨b, h1, h2, h3⟩ := zCN r x
   refine ⟨b, h1, ?_, fun z hz => ?_⟩
   ·rcases h2 with h2 | h2
    ·exact .inr (by simp [h2])
    ·exact .inr (by simp [h2])
   ·rcases hz with rfl | hz
    ·exact tr _ _ _ (asy _ _ h) (h3 x (.inl rfl))
    ·rcases List.mem_cons.1 hz with rfl | hz
     ·exact h3 _ (.inl rfl)
     ·exact h3 _ (.inr hz)
  ·rename_i h
   obtain ⟨b, h1, h2, h3⟩ := zCN r y
   refine ⟨b, h1, ?_, fun z hz => ?_⟩
   ·rcases h2 with h2 | h2
    ·exact .inl h2
    ·exact .inr (by simp [h2])
   ·rcases hz with rfl | hz
    ·exact h3 _ (.inl rfl)
    ·rcases List.mem_cons.1 hz with rfl | hz
     ·exact tr _ _ _ h (h3 y (.inl rfl))
     ·exact h3 _ (.inr hz)
theorem zIw {l : List α} (hl : l ≠ []) : ∃ b, zCO cmp l = some b ∧ R7 cmp (· ∈ l) b := by
 cases l with
 | nil => exact absurd rfl hl
 | cons x r =>
  obtain ⟨b, h1, h2, h3⟩ := zCN tr asy r x
  refine ⟨b, h1, ?_, fun z hz => h3 z ?_⟩
  ·rcases h2 with rfl | h2
   ·simp
   ·simp [h2]
  ·exact List.mem_cons.1 hz
end
theorem zIv {α : Type} {cmp : α → α → Int} : zCO cmp ([] : List α) = none := rfl
theorem zUf {x y z : Str} (h1 : ¬ zS5 x y < 0) (h2 : ¬ zS5 y z < 0) : ¬ zS5 x z < 0 := by
 rw [cmpS_neg] at *
 intro h
 by_cases e : u3 y x = true
 ·exact h2 (zDL e h)
 ·have : x = y := zAd (by simpa using h1) (by simpa using e)
  subst this; exact h2 h
theorem zUU : ∀ {x y z : List Str}, ¬ zS1 x y < 0 → ¬ zS1 y z < 0 → ¬ zS1 x z < 0
 | [], [], _, _, h => h
 | [], _ :: _, _, h, _ => absurd (by rw [zS1]; decide) h
 | _ :: _, [], [], _, _ => by rw [zS1]; decide
 | _ :: _, [], _ :: _, _, h => absurd (by rw [zS1]; decide) h
 | _ :: _, _ :: _, [], _, _ => by rw [zS1]; decide
 | a :: x, b :: y, c :: z, h1, h2 => by
  rw [zS1] at *
  have hab := O6 a b
  have hbc := O6 b c
  have hac := O6 a c
  by_cases e1 : zS5 a b = 0
  ·rw [if_pos e1] at h1
   rw [cmpS_zero.1 e1]
   by_cases e2 : zS5 b c = 0
   ·rw [if_pos e2] at h2 ⊢
    exact zUU h1 h2
   ·rw [if_neg e2] at h2 ⊢
    exact h2
  ·rw [if_neg e1] at h1
   by_cases e2 : zS5 b c = 0
   ·rw [if_pos e2] at h2
    rw [← cmpS_zero.1 e2, if_neg e1]; exact h1
   ·rw [if_neg e2] at h2
    have h3 := zUf h1 h2
    by_cases e3 : zS5 a c = 0
    ·have : a = c := cmpS_zero.1 e3
     subst this
     omega
    ·rw [if_neg e3]; exact h3
theorem zHm (x y : List Str) (h : zS1 x y < 0) : ¬ zS1 y x < 0 := by have := zCD x y; omega
theorem zK4 {S : List Str → Prop} {a b : List Str} (ha : R7 zS1 S a) (hb : R7 zS1 S b) : a = b := by
 have h1 := ha.2 b hb.1
 have h2 := hb.2 a ha.1
 have := zCD a b
 exact zD1 (by omega)
def V2 (l : List Rule) (n : Nat) (k to : Str) : Option (List Str) := zCO zS1 (j6 l to n k [])
theorem chainN_some {l : List Rule} {n : Nat} {k to : Str} {c : List Str} : V2 l n k to = some c ↔ R7 zS1 (IsChain l to n k) c := by
 have hm : ∀ x, x ∈ j6 l to n k [] ↔ IsChain l to n k x := fun x => by
  rw [mem_chainsN]
  exact ⟨fun ⟨d, e, h⟩ => by rw [e]; exact h, fun h => ⟨x, rfl, h⟩⟩
 unfold V2
 by_cases hl : j6 l to n k [] = []
 ·rw [hl, zIv]
  constructor
  ·intro h; cases h
  ·intro h
   have := (hm c).2 h.1
   rw [hl] at this; cases this
 ·obtain ⟨b, h1, h2, h3⟩ := zIw (cmp := zS1) (fun _ _ _ => zUU) zHm hl
  have hb : R7 zS1 (IsChain l to n k) b := ⟨(hm b).1 h2, fun x hx => h3 x ((hm x).2 hx)⟩
  rw [h1]
  constructor
  ·intro h; cases h; exact hb
  ·intro h; rw [zK4 h hb]
def zB2 (s : Str) : Option (List Str) → Str → Option (List Str) → Option (List Str)
 | best, _, none => best
 | none, _, some rest => some (s :: rest)
 | some b, x, some rest => if u3 x (b.getD 1 []) = true then some (s :: rest) else some b
def M7 (l : List Rule) (to : Str) : Nat → Str → Option (List Str)
 | 0, s => if s = to then some [s] else none
 | n + 1, s => (Q3 l s).foldl (fun best x => zB2 s best x (M7 l to n x)) none
theorem IsChain.head {l : List Rule} {to : Str} {n : Nat} {s : Str} {c : List Str} (h : IsChain l to n s c) : ∃ r, c = s :: r := by
 cases h with
 | nil => exact ⟨_, rfl⟩
 | cons _ _ => exact ⟨_, rfl⟩
def zTv (l : List Rule) (to : Str) (n : Nat) (s : Str) (xs : List Str) (c : List Str) : Prop := ∃ x r, x ∈ xs ∧ c = s :: r ∧ IsChain l to n x r
theorem E6 (a : Str) (x y : List Str) : zS1 (a :: x) (a :: y) = zS1 x y := by rw [zS1, if_pos (cmpS_zero.2 rfl)]
theorem zCA {l : List Rule} {to : Str} : ∀ {n : Nat} {s : Str} {o : Option (List Str)}, M7 l to n s = o → match o with
    | none => ∀ c, ¬ IsChain l to n s c
    | some c => R7 zS1 (IsChain l to n s) c
  | 0, s, o, h => by
    rw [M7] at h
    split at h
    · rename_i e
      subst h e
      refine ⟨.nil, fun x hx => ?_⟩
      cases hx
      rw [zS1, if_pos (cmpS_zero.2 rfl)]; decide
    · rename_i e
      subst h
      intro c hc
      cases hc
      exact e rfl
  | n + 1, s, o, h => by
    rw [M7] at h
    have key : ∀ (xs done : List Str) (b : Option (List Str)), (match b with
        | none => ∀ c, ¬ zTv l to n s done c
        | some c => R7 zS1 (zTv l to n s done) c) →
        match xs.foldl (fun best x => zB2 s best x (M7 l to n x)) b with
        | none => ∀ c, ¬ zTv l to n s (done ++ xs) c
        | some c => R7 zS1 (zTv l to n s (done ++ xs)) c := by
      intro xs
      induction xs with
      | nil => intro done b hb; simpa using hb
      | cons x xs ih =>
        intro done b hb
        rw [List.foldl_cons, show done ++ x :: xs = (done ++ [x]) ++ xs by simp]
        apply ih
        have IH := zCA (l := l) (to := to) (n := n) (s := x) rfl
        cases hr : M7 l to n x with
        | none =>
          rw [hr] at IH
          have hov : ∀ c, zTv l to n s (done ++ [x]) c ↔ zTv l to n s done c := fun c => by
            constructor
            · rintro ⟨y, r, hy, rfl, hc⟩
              rcases List.mem_append.1 hy with hy | hy
              · exact ⟨y, r, hy, rfl, hc⟩
              · rw [List.mem_singleton.1 hy] at hc; exact absurd hc (IH r)
            · rintro ⟨y, r, hy, rfl, hc⟩
              exact ⟨y, r, by simp [hy], rfl, hc⟩
          cases b with
          | none => exact fun c hc => hb c ((hov c).1 hc)
          | some b => exact ⟨(hov b).2 hb.1, fun z hz => hb.2 z ((hov z).1 hz)⟩
        | some rest =>
          rw [hr] at IH
          obtain ⟨r0, rfl⟩ := IH.1.head
          have hnew : zTv l to n s (done ++ [x]) (s :: x :: r0) := ⟨x, x :: r0, by simp, rfl, IH.1⟩
          cases b with
          | none =>
            show R7 zS1 _ (s :: x :: r0)
            refine ⟨hnew, ?_⟩
            rintro z ⟨y, r, hy, rfl, hc⟩
            rcases List.mem_append.1 hy with hy | hy
            · exact absurd ⟨y, r, hy, rfl, hc⟩ (hb (s :: r))
            · rw [List.mem_singleton.1 hy] at hc
              rw [E6]; exact IH.2 _ hc
          | some b =>
            obtain ⟨⟨yb, rb, hyb, eb, hcb⟩, hleast⟩ := hb
            obtain ⟨rb0, rfl⟩ := hcb.head
            subst eb
            simp only [zB2, List.getD_cons_succ, List.getD_cons_zero]
            by_cases hlt : u3 x yb = true
            · rw [if_pos hlt]
              refine ⟨hnew, ?_⟩
              rintro z ⟨y, r, hy, rfl, hc⟩
              rcases List.mem_append.1 hy with hy | hy
              · have h1 := hleast (s :: r) ⟨y, r, hy, rfl, hc⟩
                refine zUU h1 ?_
                rw [E6, zS1]
                have h2 := cmpS_neg.2 hlt
                have h3 := O6 x yb
                rw [if_neg (by omega)]; omega
              · rw [List.mem_singleton.1 hy] at hc
                rw [E6]; exact IH.2 _ hc
            · rw [if_neg hlt]
              refine ⟨⟨yb, yb :: rb0, by simp [hyb], rfl, hcb⟩, ?_⟩
              rintro z ⟨y, r, hy, rfl, hc⟩
              rcases List.mem_append.1 hy with hy | hy
              · exact hleast (s :: r) ⟨y, r, hy, rfl, hc⟩
              · rw [List.mem_singleton.1 hy] at hc
                obtain ⟨r', rfl⟩ := hc.head
                rw [E6, zS1]
                have h2 : ¬ zS5 x yb < 0 := fun h => hlt (cmpS_neg.1 h)
                split
                · rename_i e
                  have e := cmpS_zero.1 e
                  subst e
                  have := hleast (s :: x :: r') ⟨x, x :: r', hyb, rfl, hc⟩
                  rw [E6, E6] at this
                  exact this
                · exact h2
    have := key (Q3 l s) [] none (by rintro c ⟨y, r, hy, _⟩; cases hy)
    rw [h, List.nil_append] at this
    have hov : ∀ c, zTv l to n s (Q3 l s) c ↔ IsChain l to (n + 1) s c := fun c => by
      constructor
      · rintro ⟨y, r, hy, rfl, hc⟩; exact .cons hy hc
      · intro hc
        cases hc with
        | cons h1 h2 => exact ⟨_, _, h1, rfl, h2⟩
    cases o with
    | none => exact fun c hc => this c ((hov c).2 hc)
    | some c => exact ⟨(hov c).1 this.1, fun z hz => this.2 z ((hov z).2 hz)⟩
theorem zH7 (l : List Rule) (to : Str) (n : Nat) (s : Str) : V2 l n s to = M7 l to n s := by
 have h := zCA (l := l) (to := to) (n := n) (s := s) rfl
 cases hr : M7 l to n s with
 | some c => rw [hr] at h; exact chainN_some.2 h
 | none =>
  rw [hr] at h
  cases hc : V2 l n s to with
  | none => rfl
  | some c => exact absurd (chainN_some.1 hc).1 (h c)
end Go.Abs

namespace Go.Abs
open Go
end Go.Abs

namespace Go.Abs
open Go
theorem zES {α β : Type} {f : α → Option β} {b : β} : ∀ {L : List α}, P3 f L = some b → ∃ pre x post, L = pre ++ x :: post ∧ f x = some b ∧ ∀ y, y ∈ pre → f y = none
 | [], h => by cases h
 | y :: r, h => by
  rw [P3] at h
  split at h
  ·rename_i e; cases h; exact ⟨[], y, r, rfl, e, fun _ h => by cases h⟩
  ·rename_i e
   obtain ⟨pre, x, post, rfl, h1, h2⟩ := zES h
   exact ⟨y :: pre, x, post, rfl, h1, fun z hz => by
    rcases List.mem_cons.1 hz with rfl | hz
    ·exact e
    ·exact h2 z hz⟩
end Go.Abs

namespace Go.Abs
open Go
def X1 (r : List Rule) (a b : Str) : Int := if r9 r = 0 then if s9 a = 0 then s9 b else s9 a else r9 r
def J9 (r : List Rule) (a b : Str) : Option (List Str) := P3 (fun n => V2 r n (zS0 a) (zS0 b)) [0, 1, 2]
def b9 (r : List Rule) (a b : Str) : Int := if X1 r a b = 0 then if (J9 r a b).isSome = true then 0 else 11 else X1 r a b
def A8 (r : List Rule) (a b : Str) : List Str := if X1 r a b = 0 then (J9 r a b).getD [] else []
def O2 (r : List Rule) (a b : Str) : Int := if b9 r a b = 0 then ((A8 r a b).length : Int) - 1 else 0
def B8 (r : List Rule) (a b : Str) : Int := if b9 r a b = 11 then 2 else if b9 r a b = 0 then (if O2 r a b = 0 then 1 else 3) else 0
def F0 (r : List Rule) (a b : Str) : Int := if b9 r a b = 11 then 0 else b9 r a b
theorem zDy {r : List Rule} {to : Str} {n : Nat} {s : Str} {c : List Str} (h : IsChain r to n s c) : c.length = n + 1 := by
 induction h with
 | nil => rfl
 | cons _ _ ih => rw [List.length_cons, ih]
theorem zDx {r : List Rule} {a b : Str} {c : List Str} (h : J9 r a b = some c) : ∃ n, n ≤ 2 ∧ c.length = n + 1 ∧ IsChain r (zS0 b) n (zS0 a) c ∧ ∀ m, m < n → ∀ d, ¬ IsChain r (zS0 b) m (zS0 a) d := by
 obtain ⟨pre, n, post, h1, h2, h3⟩ := zES h
 have hn := (chainN_some.1 h2).1
 have hm : ∀ m, m ∈ pre → ∀ d, ¬ IsChain r (zS0 b) m (zS0 a) d := fun m hm d hd => by
  have := h3 m hm
  rw [zH7] at this
  exact (zCA this) d hd
 have hcase : (n = 0 ∧ pre = []) ∨ (n = 1 ∧ pre = [0]) ∨ (n = 2 ∧ pre = [0, 1]) := by
  match pre, h1 with
  | [], h1 => simp at h1; exact .inl ⟨h1.1.symm, rfl⟩
  | [x], h1 => simp at h1; exact .inr (.inl ⟨h1.2.1.symm, by rw [h1.1]⟩)
  | [x, y], h1 => simp at h1; exact .inr (.inr ⟨h1.2.2.1.symm, by rw [h1.1, h1.2.1]⟩)
  | x :: y :: z :: t, h1 =>
   have := congrArg List.length h1
   simp at this
 refine ⟨n, by rcases hcase with h | h | h <;> omega, zDy hn, hn, fun m hlt d => ?_⟩
 rcases hcase with ⟨rfl, _⟩ | ⟨rfl, rfl⟩ | ⟨rfl, rfl⟩
 ·omega
 ·exact hm m (by simp; omega) d
 ·exact hm m (by simp; omega) d
end Go.Abs

namespace Go.Abs
open Go
structure Dice where
 list : List Int
 at_ : Nat
 seed : Int
 deriving Inhabited
abbrev uV (n : Int) : AV := .raw (.int .u64 n)
def y4 (d : Dice) : AObj := .box [.list (d.list.map iV), iV d.at_, uV d.seed]
def R4 (a b : Int) : Int := IntKind.u64.wrap (BitVec.ofInt IntKind.u64.bits a ^^^ BitVec.ofInt IntKind.u64.bits b).toNat
def zAZ (a : Int) (k : Nat) : Int := IntKind.u64.wrap (a * 2 ^ (min k IntKind.u64.bits))
def X5 (a : Int) (k : Nat) : Int := a.fdiv (2 ^ (min k IntKind.u64.bits))
def zUV (s : Int) : Int := R4 s (zAZ s 13)
def zUW (s : Int) : Int := R4 s (X5 s 7)
def zUX (s : Int) : Int := R4 s (zAZ s 17)
def zAK (s : Int) : Int := zUX (zUW (zUV s))
def zTp (d : Dice) : Int := if d.at_ < d.list.length then IntKind.u64.wrap (zAK d.seed + IntKind.u64.wrap (IntKind.u64.wrap (d.list.getD d.at_ default) * 13787848793156543929)) else zAK d.seed
def zTc (d : Dice) : Dice := ⟨d.list, if d.at_ < d.list.length then d.at_ + 1 else d.at_, zTp d⟩
def zUI (n : Int) : Int := IntKind.u64.wrap (R4 n (X5 n 30) * 10723151780598845931)
def zTi (d : Dice) : Int := R4 (zUI (zTp d)) (X5 (zUI (zTp d)) 31)
theorem zQC (n : Int) : 0 ≤ IntKind.u64.wrap n ∧ IntKind.u64.wrap n < 18446744073709551616 := by
 rw [IntKind.wrap_u64]; omega
theorem zL2 (d : Dice) : 0 ≤ zTi d ∧ zTi d < 18446744073709551616 := zQC _
def toN (n : Int) (d : Dice) : Int := if n < 1 then 0 else (X5 (zTi d) 16).tmod (n + 1)
def toD (n : Int) (d : Dice) : Dice := if n < 1 then d else zTc d
theorem zMb (n : Int) (h0 : 0 ≤ n) : 0 ≤ X5 n 16 := by
 unfold X5
 rw [Int.fdiv_eq_ediv_of_nonneg _ (by decide)]
 exact Int.ediv_nonneg h0 (by decide)
theorem zDW (n : Int) (d : Dice) : 0 ≤ toN n d ∧ (toN n d ≤ n ∨ toN n d = 0) := by
 unfold toN
 split
 ·omega
 ·have h := zMb _ (zL2 d).1
  rw [Int.tmod_eq_emod_of_nonneg h]
  have h1 := Int.emod_nonneg (X5 (zTi d) 16) (b := n + 1) (by omega)
  have h2 := Int.emod_lt_of_pos (X5 (zTi d) 16) (b := n + 1) (by omega)
  omega
theorem Y7 {n : Int} (h : 0 ≤ n) (d : Dice) : 0 ≤ toN n d ∧ toN n d ≤ n := by
 have := zDW n d; omega
def Y1 (lo hi : Int) (d : Dice) : Int := lo + toN (hi - lo) d
def O9 (lo hi : Int) (d : Dice) : Dice := toD (hi - lo) d
theorem zA8 {lo hi : Int} (h : lo ≤ hi) (d : Dice) : lo ≤ Y1 lo hi d ∧ Y1 lo hi d ≤ hi := by
 have := Y7 (n := hi - lo) (by omega) d
 unfold Y1; omega
def N2 (k : Int) (d : Dice) : Bool := toN (k - 1) d == 0
def t8 (k : Int) (d : Dice) : Dice := toD (k - 1) d
end Go.Abs

namespace Go.Abs
open Go
theorem mem_replacedN {k a b s : Str} : s ∈ X3 k a b ↔ ∃ i, i ≤ k.length ∧ a.isPrefixOf (k.drop i) = true ∧ v7 s 1 12 = true ∧ s = k.take i ++ b ++ k.drop (i + a.length) := by
 unfold X3 N6
 rw [List.mem_flatMap]
 constructor
 ·rintro ⟨i, hi, h⟩
  rw [List.mem_range'_1] at hi
  split at h
  ·rename_i hc
   have := List.mem_singleton.1 h
   subst this
   exact ⟨i, by omega, hc.1, hc.2, rfl⟩
  ·cases h
 ·rintro ⟨i, hi, h1, h2, rfl⟩
  refine ⟨i, by rw [List.mem_range'_1]; omega, ?_⟩
  rw [if_pos ⟨h1, h2⟩]
  simp
def zUH (r : List Rule) (a b : Str) : Int := match J9 r a b with
 | some c => (c.length : Int) - 1
 | none => 9
theorem zKs {s : Str} (v : ValidN s) : v7 (zS0 s) 1 12 = true := by
 have h1 := zCf s
 have h2 := v.ne
 have h3 := v.len
 unfold v7
 rw [Bool.and_eq_true, Bool.and_eq_true, decide_eq_true_eq, decide_eq_true_eq]
 exact ⟨by omega, by omega, zKp v.form⟩
end Go.Abs

namespace Go.Abs
open Go Go.Proofs Tryz
@[go_sem] theorem zSM (a b : Plate) : (a.number == b.number && a.letter == b.letter) = decide (a = b) := by
 rw [Bool.eq_iff_iff]; simp [Plate.eq_iff]
@[go_sem] theorem zRT (a b : House) : (a.street == b.street && a.plate.number == b.plate.number && a.plate.letter == b.plate.letter) = decide (a = b) := by
 rw [Bool.eq_iff_iff]; simp [House.eq_iff, and_assoc]
end Go.Abs

namespace Go.Abs
open Go Go.Proofs Tryz
attribute [local irreducible] q9 Hold y2
variable [Cur]
theorem zNV (n a b : Int) : zSx prog 193 [iV n, iV a, iV b] [] (bV (zTf n a b)) [] := by
 refine z9 func193 rfl (fun E hE => ?_); simp only [go_sem, ntmps193]
 repeat' (first | (refine Qr rfl ?_; try intro _ hK; try simp only [go_sem, *]) | (refine Qi rfl rfl rfl rfl ?_ ?_ <;> (intro hb; (try intro _ hK); have hc := hb; try simp only [go_sem] at hc; simp only [go_sem, *])) | refine Qh rfl ?_ | (refine Qc rfl rfl ?_ ?_ <;> (intro hb; have hc := hb; try simp only [go_sem] at hc)) | refine z8 rfl ?_ | ((with_reducible apply And.intro); focus omega) | (refine z7 hK ?_; clear hK; simp only [go_sem, *]) | simp only [z6, z5, go_sem, *])
 all_goals (refine ⟨[_], [], [], ⟨rfl, trivial⟩, ?_⟩; simp only [go_sem, *])
 all_goals (refine zB3 ?_; simp [zTf] at *; omega)
theorem zOf (x : Plate) : zSx prog 195 [x.enc] [] (bV x.ok) [] := by
 refine z9 func195 rfl (fun E hE => ?_); simp only [go_sem, ntmps195]
 repeat' (first | (refine Qr rfl ?_; try intro _ hK; try simp only [go_sem, *]) | (refine Qi rfl rfl rfl rfl ?_ ?_ <;> (intro hb; (try intro _ hK); have hc := hb; try simp only [go_sem] at hc; simp only [go_sem, *])) | refine Qh rfl ?_ | (refine Qc rfl rfl ?_ ?_ <;> (intro hb; have hc := hb; try simp only [go_sem] at hc)) | refine z8 rfl ?_ | (refine y5 (zNV _ _ _) ?_; simp only [go_sem, *]) | ((with_reducible apply And.intro); focus omega) | (refine z7 hK ?_; clear hK; simp only [go_sem, *]) | simp only [z6, z5, go_sem, *])
 all_goals (refine ⟨[_], [], [], ⟨rfl, trivial⟩, ?_⟩; simp only [go_sem, *])
 all_goals simp_all [Plate.ok]
theorem zNO (n : Int) : zSx prog 100 [iV n] [] (bV false) [] := by
 refine z9 func100 rfl (fun E hE => ?_); simp only [go_sem, ntmps100]
 repeat' (first | (refine Qr rfl ?_; try intro _ hK; try simp only [go_sem, *]) | refine Qh rfl ?_ | (refine Qc rfl rfl ?_ ?_ <;> (intro hb; have hc := hb; try simp only [go_sem] at hc)) | refine z8 rfl ?_ | ((with_reducible apply And.intro); focus omega) | (refine z7 hK ?_; clear hK; simp only [go_sem, *]) | simp only [z6, z5, go_sem, *])
 all_goals (refine ⟨[_], [], [], ⟨rfl, trivial⟩, ?_⟩; simp only [go_sem, *])
 all_goals simp_all
theorem zGH (a b : Int) : zSx prog 76 [iV a, iV b] [] (iV (zTG a b)) [] := by
 refine z9 func76 rfl (fun E hE => ?_); simp only [go_sem, ntmps76]
 repeat' (first | (refine Qr rfl ?_; try intro _ hK; try simp only [go_sem, *]) | refine Qh rfl ?_ | (refine Qc rfl rfl ?_ ?_ <;> (intro hb; have hc := hb; try simp only [go_sem] at hc)) | refine z8 rfl ?_ | (refine y5 (zNO _) ?_; simp only [go_sem, *]) | ((with_reducible apply And.intro); focus omega) | (refine z7 hK ?_; clear hK; simp only [go_sem, *]) | simp only [z6, z5, go_sem, *])
 all_goals (refine ⟨[_], [], [], ⟨rfl, trivial⟩, ?_⟩; simp only [go_sem, *])
 all_goals (refine S1 ?_; unfold zTG; repeat' split)
 all_goals omega
def zTt : List Int → Int
 | [] => 0
 | x :: r => if x = 0 then zTt r else x
theorem zGI (l : List Int) (hl : l.length ≤ 4294967296) : zSx prog 74 [.list (l.map iV)] [] (iV (zTt l)) [] := by
 refine z9 func74 rfl (fun E hE => ?_); simp only [go_sem, ntmps74]
 repeat' (first | (refine Qr rfl ?_; try intro _ hK; try simp only [go_sem, *]) | refine Qh rfl ?_ | (refine Qc rfl rfl ?_ ?_ <;> (intro hb; have hc := hb; try simp only [go_sem] at hc)) | refine z8 rfl ?_ | ((with_reducible apply And.intro); focus omega) | (refine z7 hK ?_; clear hK; simp only [go_sem, *]) | simp only [z6, z5, go_sem, *])
 refine zBa rfl (fun n N env As => ∃ i : Nat, n = l.length - i ∧ i ≤ l.length ∧ zTt (l.drop i) = zTt l ∧ N = 18 ∧ env = [(8, iV i), (7, iV l.length), (6, .list (l.map iV)), (3, iV 0)] ∧ As = []) l.length ⟨[], [], _, _, _, ?_, 0, by simp, by simp, by simp, rfl, rfl, rfl⟩ ?_
 ·(simp only [Weak, go_sem, List.map_append, List.map_set, *] <;> (try simp (disch := omega) only [o3]) <;> (try simp) <;> (try omega))
 rintro _ _ _ _ ⟨i, rfl, hi, ho, rfl, rfl, rfl⟩
 repeat' (first | (refine Qr rfl ?_; try intro _ hK; try simp only [go_sem, *]) | refine Qh rfl ?_ | (refine Qc rfl rfl ?_ ?_ <;> (intro hb; have hc := hb; try simp only [go_sem] at hc)) | refine z8 rfl ?_ | ((with_reducible apply And.intro); focus omega) | (refine z7 hK ?_; clear hK; simp only [go_sem, *]) | simp only [z6, z5, go_sem, *])
 ·(refine ⟨[_], [], [], ⟨rfl, trivial⟩, ?_⟩; simp only [go_sem, *])
  rw [← ho, u4 ‹_›, zTt, if_neg ‹_›]
 ·refine ⟨_, ?_, [], [], _, _, _, ?_, i + 1, rfl, ?_, ?_, rfl, rfl, rfl⟩
  ·omega
  ·(simp only [Weak, go_sem, List.map_append, List.map_set, *] <;> (try simp (disch := omega) only [o3]) <;> (try simp) <;> (try omega))
  ·omega
  ·rw [← ho, u4 (i := i) ‹_›, zTt, if_pos ‹_›]
 ·(refine ⟨[_], [], [], ⟨rfl, trivial⟩, ?_⟩; simp only [go_sem, *])
  rw [← ho, l5 (by omega), zTt]
theorem zFk (a b : Int) : zTt [a, b] = orI a b := by
 simp only [zTt, orI]; repeat' split
 all_goals omega
theorem zGN (a b : Plate) : zSx prog 207 [a.enc, b.enc] [] (iV (zT1 a b)) [] := by
 refine z9 func207 rfl (fun E hE => ?_); simp only [go_sem, ntmps207]
 repeat' (first | (refine Qr rfl ?_; try intro _ hK; try simp only [go_sem, *]) | refine Qh rfl ?_ | refine Qd rfl (by kernel_rfl) ?_ | (refine Qc rfl rfl ?_ ?_ <;> (intro hb; have hc := hb; try simp only [go_sem] at hc)) | refine z8 rfl ?_ | (refine Qb ?_ ?_; focus kernel_rfl) | (refine y5 (zGH _ _) ?_; simp only [go_sem, *]) | ((with_reducible apply And.intro); focus omega) | (refine z7 hK ?_; clear hK; simp only [go_sem, *]) | simp only [z6, z5, go_sem, *])
 (refine V0 [2] (zGI [zTG a.number b.number, zTG a.letter b.letter] (by simp)) (by simp only [go_sem, *]) (.raw _) ?_; simp only [go_sem, *])
 repeat' (first | (refine Qr rfl ?_; try intro _ hK; try simp only [go_sem, *]) | refine Qh rfl ?_ | refine Qd rfl (by kernel_rfl) ?_ | (refine Qc rfl rfl ?_ ?_ <;> (intro hb; have hc := hb; try simp only [go_sem] at hc)) | refine z8 rfl ?_ | (refine Qb ?_ ?_; focus kernel_rfl) | ((with_reducible apply And.intro); focus omega) | (refine z7 hK ?_; clear hK; simp only [go_sem, *]) | simp only [z6, z5, go_sem, *])
 (refine ⟨[_], [], [], ⟨rfl, trivial⟩, ?_⟩; simp only [go_sem, *])
 rw [zFk, zT1]
theorem zNl (a b : House) : zSx prog 175 [a.enc, b.enc] [] (iV (zTX a b)) [] := by
 refine z9 func175 rfl (fun E hE => ?_); simp only [go_sem, ntmps175]
 repeat' (first | (refine Qr rfl ?_; try intro _ hK; try simp only [go_sem, *]) | refine Qh rfl ?_ | refine Qd rfl (by kernel_rfl) ?_ | (refine Qc rfl rfl ?_ ?_ <;> (intro hb; have hc := hb; try simp only [go_sem] at hc)) | refine z8 rfl ?_ | (refine Qb ?_ ?_; focus kernel_rfl) | ((first | refine y5 (zGH _ _) ?_ | refine y5 (zGN a.plate b.plate) ?_); simp only [go_sem, *]) | ((with_reducible apply And.intro); focus omega) | (refine z7 hK ?_; clear hK; simp only [go_sem, *]) | simp only [z6, z5, go_sem, *])
 (refine V0 [2] (zGI [zTG a.street b.street, zT1 a.plate b.plate] (by simp)) (by simp only [go_sem, *]) (.raw _) ?_; simp only [go_sem, *])
 repeat' (first | (refine Qr rfl ?_; try intro _ hK; try simp only [go_sem, *]) | refine Qh rfl ?_ | refine Qd rfl (by kernel_rfl) ?_ | (refine Qc rfl rfl ?_ ?_ <;> (intro hb; have hc := hb; try simp only [go_sem] at hc)) | refine z8 rfl ?_ | (refine Qb ?_ ?_; focus kernel_rfl) | ((with_reducible apply And.intro); focus omega) | (refine z7 hK ?_; clear hK; simp only [go_sem, *]) | simp only [z6, z5, go_sem, *])
 (refine ⟨[_], [], [], ⟨rfl, trivial⟩, ?_⟩; simp only [go_sem, *])
 rw [zFk, zTX]
theorem zIA {l : List Plate} {k : Nat} (h : k < l.length) (o : Option Plate) (ho : o = if k = 0 then none else some (l.getD (k - 1) default)) :
  i9 o (l.drop k) = if (l.getD k default).ok = true then (if k = 0 ∨ (l.getD (k - 1) default).lt (l.getD k default) = true then i9 (some (l.getD k default)) (l.drop (k + 1)) else 5) else 1 := by
 rw [u4 h]
 subst ho
 by_cases hk : k = 0
 ·simp [hk, i9]
 ·simp [hk, i9]
def C7 (l : List Plate) (k : Nat) : Option Plate := if k = 0 then none else some (l.getD (k - 1) default)
theorem zFq (l : List Plate) (k : Nat) : C7 l (k + 1) = some (l.getD k default) := by simp [C7]
theorem zFw {p : zS2} {i : Nat} (h : i < p.length) : X8 (p.drop i) = if 8 < (p.getD i default).length then 6 else if i9 none (p.getD i default) = 0 then X8 (p.drop (i + 1)) else i9 none (p.getD i default) := by
 rw [u4 h, X8]
theorem zNN (p : zS2) (h1 : p.length ≤ 4294967296) : zSx prog 192 [H0 p] [] (iV (check p)) [] := by
  have e0 : p.length = 0 → check p = 7 := fun h => by unfold check; rw [if_pos h]
  have e1 : ¬ p.length = 0 → 3 < p.length → check p = 6 := fun h h' => by unfold check; rw [if_neg h, if_pos h']
  have e2 : ¬ p.length = 0 → ¬ 3 < p.length → check p = X8 p := fun h h' => by unfold check; rw [if_neg h, if_neg h']
  refine z9 func192 rfl (fun E hE => ?_); simp only [go_sem, ntmps192]
  repeat' (first | (refine Qr rfl ?_; try intro _ hK; try simp only [go_sem, *]) | (refine Qi rfl rfl rfl rfl ?_ ?_ <;> (intro hb; (try intro _ hK); have hc := hb; try simp only [go_sem] at hc; simp only [go_sem, *])) | refine Qh rfl ?_ | refine Qd rfl (by kernel_rfl) ?_ | (refine Qc rfl rfl ?_ ?_ <;> (intro hb; have hc := hb; try simp only [go_sem] at hc)) | refine z8 rfl ?_ | (refine Qb ?_ ?_; focus kernel_rfl) | ((with_reducible apply And.intro); focus omega) | (refine z7 hK ?_; clear hK; simp only [go_sem, *]) | simp only [z6, z5, go_sem, *])
  · (refine ⟨[_], [], [], ⟨rfl, trivial⟩, ?_⟩; simp only [go_sem, *])
    rw [e0 (by omega)]
  · (refine ⟨[_], [], [], ⟨rfl, trivial⟩, ?_⟩; simp only [go_sem, *])
    rw [e1 (by omega) (by omega)]
  · have e3 := e2 (by omega) (by omega)
    clear e0 e1 e2
    refine y9 rfl (p.length) (fun i => X8 (p.drop i) = X8 p) 49 (fun i => [(18, iV i), (17, iV p.length), (16, .list (p.map x7))]) (fun i => []) [] [] (by simp) ?_; intro i hi hP
    repeat' (first | (refine Qr rfl ?_; try intro _ hK; try simp only [go_sem, *]) | (refine Qi rfl rfl rfl rfl ?_ ?_ <;> (intro hb; (try intro _ hK); have hc := hb; try simp only [go_sem] at hc; simp only [go_sem, *])) | refine Qh rfl ?_ | refine Qd rfl (by kernel_rfl) ?_ | (refine Qc rfl rfl ?_ ?_ <;> (intro hb; have hc := hb; try simp only [go_sem] at hc)) | refine z8 rfl ?_ | (refine Qb ?_ ?_; focus kernel_rfl) | ((with_reducible apply And.intro); focus omega) | (refine z7 hK ?_; clear hK; simp only [go_sem, *]) | simp only [z6, z5, go_sem, *])
    · (refine ⟨[_], [], [], ⟨rfl, trivial⟩, ?_⟩; simp only [go_sem, *])
      rw [← hP, zFw (by omega), if_pos (by omega)]
    · have hl : (p.getD i default).length ≤ 8 := by omega
      have hi' : i < p.length := by omega
      rw [zFw hi', if_neg (by omega)] at hP
      generalize hll : p.getD i default = l at *
      refine y9 rfl (l.length) (fun k => i9 (C7 l k) (l.drop k) = i9 none l) 49 (fun k => [(27, iV k), (26, iV l.length), (25, x7 l), (4, x7 l), (18, iV i), (17, iV p.length), (16, .list (p.map x7))]) (fun k => []) [] [] (by simp [C7]) ?_; intro k hk hK
      have hw : 0 < k → IntKind.i64.wrap ((k : Int) - 1) = ((k - 1 : Nat) : Int) := fun h => by rw [wrap_i64 (by omega) (by omega)]; omega
      have hk1 : k < l.length → k - 1 < l.length := fun h => by omega
      have hstep : ∀ h : k < l.length, _ := fun h => zIA h (C7 l k) rfl
      repeat' (first | (refine Qr rfl ?_; try intro _ hK; try simp only [go_sem, *]) | (refine Qi rfl rfl rfl rfl ?_ ?_ <;> (intro hb; (try intro _ hK); have hc := hb; try simp only [go_sem] at hc; simp only [go_sem, *])) | refine Qh rfl ?_ | refine Qd rfl (by kernel_rfl) ?_ | (refine Qc rfl rfl ?_ ?_ <;> (intro hb; have hc := hb; try simp only [go_sem] at hc)) | refine z8 rfl ?_ | (refine Qb ?_ ?_; focus kernel_rfl) | ((first | refine y5 (zOf _) ?_ | refine y5 (zGN _ _) ?_); simp only [go_sem, *]) | ((with_reducible apply And.intro); focus omega) | (refine z7 hK ?_; clear hK; simp only [go_sem, *]) | simp only [z6, z5, go_sem, *])
      · (refine ⟨[_], [], [], ⟨rfl, trivial⟩, ?_⟩; simp only [go_sem, *])
        rw [hstep (by omega), if_neg (by simp_all)] at hK
        rw [← hK, if_neg (by omega)] at hP
        rw [← hP]
      · (refine ⟨[_], [], [], ⟨rfl, trivial⟩, ?_⟩; simp only [go_sem, *])
        have hlt : ¬ (l.getD (k - 1) default).lt (l.getD k default) = true := by rw [← zD2]; omega
        rw [hstep (by omega), if_pos (by assumption), if_neg (by intro h; rcases h with h | h; · omega
                                                                 · exact hlt h)] at hK
        rw [← hK, if_neg (by omega)] at hP
        rw [← hP]
      · have hlt : (l.getD (k - 1) default).lt (l.getD k default) = true := by rw [← zD2]; omega
        exact y3 (i' := k + 1) [] [] (by rw [← hK, hstep (by omega), if_pos (by assumption), if_pos (.inr hlt), zFq])
      · exact y3 (i' := k + 1) [] [] (by rw [← hK, hstep (by omega), if_pos (by assumption), if_pos (.inl (by omega)), zFq])
      · rw [l5 (by omega)] at hK
        have h0 : i9 none l = 0 := by rw [← hK]; cases C7 l k <;> rfl
        rw [if_pos h0] at hP
        exact y3 (i' := i + 1) [] [] (by exact hP)
    · (refine ⟨[_], [], [], ⟨rfl, trivial⟩, ?_⟩; simp only [go_sem, *])
      rw [← hP, l5 (by omega), X8]
end Go.Abs

namespace Go.Abs
open Go Go.Proofs Tryz
attribute [local irreducible] q9 Hold y2
variable [Cur]
theorem zKX {p : zS2} {i : Nat} (h : i < p.length) : T9 i (p.drop i) = (p.getD i default).map (fun x => (⟨(i : Nat), x⟩ : House)) ++ T9 (i + 1) (p.drop (i + 1)) := by
 rw [u4 h, T9]
theorem zLO {l : List Plate} {k : Nat} (h : k < l.length) (i : Int) : (l.drop k).map (fun x => (⟨i, x⟩ : House)) = ⟨i, l.getD k default⟩ :: (l.drop (k + 1)).map (fun x => (⟨i, x⟩ : House)) := by
 rw [u4 h, List.map_cons]
theorem zNu (p : zS2) (h1 : p.length ≤ 4294967296) (h2 : ∀ l, l ∈ p → l.length ≤ 4294967296) (h3 : (x6 p).length ≤ 4294967296) : zSx prog 194 [H0 p] [] (.own 0 3 0 (x6 p).length) [.row 3 ((x6 p).map House.enc)] := by
 refine z9 func194 rfl (fun E hE => ?_); simp only [go_sem, ntmps194]
 repeat' (first | (refine Qr rfl ?_; try intro _ hK; try simp only [go_sem, *]) | refine Qh rfl ?_ | (refine Qc rfl rfl ?_ ?_ <;> (intro hb; have hc := hb; try simp only [go_sem] at hc)) | refine z8 rfl ?_ | ((with_reducible apply And.intro); focus omega) | (refine z7 hK ?_; clear hK; simp only [go_sem, *]) | simp only [z6, z5, go_sem, *])
 refine Q7 rfl (p.length) (fun i (acc : List House) => acc ++ T9 i (p.drop i) = x6 p) 31 (fun i acc => [(11, iV i), (10, iV p.length), (9, .list (p.map x7)), (3, .own 0 3 0 acc.length)]) (fun i acc => [.row 3 (acc.map House.enc)]) [none] [] ([]) (by simp [x6]) ?_; intro i acc hi hP
 repeat' (first | (refine Qr rfl ?_; try intro _ hK; try simp only [go_sem, *]) | refine Qh rfl ?_ | (refine Qc rfl rfl ?_ ?_ <;> (intro hb; have hc := hb; try simp only [go_sem] at hc)) | refine z8 rfl ?_ | ((with_reducible apply And.intro); focus omega) | (refine z7 hK ?_; clear hK; simp only [go_sem, *]) | simp only [z6, z5, go_sem, *])
 ·have hl := h2 _ (j9 ‹_›)
  rw [zKX ‹_›] at hP
  generalize hll : p.getD i default = l at *
  refine Q7 rfl (l.length) (fun k (acc : List House) => acc ++ ((l.drop k).map (fun x => (⟨(i : Nat), x⟩ : House)) ++ T9 (i + 1) (p.drop (i + 1))) = x6 p) 31 (fun k acc => [(18, iV k), (17, iV l.length), (16, x7 l), (4, iV i), (11, iV i), (10, iV p.length), (9, .list (p.map x7)), (3, .own 0 3 0 acc.length)]) (fun k acc => [.row 3 (acc.map House.enc)]) [some 0] [] (acc) (by simpa using hP) ?_; intro k acc hk hK
  have hlen := congrArg List.length hK
  simp only [List.length_append, List.length_map, List.length_drop] at hlen
  repeat' (first | (refine Qr rfl ?_; try intro _ hK; try simp only [go_sem, *]) | refine Qh rfl ?_ | (refine Qc rfl rfl ?_ ?_ <;> (intro hb; have hc := hb; try simp only [go_sem] at hc)) | refine z8 rfl ?_ | ((with_reducible apply And.intro); focus omega) | (refine z7 hK ?_; clear hK; simp only [go_sem, *]) | simp only [z6, z5, go_sem, *])
  ·exact t7 (i' := k + 1) [some 3] [] (acc ++ [⟨(i : Nat), l.getD k default⟩]) (by rw [← hK, zLO (k := k) (by assumption)]; simp)
  ·rw [l5 (by omega)] at hK
   exact t7 (i' := i + 1) [some 0] [] (acc) (by simpa using hK)
 ·refine ⟨[_], [some 0], [], ⟨rfl, trivial⟩, ?_⟩
  rw [l5 (by omega), T9, List.append_nil] at hP
  simp only [go_sem, hP, *]
end Go.Abs

namespace Go.Abs
open Go Go.Proofs Tryz
variable [Cur]
theorem zOw {l : List Plate} {i : Nat} {x : Plate} (h : i < l.length) (hn : x ∉ l.take i) (hx : ¬ l.getD i default = x) : x ∉ l.take (i + 1) := by
 rw [List.take_add_one]
 simp only [List.getD_eq_getElem?_getD, List.getElem?_eq_getElem h, Option.getD_some] at hx
 simp only [List.getElem?_eq_getElem h, Option.toList_some, List.mem_append, List.mem_singleton, not_or]
 exact ⟨hn, fun e => hx e.symm⟩
theorem zKd {l : List Plate} {i : Nat} {x : Plate} (h : i < l.length) (hn : x ∉ l.take i) (hx : l.getD i default = x) : zTy l x = i := by
 have hg : l.drop i = x :: l.drop (i + 1) := by rw [u4 h, hx]
 have hl : l = l.take i ++ x :: l.drop (i + 1) := by rw [← hg, List.take_append_drop]
 have hm : x ∈ l := by rw [hl]; simp
 rw [zE3 hm]
 conv => lhs; rw [hl]
 rw [List.idxOf_append, if_neg hn]
 simp; omega
theorem zE5 {l : List Plate} {x : Plate} (hn : x ∉ l) : zTy l x = -1 := by simp [zTy, hn]
end Go.Abs

namespace Go.Abs
open Go Go.Proofs Tryz
attribute [local irreducible] q9 Hold y2
variable [Cur]
theorem zNF (l : List Plate) (x : Plate) (h1 : l.length ≤ 4294967296) : zSx prog 217 [x7 l, x.enc] [] (iV (zTy l x)) [] := by
 refine z9 func217 rfl (fun E hE => ?_); simp only [go_sem, ntmps217]
 repeat' (first | (refine Qr rfl ?_; try intro _ hK; try simp only [go_sem, *]) | refine Qh rfl ?_ | refine Qd rfl (by kernel_rfl) ?_ | (refine Qc rfl rfl ?_ ?_ <;> (intro hb; have hc := hb; try simp only [go_sem] at hc)) | refine z8 rfl ?_ | (refine Qb ?_ ?_; focus kernel_rfl) | ((with_reducible apply And.intro); focus omega) | (refine z7 hK ?_; clear hK; simp only [go_sem, *]) | simp only [z6, z5, go_sem, *])
 refine y9 rfl (l.length) (fun i => x ∉ l.take i) 19 (fun i => [(8, iV i), (7, iV l.length), (3, .ptr 0 0), (0, x7 l)]) (fun i => [.box [iV x.number, iV x.letter]]) [some 0] [] (by simp) ?_; intro i hi hP
 repeat' (first | (refine Qr rfl ?_; try intro _ hK; try simp only [go_sem, *]) | refine Qh rfl ?_ | refine Qd rfl (by kernel_rfl) ?_ | (refine Qc rfl rfl ?_ ?_ <;> (intro hb; have hc := hb; try simp only [go_sem] at hc)) | refine z8 rfl ?_ | (refine Qb ?_ ?_; focus kernel_rfl) | ((with_reducible apply And.intro); focus omega) | (refine z7 hK ?_; clear hK; simp only [go_sem, *]) | simp only [z6, z5, go_sem, *])
 ·(refine ⟨[_], [], [], ⟨rfl, trivial⟩, ?_⟩; simp only [go_sem, *])
  have e : x = l.getD i default := by assumption
  rw [← e]
  exact S1 (zKd (by assumption) hP e.symm)
 ·exact y3 (i' := i + 1) [some 0] [] (by exact zOw (by assumption) hP (fun e => absurd e.symm (by assumption)))
 ·(refine ⟨[_], [], [], ⟨rfl, trivial⟩, ?_⟩; simp only [go_sem, *])
  rw [List.take_of_length_le (by omega)] at hP
  rw [zE5 hP]
theorem zM4 (l : List Plate) (x : Plate) (h1 : l.length ≤ 4294967296) : zSx prog 190 [x7 l, x.enc] [] (bV (decide (x ∈ l))) [] := by
 refine z9 func190 rfl (fun E hE => ?_); simp only [go_sem, ntmps190]
 repeat' (first | (refine Qr rfl ?_; try intro _ hK; try simp only [go_sem, *]) | refine Qh rfl ?_ | (refine Qc rfl rfl ?_ ?_ <;> (intro hb; have hc := hb; try simp only [go_sem] at hc)) | refine z8 rfl ?_ | (refine y5 (zNF l x h1) ?_; simp only [go_sem, *]) | ((with_reducible apply And.intro); focus omega) | (refine z7 hK ?_; clear hK; simp only [go_sem, *]) | simp only [z6, z5, go_sem, *])
 (refine ⟨[_], [], [], ⟨rfl, trivial⟩, ?_⟩; simp only [go_sem, *])
 refine zB3 ?_
 by_cases hm : x ∈ l
 ·simp [zE3 hm, hm]
 ·simp [zE5 hm, hm]
abbrev zT4 (f : Nat) : AV := .raw (.func (.func f) #[] #[])
end Go.Abs

namespace Go.Abs
open Go
section
variable {α : Type} (cf : α → α → Int)
def zTa (x : α) : List α → List α
 | [] => [x]
 | y :: r => if cf x y < 0 then y :: zTa x r else x :: y :: r
def zTH (pre : List α) (x : α) : List α := (zTa cf x pre.reverse).reverse
def u5 (xs : List α) : List α := xs.foldl (zTH cf) []
theorem zCc (x : α) : ∀ l : List α, (zTa cf x l).Perm (x :: l)
 | [] => .refl _
 | y :: r => by
  unfold zTa
  split
  ·exact ((zCc x r).cons y).trans (.swap x y r)
  ·exact .refl _
theorem zKh (pre : List α) (x : α) : (zTH cf pre x).Perm (pre ++ [x]) := by
 unfold zTH
 refine (List.reverse_perm _).trans ((zCc cf x _).trans ?_)
 exact ((List.reverse_perm pre).cons x).trans (List.perm_append_comm (l₁ := [x]) (l₂ := pre))
theorem zE9 : ∀ (xs pre : List α), (xs.foldl (zTH cf) pre).Perm (pre ++ xs)
 | [], pre => by simp
 | x :: r, pre => by
  rw [List.foldl_cons]
  refine (zE9 r _).trans ?_
  refine ((zKh cf pre x).append_right r).trans ?_
  simp
theorem L5 (xs : List α) : (u5 cf xs).Perm xs := by have := zE9 cf xs []; simpa [u5] using this
theorem H7 (xs : List α) : (u5 cf xs).length = xs.length := (L5 cf xs).length_eq
theorem zFA (xs : List α) (x : α) : u5 cf (xs ++ [x]) = zTH cf (u5 cf xs) x := by simp [u5, List.foldl_append]
def zTZ (S : List α) (x : α) (R : List α) (d : Nat) : List α := S.take (S.length - d) ++ x :: (S.drop (S.length - d) ++ R)
theorem zD3 (S : List α) (x : α) (R : List α) (d : Nat) : (zTZ S x R d).length = S.length + 1 + R.length := by simp [zTZ]; omega
variable [Inhabited α]
theorem zD4 (S : List α) (x : α) (R : List α) {d : Nat} (h : d ≤ S.length) : (zTZ S x R d).getD (S.length - d) default = x := by
 unfold zTZ
 simp only [List.getD_eq_getElem?_getD]
 rw [List.getElem?_append_right (by simp)]
 simp [show min (S.length - d) S.length = S.length - d by omega]
theorem zD5 (S : List α) (x : α) (R : List α) {d : Nat} (h : d < S.length) : (zTZ S x R d).getD (S.length - d - 1) default = S.getD (S.length - d - 1) default := by
 unfold zTZ
 simp only [List.getD_eq_getElem?_getD]
 rw [List.getElem?_append_left (by simp; omega), List.getElem?_take, if_pos (by omega)]
theorem zIM (S : List α) (x : α) (R : List α) {d : Nat} (h : d < S.length) :
  ((zTZ S x R d).set (S.length - d) (S.getD (S.length - d - 1) default)).set (S.length - d - 1) x = zTZ S x R (d + 1) := by
 obtain ⟨j, hj⟩ : ∃ j, S.length - d = j + 1 := ⟨S.length - d - 1, by omega⟩
 have hj' : S.length - (d + 1) = j := by omega
 have hlt : j < S.length := by omega
 unfold zTZ
 rw [hj, hj']
 have e1 : S.take (j + 1) = S.take j ++ [S.getD j default] := by rw [List.take_add_one]; simp [List.getD, hlt]
 have e2 : S.drop j = S.getD j default :: S.drop (j + 1) := u4 hlt
 rw [e1, e2]
 simp only [Nat.add_sub_cancel]
 have hl : (S.take j).length = j := by simp; omega
 rw [List.append_assoc, List.set_append_right _ _ (by omega), hl]
 simp only [Nat.add_sub_cancel_left, List.singleton_append, List.set_cons_succ, List.set_cons_zero]
 rw [List.set_append_right _ _ (by omega), hl]
 simp
theorem zKj (pre : List α) (x y : α) (h : cf x y < 0) : zTH cf (pre ++ [y]) x = zTH cf pre x ++ [y] := by
 have _ := (default : α)
 unfold zTH; simp [zTa, h]
theorem zKi (pre : List α) (x y : α) (h : ¬ cf x y < 0) : zTH cf (pre ++ [y]) x = pre ++ [y] ++ [x] := by
 have _ := (default : α)
 unfold zTH; simp [zTa, h]
theorem zGo {l : List α} {i : Nat} (h : i < l.length) : l.take (i + 1) = l.take i ++ [l.getD i default] := by
 rw [List.take_add_one]; simp [List.getD, h]
def InsP (S : List α) (x : α) (R : List α) (cur : List α) (d : Nat) : Prop := cur = zTZ S x R d ∧ zTH cf S x = zTH cf (S.take (S.length - d)) x ++ S.drop (S.length - d)
theorem InsP.start (S : List α) (x : α) (R : List α) : InsP cf S x R (S ++ x :: R) 0 := by simp [InsP, zTZ]
theorem InsP.next {S : List α} {x : α} {R cur : List α} {d : Nat} (h : InsP cf S x R cur d) (hd : d < S.length) (hc : cf x (S.getD (S.length - d - 1) default) < 0) :
  InsP cf S x R ((cur.set (S.length - d) (S.getD (S.length - d - 1) default)).set (S.length - d - 1) x) (d + 1) := by
 obtain ⟨h1, h2⟩ := h
 refine ⟨by rw [h1, zIM S x R hd], ?_⟩
 obtain ⟨j, hj⟩ : ∃ j, S.length - d = j + 1 := ⟨S.length - d - 1, by omega⟩
 have hj' : S.length - (d + 1) = j := by omega
 have hlt : j < S.length := by omega
 have e1 : S.take (j + 1) = S.take j ++ [S.getD j default] := by rw [List.take_add_one]; simp [List.getD, hlt]
 have e2 : S.drop j = S.getD j default :: S.drop (j + 1) := u4 hlt
 rw [hj] at h2 hc
 simp only [Nat.add_sub_cancel] at hc
 rw [h2, hj', e1, zKj cf _ _ _ hc, e2, List.append_assoc]; rfl
theorem InsP.stop {S : List α} {x : α} {R cur : List α} {d : Nat} (h : InsP cf S x R cur d) (hd : d ≤ S.length) (hc : d < S.length → ¬ cf x (S.getD (S.length - d - 1) default) < 0) : cur = zTH cf S x ++ R := by
 obtain ⟨h1, h2⟩ := h
 rw [h1, h2]
 unfold zTZ
 by_cases e : d = S.length
 ·subst e; simp [zTH, zTa]
 ·obtain ⟨j, hj⟩ : ∃ j, S.length - d = j + 1 := ⟨S.length - d - 1, by omega⟩
  have hlt : j < S.length := by omega
  have e1 : S.take (j + 1) = S.take j ++ [S.getD j default] := by rw [List.take_add_one]; simp [List.getD, hlt]
  have hc' := hc (by omega)
  rw [hj] at hc' ⊢
  simp only [Nat.add_sub_cancel] at hc'
  rw [e1, zKi cf _ _ _ hc']; simp
end
end Go.Abs

namespace Go.Abs
open Go
theorem zIG (a b : Int) : zTG b a = -zTG a b := by
 unfold zTG
 repeat' split
 all_goals omega
theorem zII (a b : Str) : X9 b a = -X9 a b := by
 unfold X9 orI
 rw [O6 (zS0 a) (zS0 b), zIG (Q1 a) (Q1 b)]
 by_cases h : zS5 (zS0 a) (zS0 b) = 0
 ·rw [if_pos h, if_pos (by omega)]
 ·rw [if_neg h, if_neg (by omega)]
theorem zJd {x y z : Str} (h1 : ¬ X9 x y < 0) (h2 : ¬ X9 y z < 0) : ¬ X9 x z < 0 := by
 unfold X9 orI at *
 have a1 := O6 (zS0 x) (zS0 y)
 have a2 := O6 (zS0 y) (zS0 z)
 have gS := fun (p : ¬ zS5 (zS0 x) (zS0 y) < 0) (q : ¬ zS5 (zS0 y) (zS0 z) < 0) => zUf p q
 by_cases e1 : zS5 (zS0 x) (zS0 y) = 0
 ·rw [if_pos e1] at h1
  rw [cmpS_zero.1 e1]
  by_cases e2 : zS5 (zS0 y) (zS0 z) = 0
  ·rw [if_pos e2] at h2 ⊢
   unfold zTG at *
   repeat' split at h1
   all_goals repeat' split at h2
   all_goals repeat' split
   all_goals omega
  ·rw [if_neg e2] at h2 ⊢
   exact h2
 ·rw [if_neg e1] at h1
  by_cases e2 : zS5 (zS0 y) (zS0 z) = 0
  ·rw [if_pos e2] at h2
   rw [← cmpS_zero.1 e2, if_neg e1]; exact h1
  ·rw [if_neg e2] at h2
   have h3 := gS h1 h2
   by_cases e3 : zS5 (zS0 x) (zS0 z) = 0
   ·have e := cmpS_zero.1 e3
    rw [e] at a1 h1
    have := O6 (zS0 y) (zS0 z)
    omega
   ·rw [if_neg e3]; exact h3
end Go.Abs

namespace Go.Abs
open Go
def wordsL : List Str := [[97, 101, 115], [115, 104, 101, 116, 97], [115, 109, 105, 116, 121, 104, 97], [99, 104, 106, 97], [97, 110, 110, 101]]
def wordsU : List Str := [[65, 69, 83], [88, 69, 84, 65], [83, 77, 73, 84, 89, 65], [67, 74, 65, 88], [65, 78, 78, 69]]
def wordsF : List Str := [[101], [121], [115, 104], [97], [110, 110], [116, 104], [109]]
def wordsT : List Str := [[], [105], [115], [116], [97, 101], [106], [110]]
def Q0 (ws : List Str) (d : Dice) : Str := ws.getD (toN ((ws.length : Int) - 1) d).toNat []
def v5 (ws : List Str) (d : Dice) : Dice := toD ((ws.length : Int) - 1) d
theorem C6 {ws : List Str} (h : 0 < ws.length) (d : Dice) : Q0 ws d ∈ ws := by
 have := Y7 (n := (ws.length : Int) - 1) (by omega) d
 unfold Q0
 have hlt : (toN ((ws.length : Int) - 1) d).toNat < ws.length := by omega
 simp [List.getD, hlt]
def W1 (set : Str) : Nat → Dice → Str → Str × Dice
 | 0, d, s => (s, d)
 | n + 1, d, s => W1 set n (toD ((set.length : Int) - 1) d) (s ++ [set.getD (toN ((set.length : Int) - 1) d).toNat 0])
def zUP (t : Bool) (d d2 : Dice) (a : Str) : Str × Dice := if t = true then (Q0 wordsU d2, v5 wordsU d2) else (a, d2)
def zTk (d : Dice) : Str × Dice := zUP (N2 3 (v5 wordsL d)) d (t8 3 (v5 wordsL d)) (Q0 wordsL d)
def zBN (most : Int) (p : Str × Dice) : Str × Dice := W1 p.1 (Y1 1 (min most 6) p.2).toNat (O9 1 (min most 6) p.2) []
def Y3 (d : Dice) (most : Int) : Str × Dice := zBN most (zTk d)
theorem zFL (set : Str) : ∀ (n : Nat) (d : Dice) (s : Str), (W1 set n d s).1.length = s.length + n
 | 0, d, s => rfl
 | n + 1, d, s => by rw [W1, zFL set n]; simp; omega
theorem zCj (set : Str) (p : UInt8 → Bool) (h0 : 0 < set.length) (hp : set.all p = true) : ∀ (n : Nat) (d : Dice) (s : Str), s.all p = true → (W1 set n d s).1.all p = true
 | 0, d, s, h => h
 | n + 1, d, s, h => by
  rw [W1]
  refine zCj set p h0 hp n _ _ ?_
  have := Y7 (n := (set.length : Int) - 1) (by omega) d
  have hlt : (toN ((set.length : Int) - 1) d).toNat < set.length := by omega
  rw [List.all_append, h, Bool.true_and, List.all_cons, List.all_nil, Bool.and_true]
  refine List.all_eq_true.1 hp _ ?_
  simp [List.getD, hlt]
theorem p6 (n : Int) (d : Dice) : (toD n d).list = d.list := by unfold toD; split <;> rfl
theorem zFM (set : Str) : ∀ (n : Nat) (d : Dice) (s : Str), (W1 set n d s).2.list = d.list
 | 0, d, s => rfl
 | n + 1, d, s => by rw [W1, zFM set n, p6]
theorem zPw {x : Str} (h : x ∈ wordsU) : 0 < x.length ∧ x.all U9 = true := by
 have key : (wordsU.all fun x => decide (0 < x.length) && x.all U9) = true := by decide
 have := List.all_eq_true.1 key x h
 simpa using this
theorem zPv {x : Str} (h : x ∈ wordsL) : 0 < x.length ∧ x.all w6 = true := by
 have key : (wordsL.all fun x => decide (0 < x.length) && x.all w6) = true := by decide
 have := List.all_eq_true.1 key x h
 simpa using this
theorem zGD (d : Dice) : 0 < (zTk d).1.length ∧ ((zTk d).1.all w6 = true ∨ (zTk d).1.all U9 = true) ∧ (zTk d).2.list = d.list := by
 unfold zTk zUP
 split
 ·have := zPw (C6 (ws := wordsU) (by decide) (t8 3 (v5 wordsL d)))
  exact ⟨this.1, .inr this.2, by simp only [v5, t8, p6]⟩
 ·have := zPv (C6 (ws := wordsL) (by decide) d)
  exact ⟨this.1, .inl this.2, by simp only [v5, t8, p6]⟩
theorem zFa {d : Dice} {most : Int} (h : 1 ≤ most) : ValidN (Y3 d most).1 ∧ ((Y3 d most).1.length : Int) ≤ most ∧ (Y3 d most).2.list = d.list := by
 obtain ⟨h1, h2, h3⟩ := zGD d
 unfold Y3 zBN
 generalize zTk d = p at *
 have hr := zA8 (lo := 1) (hi := min most 6) (by omega) p.2
 have hl := zFL p.1 (Y1 1 (min most 6) p.2).toNat (O9 1 (min most 6) p.2) []
 simp only [List.length_nil, Nat.zero_add] at hl
 refine ⟨⟨by rw [hl]; omega, by rw [hl]; omega, ?_⟩, by rw [hl]; omega, ?_⟩
 ·unfold Y0
  rw [Bool.or_eq_true]
  rcases h2 with h2 | h2
  ·exact .inl (zCj p.1 w6 h1 h2 _ _ [] rfl)
  ·exact .inr (zCj p.1 U9 h1 h2 _ _ [] rfl)
 ·rw [zFM]
  unfold O9
  rw [p6, h3]
def P1 (s : Str) (at_ : Nat) : Str := s.take at_ ++ s.drop (at_ + 1)
def zG7 (s : Str) (t : Bool) (d : Dice) : Str × Dice := if t = true then (P1 s (toN ((s.length : Int) - 1) d).toNat, toD ((s.length : Int) - 1) d) else (s, d)
def J3 (s : Str) (d : Dice) : Str × Dice := if 97 ≤ (s.getD 0 0).toNat ∧ 1 < s.length then zG7 s (N2 2 d) (t8 2 d) else (s, d)
def C5 (out : List Str) (d : Dice) : Str := out.getD (toN ((out.length : Int) - 1) d).toNat []
def zBz (out : List Str) (p : Str × Dice) (t : Bool) (d : Dice) : Str × Dice := if t = true then J3 (C5 out d) (toD ((out.length : Int) - 1) d) else (p.1, d)
def U1 (out : List Str) (p : Str × Dice) : Str × Dice := if 0 < out.length then zBz out p (N2 3 p.2) (t8 3 p.2) else p
def U7 (most : Int) : Nat → Dice → List Str → List Str × Dice
 | 0, d, out => (out, d)
 | n + 1, d, out => U7 most n (U1 out (Y3 d most)).2 (out ++ [(U1 out (Y3 d most)).1])
def K2 (d : Dice) (many most : Int) : List Str × Dice := U7 most (toN many d).toNat (toD many d) []
theorem zIN {s : Str} (v : ValidN s) (hl : 1 < s.length) {i : Nat} (hi : i < s.length) : ValidN (P1 s i) ∧ (P1 s i).length = s.length - 1 := by
 have h1 : (P1 s i).length = s.length - 1 := by unfold P1; simp; omega
 refine ⟨⟨by omega, by have := v.len; omega, ?_⟩, h1⟩
 have hf := v.form
 unfold Y0 at hf ⊢
 rw [Bool.or_eq_true, List.all_eq_true, List.all_eq_true] at hf ⊢
 have hm : ∀ c, c ∈ P1 s i → c ∈ s := fun c hc => by
  rcases List.mem_append.1 hc with hc | hc
  ·exact List.mem_of_mem_take hc
  ·exact List.mem_of_mem_drop hc
 rcases hf with hf | hf
 ·exact .inl (fun c hc => hf c (hm c hc))
 ·exact .inr (fun c hc => hf c (hm c hc))
theorem zPs {s : Str} (v : ValidN s) (d : Dice) : ValidN (J3 s d).1 ∧ (J3 s d).1.length ≤ s.length ∧ (J3 s d).2.list = d.list := by
 unfold J3
 split
 ·rename_i h
  unfold zG7
  split
  ·have := Y7 (n := (s.length : Int) - 1) (by omega) (t8 2 d)
   obtain ⟨h1, h2⟩ := zIN v h.2 (i := (toN ((s.length : Int) - 1) (t8 2 d)).toNat) (by omega)
   exact ⟨h1, by show (P1 _ _).length ≤ _; omega, by simp only [p6, t8]⟩
  ·exact ⟨v, Nat.le_refl _, by simp only [p6, t8]⟩
 ·exact ⟨v, Nat.le_refl _, rfl⟩
def M5 (most : Int) (s : Str) : Prop := ValidN s ∧ (s.length : Int) ≤ most
theorem zDm {out : List Str} {most : Int} (ho : ∀ s, s ∈ out → M5 most s) {p : Str × Dice} (hp : M5 most p.1) : M5 most (U1 out p).1 ∧ (U1 out p).2.list = p.2.list := by
 unfold U1
 split
 ·rename_i h
  unfold zBz
  split
  ·have := Y7 (n := (out.length : Int) - 1) (by omega) (t8 3 p.2)
   have hm : C5 out (t8 3 p.2) ∈ out := by
    unfold C5
    have hlt : (toN ((out.length : Int) - 1) (t8 3 p.2)).toNat < out.length := by omega
    simp [List.getD, hlt]
   obtain ⟨h1, h2⟩ := ho _ hm
   obtain ⟨g1, g2, g3⟩ := zPs h1 (toD ((out.length : Int) - 1) (t8 3 p.2))
   exact ⟨⟨g1, by omega⟩, by rw [g3]; simp only [p6, t8]⟩
  ·exact ⟨hp, by simp only [p6, t8]⟩
 ·exact ⟨hp, rfl⟩
theorem zFb {most : Int} (h : 1 ≤ most) : ∀ (n : Nat) (d : Dice) (out : List Str), (∀ s, s ∈ out → M5 most s) → (∀ s, s ∈ (U7 most n d out).1 → M5 most s) ∧ (U7 most n d out).1.length = out.length + n ∧ (U7 most n d out).2.list = d.list
 | 0, d, out, ho => ⟨ho, rfl, rfl⟩
 | n + 1, d, out, ho => by
  obtain ⟨v, hl, hd⟩ := zFa (d := d) h
  obtain ⟨g1, g2⟩ := zDm ho (p := Y3 d most) ⟨v, hl⟩
  rw [U7]
  obtain ⟨k1, k2, k3⟩ := zFb h n (U1 out (Y3 d most)).2 (out ++ [(U1 out (Y3 d most)).1]) (fun s hs => by
   rcases List.mem_append.1 hs with hs | hs
   ·exact ho s hs
   ·rw [List.mem_singleton.1 hs]; exact g1)
  exact ⟨k1, by rw [k2]; simp; omega, by rw [k3, g2, hd]⟩
theorem zLW {d : Dice} {many most : Int} (hm : 0 ≤ many) (h : 1 ≤ most) : (∀ s, s ∈ (K2 d many most).1 → M5 most s) ∧ ((K2 d many most).1.length : Int) ≤ many ∧ (K2 d many most).2.list = d.list := by
 have hr := Y7 hm d
 obtain ⟨h1, h2, h3⟩ := zFb h (toN many d).toNat (toD many d) [] (fun s hs => by cases hs)
 unfold K2
 refine ⟨h1, ?_, by rw [h3, p6]⟩
 rw [h2]; simp; omega
def V6 : Nat → Dice → List Rule → List Rule × Dice
 | 0, d, out => (out, d)
 | n + 1, d, out => V6 n (v5 wordsT (v5 wordsF d)) (out ++ [⟨Q0 wordsF d, Q0 wordsT (v5 wordsF d)⟩])
def K9 (d : Dice) (many : Int) : List Rule × Dice := V6 (toN many d).toNat (toD many d) []
theorem zFy : ∀ (n : Nat) (d : Dice) (out : List Rule), out.all Rule.ok = true → (V6 n d out).1.all Rule.ok = true ∧ (V6 n d out).1.length = out.length + n ∧ (V6 n d out).2.list = d.list
 | 0, d, out, h => ⟨h, rfl, rfl⟩
 | n + 1, d, out, h => by
  rw [V6]
  have h1 := C6 (ws := wordsF) (by decide) d
  have h2 := C6 (ws := wordsT) (by decide) (v5 wordsF d)
  obtain ⟨k1, k2, k3⟩ := zFy n (v5 wordsT (v5 wordsF d)) (out ++ [⟨Q0 wordsF d, Q0 wordsT (v5 wordsF d)⟩]) (by
   rw [List.all_append, h, Bool.true_and, List.all_cons, List.all_nil, Bool.and_true]
   generalize Q0 wordsF d = x at *
   generalize Q0 wordsT (v5 wordsF d) = y at *
   have key : (wordsF.all fun x => wordsT.all fun y => Rule.ok ⟨x, y⟩) = true := by decide
   exact List.all_eq_true.1 (List.all_eq_true.1 key x h1) y h2)
  exact ⟨k1, by rw [k2]; simp; omega, by rw [k3]; simp only [v5, p6]⟩
theorem zMD {d : Dice} {many : Int} (hm : 0 ≤ many ∧ many ≤ 4) : r9 (K9 d many).1 = 0 ∧ ((K9 d many).1.length : Int) ≤ many ∧ (K9 d many).2.list = d.list := by
 have hr := Y7 hm.1 d
 obtain ⟨h1, h2, h3⟩ := zFy (toN many d).toNat (toD many d) [] rfl
 unfold K9
 have hl : (V6 (toN many d).toNat (toD many d) []).1.length = (toN many d).toNat := by rw [h2]; simp
 refine ⟨?_, by omega, by rw [h3, p6]⟩
 unfold r9
 rw [if_neg (by omega), if_pos h1]
end Go.Abs

namespace Go.Abs
open Go
end Go.Abs

namespace Go.Abs
open Go
section
variable (l : List Str)
def cfI (a b : Nat) : Int := X9 (l.getD a []) (l.getD b [])
def Prec (a b : Nat) : Prop := cfI l a b < 0 ∨ (¬ cfI l b a < 0 ∧ a < b)
theorem zAx (a b : Nat) : cfI l b a = -cfI l a b := zII _ _
theorem zB9 {a b c : Nat} (h1 : ¬ cfI l a b < 0) (h2 : ¬ cfI l b c < 0) : ¬ cfI l a c < 0 := zJd h1 h2
theorem Prec.trans {a b c : Nat} (h1 : Prec l a b) (h2 : Prec l b c) : Prec l a c := by
 have ab := zAx l a b
 have bc := zAx l b c
 have ac := zAx l a c
 unfold Prec at *
 have g1 : ¬ cfI l b a < 0 := by rcases h1 with h1 | h1 <;> omega
 have g2 : ¬ cfI l c b < 0 := by rcases h2 with h2 | h2 <;> omega
 have g3 : ¬ cfI l c a < 0 := zB9 l g2 g1
 by_cases e : cfI l a c < 0
 ·exact .inl e
 ·refine .inr ⟨g3, ?_⟩
  -- all three are alike
  have e1 : ¬ cfI l a b < 0 := fun h => by
   have : ¬ cfI l a b < 0 := zB9 l (b := c) e g2
   exact this h
  have e2 : ¬ cfI l b c < 0 := fun h => by
   have : ¬ cfI l b c < 0 := zB9 l (b := a) g1 e
   exact this h
  rcases h1 with h1 | h1
  ·exact absurd h1 e1
  ·rcases h2 with h2 | h2
   ·exact absurd h2 e2
   ·omega
theorem Prec.total {a b : Nat} (h : a ≠ b) : Prec l a b ∨ Prec l b a := by
 have := zAx l a b
 unfold Prec
 omega
end
end Go.Abs

namespace Go.Abs
open Go
section
variable {α : Type} (cf : α → α → Int)
structure Ordr : Prop where
 asym : ∀ x y, cf x y < 0 → ¬ cf y x < 0
 trans : ∀ x y z, ¬ cf y x < 0 → ¬ cf z y < 0 → ¬ cf z x < 0
theorem zE6 (o : Ordr cf) (x : α) : ∀ l : List α, l.Pairwise (fun a b => ¬ cf a b < 0) → (zTa cf x l).Pairwise (fun a b => ¬ cf a b < 0)
 | [], _ => by simp [zTa]
 | y :: r, h => by
  obtain ⟨h1, h2⟩ := List.pairwise_cons.1 h
  unfold zTa
  split
  ·rename_i hc
   refine List.pairwise_cons.2 ⟨fun z hz => ?_, zE6 o x r h2⟩
   rcases List.mem_cons.1 ((zCc cf x r).mem_iff.1 hz) with rfl | hz
   ·exact o.asym _ _ hc
   ·exact h1 z hz
  ·rename_i hc
   refine List.pairwise_cons.2 ⟨fun z hz => ?_, h⟩
   rcases List.mem_cons.1 hz with rfl | hz
   ·exact hc
   ·exact o.trans _ _ _ (h1 z hz) hc
theorem zKk (o : Ordr cf) {pre : List α} (x : α) (h : pre.Pairwise (fun a b => ¬ cf b a < 0)) : (zTH cf pre x).Pairwise (fun a b => ¬ cf b a < 0) := by
 unfold zTH
 rw [List.pairwise_reverse]
 exact zE6 cf o x _ (List.pairwise_reverse.2 h)
theorem zKn (o : Ordr cf) (xs : List α) : (u5 cf xs).Pairwise (fun a b => ¬ cf b a < 0) := by
 have key : ∀ (xs pre : List α), pre.Pairwise (fun a b => ¬ cf b a < 0) → (xs.foldl (zTH cf) pre).Pairwise (fun a b => ¬ cf b a < 0) := by
  intro xs
  induction xs with
  | nil => intro pre h; exact h
  | cons x r ih => intro pre h; exact ih _ (zKk cf o x h)
 exact key xs [] List.Pairwise.nil
end
theorem zLl : Ordr zTX := ⟨fun x y h => by rw [zCC, House.lt_iff] at *; omega, fun x y z h1 h2 => by rw [zCC, House.lt_iff] at *; omega⟩
attribute [go_sem] H7
end Go.Abs

namespace Go.Abs
open Go Go.Proofs Tryz
theorem zFE : Maps.Keyed prog 233 := Maps.Keyed.of_law (deep_law (m := 4) (by omega) (by kernel_rfl) (by kernel_rfl) (by kernel_rfl))
structure House.Wf (h : House) : Prop where
 s : (Lit.int .i64 h.street).wf = true
 n : (Lit.int .i64 h.plate.number).wf = true
 l : (Lit.int .i64 h.plate.letter).wf = true
@[reducible] def House.key (h : House) : Value := .agg #[.int .i64 h.street, .int .i64 h.plate.number, .int .i64 h.plate.letter]
theorem zCk (d : Nat) (n : Int) (h : (Lit.int .i64 n).wf = true) : prog.keyLits (d + 1) 3 [.int .i64 n] = some [.int .i64 n] := by
 have hu : prog.underlying 3 = some (.int .i64) := by kernel_rfl
 unfold Program.keyLits
 rw [hu]; simp [h]
theorem zK7 (d : Nat) (n m : Int) (h : (Lit.int .i64 n).wf = true) (h' : (Lit.int .i64 m).wf = true) : prog.keyLits (d + 2) 127 [.int .i64 n, .int .i64 m] = some [.int .i64 n, .int .i64 m] := by
 have hu : prog.underlying 127 = some (.struct (prog.fieldsOf 127)) := by kernel_rfl
 have hl : (prog.fieldsOf 127).toList = [(prog.fieldsOf 127).toList.getD 0 default, (prog.fieldsOf 127).toList.getD 1 default] := by kernel_rfl
 have t0 : ((prog.fieldsOf 127).toList.getD 0 default).type = 3 := by kernel_rfl
 have t1 : ((prog.fieldsOf 127).toList.getD 1 default).type = 3 := by kernel_rfl
 have o0 : ((prog.fieldsOf 127).toList.getD 0 default).offset = 0 := by kernel_rfl
 have o1 : ((prog.fieldsOf 127).toList.getD 1 default).offset = 1 := by kernel_rfl
 have c3 : prog.cellsOf 3 = 1 := by kernel_rfl
 have c26 : prog.cellsOf 127 = 2 := by kernel_rfl
 have hn : (prog.fieldsOf 127).all (·.name != "_") = true := by kernel_rfl
 unfold Program.keyLits
 rw [hu]
 simp only [hn, c26, List.length_cons, List.length_nil, and_self, if_true]
 rw [hl]
 generalize (prog.fieldsOf 127).toList.getD 0 default = f0 at *
 generalize (prog.fieldsOf 127).toList.getD 1 default = f1 at *
 simp [List.mapM_cons, t0, t1, o0, o1, c3, zCk d _ h, zCk d _ h']
theorem zK8 (d : Nat) (a n m : Int) (h0 : (Lit.int .i64 a).wf = true) (h : (Lit.int .i64 n).wf = true) (h' : (Lit.int .i64 m).wf = true) : prog.keyLits (d + 3) 233 [.int .i64 a, .int .i64 n, .int .i64 m] = some [.int .i64 a, .int .i64 n, .int .i64 m] := by
 have hu : prog.underlying 233 = some (.struct (prog.fieldsOf 233)) := by kernel_rfl
 have hl : (prog.fieldsOf 233).toList = [(prog.fieldsOf 233).toList.getD 0 default, (prog.fieldsOf 233).toList.getD 1 default] := by kernel_rfl
 have t0 : ((prog.fieldsOf 233).toList.getD 0 default).type = 3 := by kernel_rfl
 have t1 : ((prog.fieldsOf 233).toList.getD 1 default).type = 127 := by kernel_rfl
 have o0 : ((prog.fieldsOf 233).toList.getD 0 default).offset = 0 := by kernel_rfl
 have o1 : ((prog.fieldsOf 233).toList.getD 1 default).offset = 1 := by kernel_rfl
 have c3 : prog.cellsOf 3 = 1 := by kernel_rfl
 have c26 : prog.cellsOf 127 = 2 := by kernel_rfl
 have c57 : prog.cellsOf 233 = 3 := by kernel_rfl
 have hn : (prog.fieldsOf 233).all (·.name != "_") = true := by kernel_rfl
 unfold Program.keyLits
 rw [hu]
 simp only [hn, c57, List.length_cons, List.length_nil, and_self, if_true]
 rw [hl]
 generalize (prog.fieldsOf 233).toList.getD 0 default = f0 at *
 generalize (prog.fieldsOf 233).toList.getD 1 default = f1 at *
 simp [List.mapM_cons, t0, t1, o0, o1, c3, c26, zCk (d + 1) _ h0, zK7 d _ _ h h']
theorem zBI (h : House) (hw : h.Wf) : zTb prog 233 h.key := by
 have hu : prog.underlying 233 = some (.struct (prog.fieldsOf 233)) := by kernel_rfl
 have hk : prog.keyType 233 = true := by kernel_rfl
 have hs : ∃ d, prog.types.size + 1 = d + 3 := ⟨prog.types.size - 2, by kernel_rfl⟩
 have hf : h.key.formed prog 233 = true := by
  have : prog.cellsOf 233 = 3 := by kernel_rfl
  simp [House.key, Value.formed, hu, this]
 obtain ⟨d, hd⟩ := hs
 refine ⟨by simp [House.key, zEX, T8], ?_⟩
 unfold keyOf
 rw [hu]
 simp only [hk, hf, Bool.and_self, if_true, hd]
 rw [show h.key.cells.toList = [.int .i64 h.street, .int .i64 h.plate.number, .int .i64 h.plate.letter] from rfl, zK8 d _ _ _ hw.s hw.n hw.l]
 exact ⟨_, rfl⟩
end Go.Abs

namespace Go.Abs
open Go Go.Proofs Tryz
theorem House.key_inj {a b : House} : a.key = b.key ↔ a = b := by
 rw [House.eq_iff]
 simp [House.key]
theorem zBB (h : House) : ∀ hs : List House, zTJ h.key (hs.map House.key) = if h ∈ hs then some (hs.idxOf h) else none
 | [] => by simp [zTJ]
 | x :: r => by
  have ih := zBB h r
  rw [List.map_cons]
  unfold zTJ
  by_cases e : x = h
  ·subst e; simp
  ·have e' : ¬ x.key = h.key := fun k => e (House.key_inj.1 k)
   rw [if_neg e', ih]
   by_cases hm : h ∈ r
   ·rw [if_pos hm, if_pos (by simp [hm])]
    have hb : (x == h) = false := by simpa using e
    simp [List.idxOf_cons, hb]
   ·rw [if_neg hm, if_neg (by simp only [List.mem_cons, not_or]; exact ⟨fun k => e k.symm, hm⟩)]; rfl
theorem zLC {hs : List House} {h : House} (F : House → AV) (z : AV) : V4 (hs.map House.key) (hs.map F) h.key z = if h ∈ hs then F h else z := by
 unfold V4; rw [zBB]
 by_cases hm : h ∈ hs
 ·rw [if_pos hm, if_pos hm]
  have hlt := List.idxOf_lt_length_of_mem hm
  simp [hlt, List.getElem_idxOf]
 ·rw [if_neg hm, if_neg hm]
theorem zLv {hs : List House} {h : House} (hm : h ∉ hs) : zTz (hs.map House.key) h.key = (hs ++ [h]).map House.key := by
 unfold zTz; rw [zBB, if_neg hm]; simp
theorem zLw {hs : List House} {h : House} (xs : List AV) (v : AV) (hm : h ∉ hs) : zT0 (hs.map House.key) xs h.key v = xs ++ [v] := by
 unfold zT0; rw [zBB, if_neg hm]
theorem zFZ : ∃ et, zTh prog 285 = some (233, et) ∧ zeroT prog et = some (.slice none 0 0) := by
 have h : ((zTh prog 285).map (·.1)) = some 233 := by kernel_rfl
 have h2 : ((zTh prog 285).bind fun x => zeroT prog x.2) = some (.slice none 0 0) := by kernel_rfl
 cases hm : zTh prog 285 with
 | none => rw [hm] at h; cases h
 | some x => rw [hm] at h h2; obtain ⟨k, e⟩ := x; simp at h; subst h; exact ⟨e, rfl, by simpa using h2⟩
theorem zFB (h : House) : zTs h.enc = some h.key := by simp [House.enc, zTs, a6, House.key]
theorem zLX {h : House} {hs : List House} {xs : List AV} {x : AV} {o : Nat} {H : Nat → AObj} {K : Cont} (ho : H o = .mapo (hs.map House.key) xs) (hw : ∀ k, k ∈ hs → k.Wf) (hh : h.Wf) (hm : h ∉ hs)
  (hp : Pure (zSz H 3 x).1) (hc : (zSz H 3 x).2.contains o = false)
  (hk : K (.tup []) (o :: (zSz H 3 x).2) (w4 (zSz H 3 x).2 ++ [(o, .mapo ((hs ++ [h]).map House.key) (xs ++ [(zSz H 3 x).1]))])) : U4 prog 285 (.mp o) h.enc x H K := by
 obtain ⟨et, h1, _⟩ := zFZ
 unfold U4
 rw [h1, zFB]
 simp only [ho]
 refine ⟨zFE, zBI h hh, fun q hq => ?_, hp, hc, ?_⟩
 ·obtain ⟨k, hk, rfl⟩ := List.mem_map.1 hq; exact zBI k (hw k hk)
 ·rw [zLv hm, zLw xs _ hm]; exact hk
theorem zCq {h : House} {hs : List House} {F : House → AV} {H : Nat → AObj} {K : Cont} (hw : ∀ k, k ∈ hs → k.Wf) (hh : h.Wf)
  (hk : K (if h ∈ hs then F h else .list []) [] []) : P6 prog 285 (.fmap (hs.map House.key) (hs.map F)) h.enc false H K := by
 obtain ⟨et, h1, h2⟩ := zFZ
 unfold P6
 rw [h1, zFB]
 simp only [h2]
 refine ⟨zFE, zBI h hh, by simp [Value.cells, Value.oneCell'], fun q hq => ?_, ?_⟩
 ·obtain ⟨k, hk, rfl⟩ := List.mem_map.1 hq; exact zBI k (hw k hk)
 ·rw [zLC]; simpa [zAV] using hk
def zTe (g : House → List House) (h : House) : AV := .list ((g h).map House.enc)
@[reducible] def L6 (p : zS2) : List Value := (x6 p).map House.key
@[reducible] def U5 (p : zS2) (g : House → List House) : List AV := (x6 p).map (zTe g)
theorem zLS {p : zS2} {g g' : House → List House} (h : ∀ k, k ∈ x6 p → g k = g' k) : U5 p g = U5 p g' := List.map_congr_left (fun k hk => by simp [zTe, h k hk])
def Upd (p : zS2) (c : Change) (g : House → List House) (done : List Plate) : Prop := ∀ h, h ∈ x6 p → g h = if h.street = c.street ∧ h.plate ∈ done then mv p c h else [h]
theorem Upd.nil (p : zS2) (c : Change) : Upd p c (fun h => [h]) [] := fun h _ => by simp
theorem Upd.step {p : zS2} {c : Change} {g : House → List House} {done : List Plate} (h : Upd p c g done) (x : Plate) : Upd p c (fun k => if k = ⟨c.street, x⟩ then mv p c ⟨c.street, x⟩ else g k) (done ++ [x]) := fun k hk => by
 simp only
 by_cases e : k = ⟨c.street, x⟩
 ·subst e; simp
 ·rw [if_neg e, h k hk]
  have : (k.street = c.street ∧ k.plate ∈ done ++ [x]) ↔ (k.street = c.street ∧ k.plate ∈ done) := by
   constructor
   ·rintro ⟨h1, h2⟩
    rcases List.mem_append.1 h2 with h2 | h2
    ·exact ⟨h1, h2⟩
    ·simp at h2; exact absurd (by cases k; simp_all) e
   ·rintro ⟨h1, h2⟩; exact ⟨h1, by simp [h2]⟩
  simp only [this]
theorem Upd.fin {p : zS2} {c : Change} {g : House → List House} {done : List Plate} (h : Upd p c g done) (hd : ∀ x, x ∈ S9 p c.street → x ∉ done → toP p c x = [⟨c.street, x⟩]) : U5 p g = U5 p (mv p c) := zLS fun k hk => by
 rw [h k hk]
 by_cases e : k.street = c.street
 ·by_cases hm : k.plate ∈ done
  ·rw [if_pos ⟨e, hm⟩]
  ·rw [if_neg (fun x => hm x.2)]
   have hr := (mem_houses.1 hk).2.2
   rw [e] at hr
   rw [mv, if_pos e, hd _ hr hm]; cases k; simp_all
 ·rw [if_neg (fun x => e x.1), mv, if_neg e]
theorem zDY {n : Int} (h0 : -9223372036854775808 ≤ n) (h1 : n ≤ 9223372036854775807) : (Lit.int .i64 n).wf = true := by
 simp [Lit.wf, IntKind.min, IntKind.max, IntKind.signed, IntKind.bits]; omega
theorem Valid.wf {p : zS2} (v : Valid p) : ∀ h, h ∈ x6 p → h.Wf := fun h hh => by
 obtain ⟨h0, h1, h2⟩ := mem_houses.1 hh
 have := (zLb _).1 ((v.row h.street).ok _ h2)
 have := v.len
 exact ⟨zDY (by omega) (by omega), zDY (by omega) (by omega), zDY (by omega) (by omega)⟩
theorem Valid.nodup {p : zS2} (v : Valid p) : (x6 p).Nodup := (zOt v).nodup
theorem Valid.count {p : zS2} (v : Valid p) : (x6 p).length ≤ 24 := by
 have key : ∀ n, n ≤ p.length → ((List.range n).flatMap fun s => (p.getD s default).map fun x => (⟨(s : Nat), x⟩ : House)).length ≤ n * 8 := by
  intro n
  induction n with
  | zero => intro _; simp
  | succ n ih =>
   intro hn
   have := (v.rows _ (j9 (l := p) (i := n) (by omega))).len
   have := ih (by omega)
   rw [List.range_succ, List.flatMap_append]
   simp only [List.length_append, List.flatMap_cons, List.flatMap_nil, List.append_nil, List.length_map]
   omega
 rw [zCX]
 have := key p.length (Nat.le_refl _)
 have := v.len
 omega
end Go.Abs

namespace Go.Abs
open Go Go.Proofs Tryz
variable [Cur]
@[go_sem] theorem zSf (p : zS2) (s : Int) : List.getD p s.toNat default = S9 p s := rfl
attribute [go_sem] Nat.mul_one List.length_set
@[go_sem] theorem zRz (n : Nat) : ((n : Int) < 2) = (n < 2) := by simp; omega
@[go_sem] theorem zRf : ((0 : Nat) : Int) = 0 := rfl
@[go_sem] theorem zRh : ((1 : Nat) : Int) = 1 := rfl
@[go_sem] theorem zRj : ((2 : Nat) : Int) = 2 := rfl
@[go_sem] theorem zRl : ((3 : Nat) : Int) = 3 := rfl
@[go_sem] theorem zRn : ((4 : Nat) : Int) = 4 := rfl
@[go_sem] theorem zRp : ((5 : Nat) : Int) = 5 := rfl
@[go_sem] theorem zRr : ((6 : Nat) : Int) = 6 := rfl
@[go_sem] theorem zRt : ((7 : Nat) : Int) = 7 := rfl
@[go_sem] theorem zRv : ((8 : Nat) : Int) = 8 := rfl
@[go_sem] theorem zSo {α β : Type} (f : α → β) (l : List α) : (l.map f).take l.length = l.map f := List.take_of_length_le (by simp)
theorem zDk {H : Nat → AObj} {m : List (Option Nat)} {ex : List Nat} {α : Type} {f : α → AV} (hf : ∀ x, XpF H m ex (f x) (f x)) : ∀ l : List α, XpL H m ex (l.map f) (l.map f)
 | [] => by simp [zBx]
 | x :: r => by simp only [List.map_cons, zAp]; exact ⟨hf x, zDk hf r⟩
@[go_sem] theorem zQf (H : Nat → AObj) (m : List (Option Nat)) (ex : List Nat) (l : List (List Plate)) : XpL H m ex (l.map x7) (l.map x7) ↔ True := ⟨fun _ => trivial, fun _ => zDk (fun x => by simp only [XpF]) l⟩
@[go_sem] theorem zRE (H : Nat → AObj) (n : Nat) (f : Fn) (a b : Array Value) : zSz H (n + 1) (.raw (.func f a b)) = (.raw (.func f a b), []) := rfl
def NoP (_ : Nat) : Prop := True
attribute [go_sem] L6 U5
structure Pre (p : zS2) (c : Change) : Prop where
 kind : 1 ≤ c.kind ∧ c.kind ≤ 7
 street : 0 ≤ c.street ∧ c.street < p.length
 other : c.kind = 4 ∨ c.kind = 7 → 0 ≤ c.other ∧ c.other < p.length ∧ c.other ≠ c.street
end Go.Abs

namespace Go.Abs
open Go Go.Proofs Tryz
attribute [local irreducible] q9 Hold y2
variable [Cur]
theorem zGQ {p : zS2} (v : Valid p) : zSx prog 194 [H0 p] [] (.own 0 3 0 (x6 p).length) [.row 3 ((x6 p).map House.enc)] := zNu p (by have := v.len; omega) (fun l hl => by have := (v.rows l hl).len; omega) (by have := v.count; omega)
theorem zLa {α : Type} [Inhabited α] {l : List α} (hn : l.Nodup) {i : Nat} (h : i < l.length) : l.getD i default ∉ l.take i := fun hm => by
 obtain ⟨j, hj, e⟩ := List.getElem_of_mem hm
 simp at hj e
 rw [List.getElem?_eq_getElem h] at e
 simp only [Option.getD_some] at e
 have := (zBP hn).1 e
 omega
theorem zGn {α : Type} [Inhabited α] {l : List α} {i : Nat} (h : i < l.length) : l.take (i + 1) = l.take i ++ [l.getD i default] := by
 rw [List.take_add_one]; simp [List.getD, h]
theorem zOY (p : zS2) (v : Valid p) : zSx prog 204 [H0 p] [] (.mp 0) [.mapo (L6 p) (U5 p fun h => [h])] := by
 have hn := v.nodup
 have hw := v.wf
 have hct := v.count
 refine z9 func204 rfl (fun E hE => ?_); simp only [go_sem, ntmps204]
 repeat' (first | (refine Qr rfl ?_; try intro _ hK; try simp only [go_sem, *]) | refine Qh rfl ?_ | (refine Qc rfl rfl ?_ ?_ <;> (intro hb; have hc := hb; try simp only [go_sem] at hc)) | refine z8 rfl ?_ | ((with_reducible apply And.intro); focus omega) | (refine z7 hK ?_; clear hK; simp only [go_sem, *]) | simp only [z6, z5, go_sem, *])
 refine x4 [] [] (zGQ v) (by simp) (by simp only [go_sem]) trivial (by simp) (.inl rfl) (by simp [go_sem]) (by simp) ?_
 simp only [go_sem, *]
 repeat' (first | (refine Qr rfl ?_; try intro _ hK; try simp only [go_sem, *]) | refine Qh rfl ?_ | (refine Qc rfl rfl ?_ ?_ <;> (intro hb; have hc := hb; try simp only [go_sem] at hc)) | refine z8 rfl ?_ | ((with_reducible apply And.intro); focus omega) | (refine z7 hK ?_; clear hK; simp only [go_sem, *]) | simp only [z6, z5, go_sem, *])
 refine y9 rfl ((x6 p).length) (fun i => NoP i) 20 (fun i => [(10, iV i), (9, iV (x6 p).length), (8, .own 0 3 0 (x6 p).length), (3, .mp 1)]) (fun i => [.row 3 ((x6 p).map House.enc), .mapo (((x6 p).take i).map House.key) (((x6 p).take i).map (zTe fun h => [h]))]) [some 2, some 1] [] (by trivial) ?_; intro i hi hP
 repeat' (first | (refine Qr rfl ?_; try intro _ hK; try simp only [go_sem, *]) | refine Qh rfl ?_ | (refine Qc rfl rfl ?_ ?_ <;> (intro hb; have hc := hb; try simp only [go_sem] at hc)) | refine z8 rfl ?_ | ((with_reducible apply And.intro); focus omega) | (refine z7 hK ?_; clear hK; simp only [go_sem, *]) | simp only [z6, z5, go_sem, *])
 ·refine zLX (h := (x6 p).getD i default) (hs := (x6 p).take i) (xs := ((x6 p).take i).map (zTe fun h => [h])) (by simp only [go_sem, *]) (fun k hk => hw k (List.mem_of_mem_take hk)) (hw _ (j9 (by assumption))) (zLa hn (by assumption)) (by simp only [go_sem, *]) (by simp only [go_sem, *]) ?_
  simp only [go_sem, *]
  repeat' (first | (refine Qr rfl ?_; try intro _ hK; try simp only [go_sem, *]) | refine Qh rfl ?_ | (refine Qc rfl rfl ?_ ?_ <;> (intro hb; have hc := hb; try simp only [go_sem] at hc)) | refine z8 rfl ?_ | ((with_reducible apply And.intro); focus omega) | (refine z7 hK ?_; clear hK; simp only [go_sem, *]) | simp only [z6, z5, go_sem, *])
  have e := zGn (l := x6 p) (i := i) (by assumption)
  have hM : zTe (fun h => [h]) ((x6 p).getD i default) = .list [((x6 p).getD i default).enc] := rfl
  exact y3 (i' := i + 1) [some 0, some 1] [] (by trivial)
 ·refine ⟨[_], [some 1], [], ⟨rfl, trivial⟩, ?_⟩
  have e : (x6 p).take i = x6 p := List.take_of_length_le (by omega)
  simp only [go_sem, *]
end Go.Abs

namespace Go.Abs
open Go Go.Proofs Tryz
attribute [local irreducible] q9 Hold y2
variable [Cur]
end Go.Abs

namespace Go.Abs
open Go Go.Proofs Tryz
attribute [local irreducible] q9 Hold y2
variable [Cur]
end Go.Abs

namespace Go.Abs
open Go Go.Proofs Tryz
attribute [local irreducible] q9 Hold y2
variable [Cur]
end Go.Abs

namespace Go.Abs
open Go Go.Proofs Tryz
attribute [local irreducible] q9 Hold y2
variable [Cur]
end Go.Abs

namespace Go.Abs
open Go Go.Proofs Tryz
attribute [local irreducible] q9 Hold y2
variable [Cur]
@[go_sem] theorem zQw : decide False = false := rfl
end Go.Abs

namespace Go.Abs
open Go Go.Proofs Tryz
attribute [local irreducible] q9 Hold y2
variable [Cur]
end Go.Abs

namespace Go.Abs
open Go Go.Proofs Tryz
attribute [local irreducible] q9 Hold y2
variable [Cur]
attribute [go_sem] ge_iff_le
end Go.Abs

namespace Go.Abs
open Go Go.Proofs Tryz
attribute [local irreducible] q9 Hold y2
variable [Cur]
end Go.Abs

namespace Go.Abs
open Go Go.Proofs Tryz
attribute [local irreducible] q9 Hold y2
variable [Cur]
theorem zLm (cf : House → House → Int) (xs : List House) : xs = u5 cf (xs.take 1) ++ xs.drop 1 := by
 cases xs with
 | nil => rfl
 | cons x r => simp [u5, zTH, zTa]
def zBs (cf : House → House → Int) (xs cur : List House) (i : Nat) : Prop := cur = u5 cf (xs.take (i + 1)) ++ xs.drop (i + 1)
theorem zN0 {f : Nat} {cf : House → House → Int} (hc : t6 prog f = true) (hf : ∀ a b : House, zSx prog f [a.enc, b.enc] [] (iV (cf a b)) []) (xs : List House) (h1 : xs.length ≤ 12) :
  zSx prog 221 [.own 0 3 0 xs.length, iV 0, iV xs.length, zT4 f] [.row 3 (xs.map House.enc)] (.tup []) [.row 3 ((u5 cf xs).map House.enc)] := by
 refine z9 func221 rfl (fun E hE => ?_); simp only [go_sem, ntmps221]
 have hw0 : IntKind.i64.wrap 1 = (1 : Int) := wrap_i64 (by omega) (by omega)
 repeat' (first | (refine Qr rfl ?_; try intro _ hK; try simp only [go_sem, *]) | (refine Qi rfl rfl rfl rfl ?_ ?_ <;> (intro hb; (try intro _ hK); have hc := hb; try simp only [go_sem] at hc; simp only [go_sem, *])) | refine Qh rfl ?_ | refine Qd rfl (by kernel_rfl) ?_ | (refine Qc rfl rfl ?_ ?_ <;> (intro hb; have hc := hb; try simp only [go_sem] at hc)) | refine z8 rfl ?_ | (refine Qb ?_ ?_; focus kernel_rfl) | ((with_reducible apply And.intro); focus omega) | (refine z7 hK ?_; clear hK; simp only [go_sem, *]) | simp only [z6, z5, go_sem, *])
 refine Q7 rfl (xs.length) (fun i (cur : List House) => zBs cf xs cur i) 53 (fun i cur => [(8, iV ((i : Int) + 1)), (0, .own 0 3 0 xs.length), (1, iV 0), (2, iV xs.length), (3, zT4 f)]) (fun i cur => [.row 3 (cur.map House.enc)]) [some 0] [] (xs) (by exact zLm cf xs) ?_; intro i cur hi hP
 have hw : i < xs.length → IntKind.i64.wrap ((i : Int) + 1 + 1) = (((i + 1 : Nat) : Int) + 1) := fun h => by rw [wrap_i64 (by omega) (by omega)]; omega
 have hcm : ((i : Int) + 1 < (xs.length : Int)) = (i + 1 < xs.length) := by simp only [eq_iff_iff]; omega
 repeat' (first | (refine Qr rfl ?_; try intro _ hK; try simp only [go_sem, *]) | (refine Qi rfl rfl rfl rfl ?_ ?_ <;> (intro hb; (try intro _ hK); have hc := hb; try simp only [go_sem] at hc; simp only [go_sem, *])) | refine Qh rfl ?_ | refine Qd rfl (by kernel_rfl) ?_ | (refine Qc rfl rfl ?_ ?_ <;> (intro hb; have hc := hb; try simp only [go_sem] at hc)) | refine z8 rfl ?_ | (refine Qb ?_ ?_; focus kernel_rfl) | ((with_reducible apply And.intro); focus omega) | (refine z7 hK ?_; clear hK; simp only [go_sem, *]) | simp only [z6, z5, go_sem, *])
 ·have hlt : i + 1 < xs.length := by assumption
  have hlt' : i < xs.length := by omega
  obtain ⟨S, hS⟩ : ∃ S, S = u5 cf (xs.take (i + 1)) := ⟨_, rfl⟩
  have hSl : S.length = i + 1 := by rw [hS, H7]; simp; try omega
  obtain ⟨x, hx⟩ : ∃ x, x = xs.getD (i + 1) default := ⟨_, rfl⟩
  obtain ⟨R, hR⟩ : ∃ R, R = xs.drop (i + 1 + 1) := ⟨_, rfl⟩
  have hcur : cur = S ++ x :: R := by
   unfold zBs at hP
   rw [hP, hS, hx, hR, u4 hlt]
  have hfin : zTH cf S x ++ R = u5 cf (xs.take (i + 1 + 1)) ++ xs.drop (i + 1 + 1) := by
   rw [hS, hx, hR, zGo hlt, zFA]
  have hst : InsP cf S x R cur 0 := by rw [hcur]; exact InsP.start cf S x R
  have hRl : R.length = xs.length - (i + 2) := by rw [hR]; simp; try omega
  clear hS hx hR hcur hP
  refine Q7 rfl (i + 1) (fun d (cur : List House) => InsP cf S x R cur d) 53 (fun d cur => [(9, iV (((i + 1) - d : Nat) : Int)), (8, iV ((i : Int) + 1)), (0, .own 0 3 0 xs.length), (1, iV 0), (2, iV xs.length), (3, zT4 f)]) (fun d cur => [.row 3 (cur.map House.enc)]) [some 0] [] (cur) (by exact hst) ?_; intro d cur hd hQ
  have hcl : cur.length = xs.length := by rw [hQ.1, zD3]; omega
  have gx : cur.getD (i + 1 - d) default = x := by rw [hQ.1, ← hSl]; exact zD4 S x R (by omega)
  have gy : d < i + 1 → cur.getD (i + 1 - d - 1) default = S.getD (i + 1 - d - 1) default := fun h => by rw [hQ.1, ← hSl]; exact zD5 S x R (by omega)
  have hwk : 0 < i + 1 - d → IntKind.i64.wrap (((i + 1 - d : Nat) : Int) - 1) = ((i + 1 - d - 1 : Nat) : Int) := fun h => by rw [wrap_i64 (by omega) (by omega)]; omega
  have hnx : i + 1 - (d + 1) = i + 1 - d - 1 := by omega
  have hkl : i + 1 - d < xs.length := by omega
  have hkl1 : i + 1 - d - 1 < xs.length := by omega
  have hd1 : 0 < i + 1 - d → d < i + 1 := fun h => by omega
  repeat' (first | (refine Qr rfl ?_; try intro _ hK; try simp only [go_sem, *]) | (refine Qi rfl rfl rfl rfl ?_ ?_ <;> (intro hb; (try intro _ hK); have hc := hb; try simp only [go_sem] at hc; simp only [go_sem, *])) | refine Qh rfl ?_ | refine Qd rfl (by kernel_rfl) ?_ | (refine Qc rfl rfl ?_ ?_ <;> (intro hb; have hc := hb; try simp only [go_sem] at hc)) | refine z8 rfl ?_ | (refine Qb ?_ ?_; focus kernel_rfl) | (refine y5 (hf _ _) ?_; simp only [go_sem, *]) | ((with_reducible apply And.intro); focus omega) | (refine z7 hK ?_; clear hK; simp only [go_sem, *]) | simp only [z6, z5, go_sem, *])
  ·exact t7 (i' := d + 1) [some 0] [] ((cur.set (i + 1 - d) (S.getD (i + 1 - d - 1) default)).set (i + 1 - d - 1) x) (by have := InsP.next cf hQ (by omega) (by rw [hSl]; assumption); rwa [hSl] at this)
  ·have hs := InsP.stop cf hQ (by omega) (fun _ => by rw [hSl]; omega)
   exact t7 (i' := i + 1) [some 0] [] (cur) (by rw [hs]; exact hfin)
  ·have hs := InsP.stop cf hQ (by omega) (fun h => by omega)
   exact t7 (i' := i + 1) [some 0] [] (cur) (by rw [hs]; exact hfin)
 ·refine ⟨[], [some 0], [], trivial, ?_⟩
  have e1 : xs.take (i + 1) = xs := List.take_of_length_le (by omega)
  have e2 : xs.drop (i + 1) = [] := l5 (by omega)
  unfold zBs at hP
  rw [e1, e2, List.append_nil] at hP
  rw [hP]
  simp only [go_sem, W4, *]
end Go.Abs

namespace Go.Abs
open Go Go.Proofs Tryz
attribute [local irreducible] q9 Hold y2
variable [Cur]
theorem wrap_u64 {n : Int} (h0 : 0 ≤ n) (h1 : n ≤ 1000) : IntKind.u64.wrap n = n := by
 simp [IntKind.wrap, IntKind.signed, IntKind.bits]; omega
theorem wrap_u8 {n : Int} (h0 : 0 ≤ n) (h1 : n ≤ 200) : IntKind.u8.wrap n = n := by
 simp [IntKind.wrap, IntKind.signed, IntKind.bits]; omega
theorem zNG (n : Nat) (h : n ≤ 12) : zSx prog 230 [.raw (.int .u64 n)] [] .any [] := by
 have hw8 : IntKind.u8.wrap (n : Int) = (n : Int) := wrap_u8 (by omega) (by omega)
 have h1 : ((4294967296 : Int) ≤ (n : Int)) = False := by simp only [eq_iff_iff, iff_false]; omega
 have h2 : ((65536 : Int) ≤ (n : Int)) = False := by simp only [eq_iff_iff, iff_false]; omega
 have h3 : ((256 : Int) ≤ (n : Int)) = False := by simp only [eq_iff_iff, iff_false]; omega
 refine z9 func230 rfl (fun E hE => ?_); simp only [go_sem, ntmps230]
 repeat' (first | (refine Qr rfl ?_; try intro _ hK; try simp only [go_sem, *]) | refine Qh rfl ?_ | (refine Qc rfl rfl ?_ ?_ <;> (intro hb; have hc := hb; try simp only [go_sem] at hc)) | refine z8 rfl ?_ | ((with_reducible apply And.intro); focus omega) | (refine z7 hK ?_; clear hK; simp only [go_sem, *]) | simp only [z6, z5, go_sem, *])
 refine ⟨Nat.lt_of_le_of_lt h (by decide), ?_⟩
 repeat' (first | (refine Qr rfl ?_; try intro _ hK; try simp only [go_sem, *]) | refine Qh rfl ?_ | (refine Qc rfl rfl ?_ ?_ <;> (intro hb; have hc := hb; try simp only [go_sem] at hc)) | refine z8 rfl ?_ | ((with_reducible apply And.intro); focus omega) | (refine z7 hK ?_; clear hK; simp only [go_sem, *]) | simp only [z6, z5, go_sem, *])
 all_goals (refine ⟨[_], [], [], ⟨rfl, trivial⟩, ?_⟩; simp only [go_sem])
theorem zNX (n : Nat) (h : n ≤ 12) : zSx prog 206 [.raw (.int .u64 n)] [] .any [] := by
 refine z9 func206 rfl (fun E hE => ?_); simp only [go_sem, ntmps206]
 repeat' (first | (refine Qr rfl ?_; try intro _ hK; try simp only [go_sem, *]) | refine Qh rfl ?_ | (refine Qc rfl rfl ?_ ?_ <;> (intro hb; have hc := hb; try simp only [go_sem] at hc)) | refine z8 rfl ?_ | (refine y5 (zNG n h) ?_; simp only [go_sem, *]) | ((with_reducible apply And.intro); focus omega) | (refine z7 hK ?_; clear hK; simp only [go_sem, *]) | simp only [z6, z5, go_sem, *])
 all_goals (refine ⟨[_], [], [], ⟨rfl, trivial⟩, ?_⟩; simp only [go_sem])
end Go.Abs

namespace Go.Abs
open Go Go.Proofs Tryz
attribute [local irreducible] q9 Hold y2
variable [Cur]
end Go.Abs

namespace Go.Abs
open Go Go.Proofs Tryz
attribute [local irreducible] q9 Hold y2
variable [Cur]
end Go.Abs

namespace Go.Abs
open Go Go.Proofs Tryz
attribute [local irreducible] q9 Hold y2
variable [Cur]
end Go.Abs

namespace Go.Abs
open Go Go.Proofs Tryz
attribute [local irreducible] q9 Hold y2
variable [Cur]
end Go.Abs

namespace Go.Abs
open Go Go.Proofs Tryz
variable [Cur]
theorem zHy {P : Program} {f : FuncId} {avs args : List AV} {H : Nat → AObj} {nx : Nat} {K : Cont} {r : AV} {out : List AObj} {gone : List Nat} (sp : zSx P f args [] r out) (ha : (avs.map fun x => (zSz H 3 x).1) = args) (hg : (avs.map fun x => (zSz H 3 x).2).flatten = gone)
  (hx : XpL (fun o => if o ∈ gone then .dead else H o) [] [] args args) (hu : ∀ j, j < out.length → (if nx + j ∈ gone then AObj.dead else H (nx + j)) = .unb) (h7 : ∀ A, A ∈ out → A ≠ .unb)
  (hk : K (r.ren (w5 [] nx)) (gone ++ W3 [] nx out) (w4 gone ++ t9 [] nx out)) : y2 P f avs H nx K := by
 refine zB8 ?_
 rw [ha, hg]
 exact zAv [] [] sp (by simp) hx trivial (by simp) (.inl rfl) (fun j hj => hu j (by simpa using hj)) h7 (by simpa using hk)
end Go.Abs

namespace Go.Abs
open Go Go.Proofs Tryz
attribute [local irreducible] q9 Hold y2
variable [Cur]
theorem zOK {f : Nat} {cf : House → House → Int} (hcal : t6 prog f = true) (hf : ∀ a b : House, zSx prog f [a.enc, b.enc] [] (iV (cf a b)) []) (xs : List House) (h1 : xs.length ≤ 12) :
  zSx prog 205 [.own 0 3 0 xs.length, iV 0, iV xs.length, .any, zT4 f] [.row 3 (xs.map House.enc)] (.tup []) [.row 3 ((u5 cf xs).map House.enc)] := by
 have hw : IntKind.i64.wrap ((xs.length : Int) - 0) = (xs.length : Int) := by rw [wrap_i64 (by omega) (by omega)]; omega
 have h12 : ((xs.length : Int) ≤ 12) = True := by simp only [eq_iff_iff, iff_true]; omega
 refine z9 func205 rfl (fun E hE => ?_); simp only [go_sem, ntmps205]
 repeat' (first | (refine Qr rfl ?_; try intro _ hK; try simp only [go_sem, *]) | (refine Qi rfl rfl rfl rfl ?_ ?_ <;> (intro hb; (try intro _ hK); have hc := hb; try simp only [go_sem] at hc; simp only [go_sem, *])) | refine Qh rfl ?_ | refine Qd rfl (by kernel_rfl) ?_ | (refine Qc rfl rfl ?_ ?_ <;> (intro hb; have hc := hb; try simp only [go_sem] at hc)) | refine z8 rfl ?_ | (refine Qb ?_ ?_; focus kernel_rfl) | ((with_reducible apply And.intro); focus omega) | (refine z7 hK ?_; clear hK; simp only [go_sem, *]) | simp only [z6, z5, go_sem, *])
 refine y9 rfl (1) (fun i => NoP i) 148 (fun i => [(0, .own 0 3 0 xs.length), (1, iV 0), (2, iV xs.length), (4, zT4 f)]) (fun i => [.row 3 (xs.map House.enc)]) [some 0] [] (by trivial) ?_; intro i hi hP
 repeat' (first | (refine Qr rfl ?_; try intro _ hK; try simp only [go_sem, *]) | (refine Qi rfl rfl rfl rfl ?_ ?_ <;> (intro hb; (try intro _ hK); have hc := hb; try simp only [go_sem] at hc; simp only [go_sem, *])) | refine Qh rfl ?_ | refine Qd rfl (by kernel_rfl) ?_ | (refine Qc rfl rfl ?_ ?_ <;> (intro hb; have hc := hb; try simp only [go_sem] at hc)) | refine z8 rfl ?_ | (refine Qb ?_ ?_; focus kernel_rfl) | ((with_reducible apply And.intro); focus omega) | (refine z7 hK ?_; clear hK; simp only [go_sem, *]) | simp only [z6, z5, go_sem, *])
 refine x4 [0] [] (zN0 hcal hf xs h1) (by simp) (by simp only [go_sem, *]) (by simp only [go_sem, AObj.live, *]) (by simp) (.inl rfl) (by simp [go_sem]) (by simp) ?_
 simp only [go_sem, *]
 repeat' (first | (refine Qr rfl ?_; try intro _ hK; try simp only [go_sem, *]) | (refine Qi rfl rfl rfl rfl ?_ ?_ <;> (intro hb; (try intro _ hK); have hc := hb; try simp only [go_sem] at hc; simp only [go_sem, *])) | refine Qh rfl ?_ | refine Qd rfl (by kernel_rfl) ?_ | (refine Qc rfl rfl ?_ ?_ <;> (intro hb; have hc := hb; try simp only [go_sem] at hc)) | refine z8 rfl ?_ | (refine Qb ?_ ?_; focus kernel_rfl) | ((with_reducible apply And.intro); focus omega) | (refine z7 hK ?_; clear hK; simp only [go_sem, *]) | simp only [z6, z5, go_sem, *])
 refine ⟨[], [some 0], [], trivial, ?_⟩
 simp only [go_sem, W4, AObj.ren, *]
theorem zNP {f : Nat} {cf : House → House → Int} (hcal : t6 prog f = true) (hf : ∀ a b : House, zSx prog f [a.enc, b.enc] [] (iV (cf a b)) []) (xs : List House) (h1 : xs.length ≤ 12) :
  zSx prog 174 [.own 0 3 0 xs.length, zT4 f] [.row 3 (xs.map House.enc)] (.tup []) [.row 3 ((u5 cf xs).map House.enc)] := by
 have hw : IntKind.u64.wrap (xs.length : Int) = (xs.length : Int) := wrap_u64 (by omega) (by omega)
 refine z9 func174 rfl (fun E hE => ?_); simp only [go_sem, ntmps174]
 repeat' (first | (refine Qr rfl ?_; try intro _ hK; try simp only [go_sem, *]) | refine Qh rfl ?_ | (refine Qc rfl rfl ?_ ?_ <;> (intro hb; have hc := hb; try simp only [go_sem] at hc)) | refine z8 rfl ?_ | (refine y5 (zNX xs.length h1) ?_; simp only [go_sem, *]) | ((with_reducible apply And.intro); focus omega) | (refine z7 hK ?_; clear hK; simp only [go_sem, *]) | simp only [z6, z5, go_sem, *])
 refine x4 [0] [] (zOK hcal hf xs h1) (by simp) (by simp only [go_sem, *]) (by simp only [go_sem, AObj.live, *]) (by simp) (.inl rfl) (by simp [go_sem]) (by simp) ?_
 simp only [go_sem, *]
 repeat' (first | (refine Qr rfl ?_; try intro _ hK; try simp only [go_sem, *]) | refine Qh rfl ?_ | (refine Qc rfl rfl ?_ ?_ <;> (intro hb; have hc := hb; try simp only [go_sem] at hc)) | refine z8 rfl ?_ | ((with_reducible apply And.intro); focus omega) | (refine z7 hK ?_; clear hK; simp only [go_sem, *]) | simp only [z6, z5, go_sem, *])
 refine ⟨[], [some 0], [], trivial, ?_⟩
 simp only [go_sem, W4, AObj.ren, *]
end Go.Abs

namespace Go.Abs
open Go
@[go_sem] theorem zSw : zeroPlate.number = 0 := rfl
@[go_sem] theorem zSv : zeroPlate.letter = 0 := rfl
end Go.Abs

namespace Go.Abs
open Go Go.Proofs Tryz
variable [Cur]
section
variable {α : Type} {a b : List α} {i : Nat}
variable [Inhabited α]
end
end Go.Abs

namespace Go.Abs
open Go Go.Proofs Tryz
variable [Cur]
end Go.Abs

namespace Go.Abs
open Go Go.Proofs Tryz
variable [Cur]
def zUh (o : Option (List Change)) : List Change := o.getD []
@[go_sem] theorem zSE (l : List Change) : zUh (some l) = l := rfl
@[go_sem] theorem zSD : zUh none = [] := rfl
end Go.Abs

namespace Go.Abs
open Go
variable [Cur]
def Cust (P : Program) (o : Oper) (σ : AS) (Z : AS → Prop) : Prop := ∀ {E : Env} {a : Act} {w : World} {γ : Gh} {ρ : Option Nat} {next : Nx3} {Q : v8}, St E σ a w γ →
 (∀ σ' a' w' γ', Z σ' → St E σ' a' w' γ' → next a' w' γ') → U8 (Cur.way P) ρ o next Q a w γ
def zTF (P : Program) (K : AS → Prop) : List Oper → AS → Prop
 | [], σ => K σ
 | o :: r, σ => o.guard = none ∧ Cust P o σ (zTF P K r)
section
variable {P : Program} {E : Env} {σ : AS}
theorem Cust.mono {o : Oper} {Z Z' : AS → Prop} (h : Cust P o σ Z) (hz : ∀ σ', Z σ' → Z' σ') : Cust P o σ Z' := fun hst hn => h hst fun σ' a' w' γ' hZ => hn σ' a' w' γ' (hz σ' hZ)
theorem R5 {K : AS → Prop} (h : K σ) : zTF P K [] σ := h
theorem zTW {K : AS → Prop} {o : Oper} {r : List Oper} (hg : o.guard = none) (h : (match o.dst with | some d => ltN d σ.n | none => True) ∧ zTB P o σ.ev σ.obj σ.nx (fun v _ wr => zTF P K r ((σ.writes wr).putD o.dst v))) : zTF P K (o :: r) σ :=
 ⟨hg, fun hst hn => zAz hst h.2 (fun d e => by have := h.1; rw [e] at this; exact this) fun v rd wr a' w' γ' hK hs => hn _ a' w' γ' hK hs⟩
theorem E7 {o : Oper} {Z : AS → Prop} (v : AV) (nd : ∀ c, o.op ≠ .defer c) (hd : ∀ d, o.dst = some d → d < σ.n)
  (h : ∀ (E : Env) (I : Nat → Prop) (loc : Nat → Loc) (a : Act) (w : World), SR E I loc σ a w → ∃ x, (execOp a.eval o).run P w = .ok (.value x) w ∧ (∀ es, (execOp a.eval o).events P w es = es) ∧ VR w I loc v x)
  (hz : Z (σ.putD o.dst v)) : Cust P o σ Z := fun hst hn => by
 refine K4 (.inr nd) fun w₁ hr => ?_
 obtain ⟨I, loc, hs⟩ := hst.rely hr
 obtain ⟨x, hrun, hev, hv⟩ := h _ _ _ _ _ hs.sr
 have hg0 := Guar.refl hs.og.wf
 exact ⟨_, w₁, _, hrun, ⟨hg0.wf, hg0.tape, hg0.os, hg0.output, hg0.size, hg0.block, hg0.own, hg0.fro, hg0.tok, by rw [hev]; exact .nil⟩, fun w₂ hr2 => hn _ _ _ _ hz (St.rely ⟨I, loc, hs.putD hv hd⟩ hr2)⟩
variable {Q : Exit → AS → Prop} {p : List Nat} {b : Code}
theorem zFz {ρ : Option Nat} {all : List Oper} {K : AS → Prop} {Q : v8} (hK : ∀ σ a w γ, K σ → St E σ a w γ → Bx (Q .normal a · γ) γ w) :
  ∀ (l : List Oper) (k : Nat) (σ : AS) (a : Act) (w : World) (γ : Gh), all.drop k = l → zTF P K l σ → St E σ a w γ → zTC (Cur.way P) ρ all.toArray Q (List.range' k (all.length - k)) a w γ
 | [], k, σ, a, w, γ, e, h, hs => by
  have : all.length - k = 0 := by have := congrArg List.length e; simpa using this
  rw [this]
  exact G3 (hK σ a w γ h hs)
 | o :: rest, k, σ, a, w, γ, e, h, hst => by
  have hlen : all.length - k = rest.length + 1 := by have := congrArg List.length e; simpa using this
  have hk : all[k]? = some o := by
   have := congrArg (·[0]?) e
   simpa using this
  have hdr : all.drop (k + 1) = rest := by
   have := congrArg List.tail e
   simpa using this
  have hl2 : all.length - (k + 1) = rest.length := by omega
  rw [hlen, List.range'_succ, ← hl2]
  exact K5 (o := o) (by simpa using hk) (by unfold Region.wanted; rw [h.1]) (h.2 hst fun σ' a' w' γ' h' hs' => zFz hK rest (k + 1) σ' a' w' γ' hdr h' hs')
theorem R0 {id : Nat} {ops : List Oper} (h : sub p b = .region id ops.toArray false) (hx : zTF P (fun σ' => Q .normal σ') ops σ) : Hold P E (sub p b) Q σ := by
 rw [h]
 intro a w γ hst
 refine B9 ?_
 have := zFz (P := P) (E := E) (ρ := none) (Q := zTo E Q) (all := ops) (K := fun σ' => Q .normal σ') (fun σ' a' w' γ' h1 h2 => S6 h1 h2) ops 0 σ a w γ rfl hx hst
 simpa [List.range_eq_range'] using this
theorem SG.say {I : Nat → Prop} {loc : Nat → Loc} {γ : Gh} {a : Act} {w : World} {k : Nat} {A : AObj} (hs : SG E I γ loc σ a w) (hl : (σ.obj k).live = true) (hl' : A.live = true) (hb : ∃ b c, loc k = .blk b c) (hA : OR w I loc k A) : SG E I γ loc (σ.setO k A) a w := by
 obtain ⟨b, c, hb⟩ := hb
 have hsr := hs.sr.writeG (w' := w) hl hb rfl rfl rfl rfl (fun _ _ => rfl) hA (by rintro rfl; cases hl')
 refine ⟨hsr, ⟨hs.og.wf, hs.og.rd, fun o b' c' h1 h2 => ?_, hs.og.mark, hs.og.own, hs.og.fro⟩⟩
 rw [AS.obj_setO] at h1
 by_cases e : k = o
 ·subst e; exact hs.og.live k b' c' hl h2
 ·rw [if_neg e] at h1; exact hs.og.live o b' c' h1 h2
theorem zGB (k : Nat) {e : TypeId} {y : AV} {c : Code} (ho : σ.obj k = .tbox e [.any, y]) (h0 : Hold P E c Q (σ.setO k (.tbox e [.raw (.pointer none), y]))) (h1 : Hold P E c Q (σ.setO k (.tbox e [.ptr k 0, y]))) : Hold P E c Q σ := by
 intro a w γ hst
 obtain ⟨I, loc, hs⟩ := hst
 have hor := hs.sr.objs k
 rw [ho] at hor
 have hlv : (σ.obj k).live = true := by rw [ho]; rfl
 obtain ⟨b, C, q1, q2, q3, q4, q5⟩ := hor
 have hz : C.size = 2 := q4.symm
 rcases q3 with q3 | q3
 ·refine h0 a w γ ⟨I, loc, hs.say hlv rfl ⟨_, _, q1⟩ ⟨b, C, q1, q2, .inl q3, q4, fun i hi hi' => ?_⟩⟩
  have hi2 : i < 2 := hi
  rcases (show i = 0 ∨ i = 1 by omega) with rfl | rfl
  ·have : C[0] = .pointer none := by simpa [hi'] using q3
   rw [this]; exact .pure (.raw _ rfl)
  ·exact q5 1 hi hi'
 ·refine h1 a w γ ⟨I, loc, hs.say hlv rfl ⟨_, _, q1⟩ ⟨b, C, q1, q2, .inr q3, q4, fun i hi hi' => ?_⟩⟩
  have hi2 : i < 2 := hi
  rcases (show i = 0 ∨ i = 1 by omega) with rfl | rfl
  ·have : C[0] = .pointer (some ⟨b, 0, none⟩) := by simpa [hi'] using q3
   rw [this]; exact .ptr _ _ _ _ q1
  ·exact q5 1 hi hi'
theorem zGA (k : Nat) {e : TypeId} {x y : AV} {c : Code} (ho : σ.obj k = .tbox e [x, y]) (h0 : Hold P E c Q (σ.setO k (.tbox e [.any, y]))) : Hold P E c Q σ := by
 intro a w γ hst
 obtain ⟨I, loc, hs⟩ := hst
 have hor := hs.sr.objs k
 rw [ho] at hor
 have hlv : (σ.obj k).live = true := by rw [ho]; rfl
 obtain ⟨b, C, q1, q2, q3, q4, q5⟩ := hor
 refine h0 a w γ ⟨I, loc, hs.say hlv rfl ⟨_, _, q1⟩ ⟨b, C, q1, q2, q3, q4, fun i hi hi' => ?_⟩⟩
 have hi2 : i < 2 := hi
 rcases (show i = 0 ∨ i = 1 by omega) with rfl | rfl
 ·exact .pure (.any _)
 ·exact q5 1 hi hi'
variable {o : Oper} {Z : AS → Prop}
theorem B3 {tp te : TypeId} {j : TypeInfo} {w : World} (hp : P.underlying tp = some (.pointer te)) (hte : P.info? te = some j) (x : Option Addr) :
  (binOp .eql tp (.pointer x) (.pointer none)).run P w = .ok (.bool x.isNone) w ∧ ∀ es, (binOp .eql tp (.pointer x) (.pointer none)).events P w es = es := by
 have h : ∀ d : Nat, (Op.equalIn (d + 1) tp (.pointer x) (.pointer none)).run P w = .ok x.isNone w := fun d => by
  cases x <;> simp [Op.equalIn, run_underlying hp]
 have h' : ∀ (d : Nat) es, (Op.equalIn (d + 1) tp (.pointer x) (.pointer none)).events P w es = es := fun d es => by
  cases x <;> simp [Op.equalIn, run_underlying hp]
 constructor
 ·simp only [binOp]
  simp [Op.equal, Op.maxDepth, h 9999]
 ·intro es
  simp only [binOp]
  simp [Op.equal, Op.maxDepth, h 9999, h' 9999]
theorem L0 {σ : AS} {a : Act} {E : Env} {I : Nat → Prop} {loc : Nat → Loc} {w : World} (hs : SR E I loc σ a w) {x : Operand} {v : Value} (h : σ.ev x = .raw v) : a.eval x = v := by
 have := hs.ev x
 rw [h] at this
 exact this.raw_eq
theorem zAO {E : Env} {I : Nat → Prop} {loc : Nat → Loc} {w : World} {k off : Nat} {v : Value} (h : VR w I loc (.ptr k off) v) : ∃ b c, loc k = .blk b c ∧ v = .pointer (some ⟨b, off, none⟩) := by
 cases h with
 | pure hp => cases hp
 | ptr _ _ b c h => exact ⟨b, c, h, rfl⟩
variable {r : List Oper} {K : AS → Prop} {t : TypeId} {x y : Operand} {u : TypeId}
def zUO (P : Program) (t : TypeId) : Prop := ∃ te j, P.underlying t = some (.pointer te) ∧ P.info? te = some j
theorem zHE (hop : o.op = .binOp .eql t x y u) (hg : o.guard = none) (hu : zUO P t) (hx : σ.ev x = .raw (.pointer none)) (hy : σ.ev y = .raw (.pointer none)) (hd : ∀ d, o.dst = some d → d < σ.n) (hz : zTF P K r (σ.putD o.dst (.raw (.bool true)))) : zTF P K (o :: r) σ := by
 obtain ⟨te, j, h1, h2⟩ := hu
 refine ⟨hg, E7 _ (fun c e => by rw [hop] at e; cases e) hd (fun E I loc a w hs => ⟨.bool true, ?_, fun es => ?_, .pure (.raw _ rfl)⟩) hz⟩
 ·simp only [execOp, hop, L0 hs hx, L0 hs hy]
  simp [eqGuard, (B3 (w := w) h1 h2 none).1]
 ·simp only [execOp, hop, L0 hs hx, L0 hs hy]
  simp [eqGuard, (B3 (w := w) h1 h2 none).1, (B3 (w := w) h1 h2 none).2]
theorem zHF {k off : Nat} (hop : o.op = .binOp .eql t x y u) (hg : o.guard = none) (hu : zUO P t) (hx : σ.ev x = .ptr k off) (hy : σ.ev y = .raw (.pointer none)) (hd : ∀ d, o.dst = some d → d < σ.n) (hz : zTF P K r (σ.putD o.dst (.raw (.bool false)))) : zTF P K (o :: r) σ := by
 obtain ⟨te, j, h1, h2⟩ := hu
 refine ⟨hg, E7 _ (fun c e => by rw [hop] at e; cases e) hd (fun E I loc a w hs => ?_) hz⟩
 have hv := hs.ev x
 rw [hx] at hv
 obtain ⟨b, c, _, hv⟩ := zAO (E := E) hv
 refine ⟨.bool false, ?_, fun es => ?_, .pure (.raw _ rfl)⟩
 ·simp only [execOp, hop, hv, L0 hs hy]
  simp [eqGuard, (B3 (w := w) h1 h2 (some ⟨b, off, none⟩)).1]
 ·simp only [execOp, hop, hv, L0 hs hy]
  simp [eqGuard, (B3 (w := w) h1 h2 (some ⟨b, off, none⟩)).1, (B3 (w := w) h1 h2 (some ⟨b, off, none⟩)).2]
theorem zIl {tp te : TypeId} {j : TypeInfo} {w : World} (a : Addr) (hp : P.underlying tp = some (.pointer te)) (hte : P.info? te = some j) (es : Array Event) :
  (binOp .neq tp (.pointer (some a)) (.pointer (some a))).events P w es = es := by
 have h : ∀ d : Nat, (Op.equalIn (d + 1) tp (.pointer (some a)) (.pointer (some a))).run P w = .ok true w := fun d => by
  simp [Op.equalIn, run_underlying hp, sizeOf, typeInfo, hte, run_sameAddr_same]
 have h' : ∀ (d : Nat) es, (Op.equalIn (d + 1) tp (.pointer (some a)) (.pointer (some a))).events P w es = es := fun d es => by
  simp [Op.equalIn, run_underlying hp, sizeOf, typeInfo, hte, run_sameAddr_same, sameAddr]
 simp only [binOp]
 simp [Op.equal, Op.maxDepth, h 9999, h' 9999]
theorem zHG {k off : Nat} (hop : o.op = .binOp .neq t x y u) (hg : o.guard = none) (hu : zUO P t) (hx : σ.ev x = .ptr k off) (hy : σ.ev y = .ptr k off) (hd : ∀ d, o.dst = some d → d < σ.n) (hz : zTF P K r (σ.putD o.dst (.raw (.bool false)))) : zTF P K (o :: r) σ := by
 obtain ⟨te, j, h1, h2⟩ := hu
 refine ⟨hg, E7 _ (fun c e => by rw [hop] at e; cases e) hd (fun E I loc a w hs => ?_) hz⟩
 have hv := hs.ev x
 rw [hx] at hv
 obtain ⟨b, c, e1, hv⟩ := zAO (E := E) hv
 have hw := hs.ev y
 rw [hy] at hw
 obtain ⟨b', c', e2, hw⟩ := zAO (E := E) hw
 rw [e1] at e2; cases e2
 refine ⟨.bool false, ?_, fun es => ?_, .pure (.raw _ rfl)⟩
 ·simp only [execOp, hop, hv, hw]
  simp [eqGuard, Lib.run_neq_ptr_same w _ h1 h2]
 ·simp only [execOp, hop, hv, hw]
  simp [eqGuard, Lib.run_neq_ptr_same w _ h1 h2, zIl _ h1 h2]
theorem zHJ {k : Nat} {s d : TypeId} {e : TypeId} {A B : AV} (hop : o.op = .convert s d x) (hg : o.guard = none) (hx : σ.ev x = .ptr k 0) (hk : σ.obj k = .tbox e [A, B])
  (hs : P.underlying s = some (.pointer e)) (hu : P.underlying d = some .unsafePointer) (hi : ∃ j, P.info? e = some j ∧ j.size = 2) (hd : ∀ d, o.dst = some d → d < σ.n) (hz : zTF P K r (σ.putD o.dst (.ptr k 0))) : zTF P K (o :: r) σ := by
 obtain ⟨j, h2, h3⟩ := hi
 refine ⟨hg, E7 _ (fun c e => by rw [hop] at e; cases e) hd (fun E I loc a w hsr => ?_) hz⟩
 have hv := hsr.ev x
 rw [hx] at hv
 obtain ⟨b, c, e1, hv⟩ := zAO (E := E) hv
 have ho := hsr.objs k
 rw [hk] at ho
 obtain ⟨b', C, q1, q2, _, q3, _⟩ := ho
 rw [e1] at q1; cases q1
 have hsh : w.shape? b = some (e, 2) := by simp [World.shape?, q2, ← q3]
 refine ⟨_, ?_, fun es => ?_, .ptr _ _ _ _ e1⟩
 ·simp only [execOp, hop, hv]
  simp [Lib.run_to_unsafe w ⟨b, 0, none⟩ hs hu h2 (by rw [h3]; decide) hsh (Nat.zero_lt_succ 1)]
 ·simp only [execOp, hop, hv]
  simp [Lib.run_to_unsafe w ⟨b, 0, none⟩ hs hu h2 (by rw [h3]; decide) hsh (Nat.zero_lt_succ 1)]
  simp [convert, run_underlying hs, run_underlying hu, Conv.unsafePointer, Conv.seenAt, viewAt, cellsIn, hsh, sizeOf, typeInfo, h2, h3]
theorem zHH {k : Nat} {s d : TypeId} {e : TypeId} {A B : AV} (hop : o.op = .convert s d x) (hg : o.guard = none) (hx : σ.ev x = .ptr k 0) (hk : σ.obj k = .tbox e [A, B])
  (hs : P.underlying s = some .unsafePointer) (hu : P.underlying d = some (.pointer e)) (hi : ∃ j, P.info? e = some j ∧ j.size = 2) (hlies : liesAt P P.depth e (2 / P.cellsOf e) 0 e 1 = true) (hd : ∀ d, o.dst = some d → d < σ.n) (hz : zTF P K r (σ.putD o.dst (.ptr k 0))) : zTF P K (o :: r) σ := by
 obtain ⟨j, h2, h3⟩ := hi
 refine ⟨hg, E7 _ (fun c e => by rw [hop] at e; cases e) hd (fun E I loc a w hsr => ?_) hz⟩
 have hv := hsr.ev x
 rw [hx] at hv
 obtain ⟨b, c, e1, hv⟩ := zAO (E := E) hv
 have ho := hsr.objs k
 rw [hk] at ho
 obtain ⟨b', C, q1, q2, _, q3, _⟩ := ho
 rw [e1] at q1; cases q1
 have hsh : w.shape? b = some (e, 2) := by simp [World.shape?, q2, ← q3]
 refine ⟨_, ?_, fun es => ?_, .ptr _ _ _ _ e1⟩
 ·simp only [execOp, hop, hv]
  simp [Lib.run_from_unsafe w ⟨b, 0, none⟩ hs hu h2 hsh hlies]
 ·simp only [execOp, hop, hv]
  simp [Lib.run_from_unsafe w ⟨b, 0, none⟩ hs hu h2 hsh hlies]
  simp [convert, run_underlying hs, run_underlying hu, Conv.unsafePointer, Conv.seenAt, viewAt, hsh, variablesAt, hlies, sizeOf, typeInfo, h2, h3]
def zGC (P : Program) (f : FuncId) : Prop := ∃ fn, P.funcs[f]? = some fn ∧ (fn.name == "runtime.NumGoroutine") = false ∧ fn.body.isNone = true ∧ Extern.findNext fn = none ∧ Extern.find fn = some Extern.AbiNoEscape.same
theorem zHI {k off : Nat} {fo : Operand} {ts : Array TypeId} {f : FuncId} (hop : o.op = .call ⟨.value fo, #[x], ts⟩) (hg : o.guard = none) (hf : σ.ev fo = .raw (.func (.func f) #[] #[])) (hx : σ.ev x = .ptr k off) (hp : zGC P f)
  (hd : ∀ d, o.dst = some d → d < σ.n) (hz : zTF P K r (σ.putD o.dst (.ptr k off))) : zTF P K (o :: r) σ := by
 obtain ⟨fn, m1, m2, m3, m4, m5⟩ := hp
 refine ⟨hg, fun {_ a _ _ _ _ _} hst hn => ?_⟩
 refine K4 (.inr fun c e => by rw [hop] at e; cases e) fun w₁ hr => ?_
 obtain ⟨I, loc, hs⟩ := hst.rely hr
 have hv := hs.sr.ev x
 rw [hx] at hv
 have hfv := L0 hs.sr hf
 generalize hxv : a.eval x = v at hv
 have hrun : (execOp a.eval o).run P w₁ = .ok (.value v) w₁ := by
  simp only [execOp, hop, resolve, hfv, Deferred.ofValue, Sem.run_bind, Sem.run_pure, Result.andThen_ok, invoke, Array.append_empty, Array.empty_append, List.map_toArray, List.map_cons, List.map_nil, hxv]
  rw [run_callFunc_extern m1 m2 m3 m4 m5, Lib.run_noEscape]
  rfl
 have hg0 := Guar.refl hs.og.wf
 refine ⟨_, w₁, _, hrun, ⟨hg0.wf, hg0.tape, hg0.os, hg0.output, hg0.size, hg0.block, hg0.own, hg0.fro, hg0.tok, ?_⟩, fun w₂ hr2 => hn _ _ _ _ hz (St.rely ⟨I, loc, hs.putD hv hd⟩ hr2)⟩
 have ht : zSy P ⟨fun _ => False, fun _ => False, none⟩ 0 (callFunc f #[v]) := by
  unfold callFunc
  refine TameV.bind tame_program fun p hp => ?_
  subst hp
  simp only [m1, m2, m3, m4, m5, Bool.false_eq_true, if_false, if_true]
  refine q7 zDS fun _ => ?_
  exact q7 q8 fun _ => q8
 have hev := (ht w₁ ⟨fun b hb => hb.elim (fun h => h.elim) (fun h => h.elim), Nat.zero_le _, fun b _ hb => hb.elim (fun h => h.elim) (fun h => h.elim)⟩).1 #[] .nil
 intro e he
 have he2 : e ∈ (callFunc f #[v]).events P w₁ #[] := by
  simp only [execOp, hop, resolve, hfv, Deferred.ofValue, Sem.events_bind, Sem.run_bind, Sem.run_pure, Result.andThen_ok, Result.evThen_ok, Sem.events_pure, invoke, Array.append_empty, Array.empty_append, List.map_toArray, List.map_cons, List.map_nil, hxv] at he
  exact he
 exact EvOK.mono (γ := ⟨fun _ => False, fun _ => False, none⟩) (n := w₁.heap.size) (fun _ (h : False) => h.elim) (fun _ (h : False) => h.elim) (hev e he2)
theorem zQL {k off sz : Nat} {ts : Array TypeId} {e : TypeId} (hop : o.op = .call ⟨.builtin .copy, #[x, y], ts⟩) (hg : o.guard = none) (hx : σ.ev x = .own k sz off 0) (hy : σ.ev y = .raw (.slice none 0 0))
  (ht : ts[0]?.bind (fun t => P.underlying t) = some (.slice e)) (hi : (P.info? e).isSome = true) (hd : ∀ d, o.dst = some d → d < σ.n) (hz : zTF P K r (σ.putD o.dst (.raw (.int .i64 0)))) : zTF P K (o :: r) σ := by
 cases h0 : ts[0]? with
 | none => rw [h0] at ht; cases ht
 | some t0 =>
  rw [h0] at ht
  have ht : P.underlying t0 = some (.slice e) := ht
  cases hj : P.info? e with
  | none => rw [hj] at hi; cases hi
  | some j =>
   refine ⟨hg, E7 _ (fun c e => by rw [hop] at e; cases e) hd (fun E I loc a w hsr => ?_) hz⟩
   have hv := hsr.ev x
   rw [hx] at hv
   have hw := L0 hsr hy
   have hv2 : ∃ ad c, a.eval x = .slice ad 0 c := by
    rcases hv.own_inv with ⟨_, _, _, h3⟩ | ⟨b, c, ad, cap, hl, h1, _⟩
    ·exact ⟨_, _, h3⟩
    ·exact ⟨_, _, h1⟩
   obtain ⟨ad, c, hv2⟩ := hv2
   have hrun : (Builtin.copy_ ts o.type #[.slice ad 0 c, .slice none 0 0]).run P w = .ok (.int .i64 0) w ∧ ∀ es, (Builtin.copy_ ts o.type #[.slice ad 0 c, .slice none 0 0]).events P w es = es := by
    unfold Builtin.copy_
    rw [h0]
    cases ad <;> simp [run_underlying ht, sizeOf, typeInfo, hj, Builtin.lenOf, Builtin.firstCells, storeCells, goInt]
   refine ⟨.int .i64 0, ?_, fun es => ?_, .pure (.raw _ rfl)⟩
   ·simp only [execOp, hop, resolve, invoke, Sem.run_bind, Sem.run_pure, Result.andThen_ok, builtin, List.map_toArray, List.map_cons, List.map_nil, hv2, hw]
    simp [builtin, hrun.1]
   ·simp only [execOp, hop, resolve, invoke, Sem.run_bind, Sem.run_pure, Result.andThen_ok, builtin, List.map_toArray, List.map_cons, List.map_nil, hv2, hw]
    simp [builtin, hrun.1, hrun.2]
theorem zQM {fo : Operand} {args : Array Operand} {ts : Array TypeId} {f : FuncId} {l : List Value} {v : Value} (hop : o.op = .call ⟨.value fo, args, ts⟩) (hg : o.guard = none) (hf : σ.ev fo = .raw (.func (.func f) #[] #[]))
  (hl : a6 (args.toList.map σ.ev) = some l) (hx : zAk P f l v) (hd : ∀ d, o.dst = some d → d < σ.n) (hz : zTF P K r (σ.putD o.dst (.raw v))) : zTF P K (o :: r) σ :=
 ⟨hg, fun hst hn => zIp hst hop hf hl hx hd fun a' w' γ' hs => hn _ a' w' γ' hz hs⟩
theorem zIn {f : FuncId} {fn : Func} {e : Array Value → Sem Value} {l : List Value} {v : Value} (m1 : P.funcs[f]? = some fn) (m2 : (fn.name == "runtime.NumGoroutine") = false) (m3 : fn.body.isNone = true) (m4 : Extern.findNext fn = none) (m5 : Extern.find fn = some e)
    (h1 : v.oneCell' = true) (hr : ∀ w, (e l.toArray).run P w = .ok v w) (he : ∀ w es, (e l.toArray).events P w es = es) : zAk P f l v := by
  refine ⟨h1, fun w => ⟨?_, fun γ n => ?_⟩⟩
  · rw [run_callFunc_extern m1 m2 m3 m4 m5, hr]; rfl
  · have ht : zSy P ⟨fun _ => False, fun _ => False, none⟩ 0 (callFunc f l.toArray) := by
      unfold callFunc
      refine TameV.bind tame_program fun p hp => ?_
      subst hp
      simp only [m1, m2, m3, m4, m5, Bool.false_eq_true, if_false, if_true]
      refine q7 zDS fun _ => ?_
      exact q7 (fun w hw => ⟨fun es hes => by rw [he]; exact hes, fun u w' hu => by rw [hr] at hu; cases hu; exact ⟨hw, trivial⟩⟩) fun _ => q8
    have hev := (ht w ⟨fun b hb => hb.elim (fun h => h.elim) (fun h => h.elim), Nat.zero_le _, fun b _ hb => hb.elim (fun h => h.elim) (fun h => h.elim)⟩).1 #[] .nil
    exact fun e he => EvOK.mono (γ := ⟨fun _ => False, fun _ => False, none⟩) (n := n) (fun _ (h : False) => h.elim) (fun _ (h : False) => h.elim) (hev e he)
end
end Go.Abs

namespace Go.Abs
open Go Go.Proofs Go.RowKit
attribute [local irreducible] q9 Hold y2
variable [Cur]
abbrev zTT : TypeId := 245
theorem A6 : ∃ j, Tryz.prog.info? zTT = some j ∧ j.size = 2 := zBD (by kernel_rfl)
theorem E1 : zUO Tryz.prog 242 := let ⟨j, h, _⟩ := A6; ⟨_, j, Tryz.underlying242, h⟩
theorem zFf : zGC Tryz.prog 181 := ⟨_, Tryz.func181, by kernel_rfl, by kernel_rfl, by kernel_rfl, by kernel_rfl⟩
@[go_sem] theorem zRd : zUY Tryz.prog 5 := ⟨_, #[3], _, Tryz.func182, by kernel_rfl, by kernel_rfl, by kernel_rfl, by kernel_rfl, Tryz.underlying243⟩
@[go_sem] theorem zRc : t6 Tryz.prog 182 = false := by kernel_rfl
@[go_sem] theorem zQt : Tryz.prog.cellsOf 5 = 1 := by kernel_rfl
@[go_sem] theorem zQu : Tryz.prog.underlying 295 = some (.pointer 5) := Tryz.underlying295
@[go_sem] theorem zR5 (c : UInt8) : UInt8.ofNat c.toNat = c := UInt8.ofNat_toNat
@[go_sem] theorem zSm (t : Str) : zTd ⟨t.toArray⟩ = t.map fun c => .raw (.int .u8 (c.toNat : Int)) := rfl
theorem zNZ : zSx Tryz.prog 157 [.ptr 0 0] [.tbox zTT [.any, .raw (.slice none 0 0)]] (.tup []) [.tbox zTT [.any, .raw (.slice none 0 0)]] := by
 refine z9 Tryz.func157 rfl (fun E hE => ?_); simp only [go_sem, Tryz.ntmps157]
 refine zGB 0 rfl ?_ ?_
 ·refine Qh rfl ?_
  refine R0 rfl ?_
  simp only [go_sem]
  iterate 4 (refine zTW rfl ?_; simp only [go_sem, *])
  refine zHE rfl rfl E1 rfl rfl ?_ ?_
  (focus (intro d h; cases h; simp only [go_sem, *]; try omega))
  simp only [go_sem, *]
  refine R5 ?_
  repeat' (first | ((refine R0 rfl ?_)) | (refine Qr rfl ?_; try intro _ hK; try simp only [go_sem, *]) | refine Qh rfl ?_ | (refine Qc rfl rfl ?_ ?_ <;> (intro hb; have hc := hb; try simp only [go_sem] at hc)) | refine z8 rfl ?_ | ((with_reducible apply And.intro); focus omega) | (refine z7 hK ?_; clear hK; simp only [go_sem, *]) | simp only [z6, z5, go_sem, *])
  clear hb hc
  iterate 2 (refine zTW rfl ?_; simp only [go_sem, *])
  refine zHJ rfl rfl rfl rfl Tryz.underlying242 Tryz.underlying211 A6 ?_ ?_
  (focus (intro d h; cases h; simp only [go_sem, *]; try omega))
  simp only [go_sem, *]
  refine zHI rfl rfl rfl rfl zFf ?_ ?_
  (focus (intro d h; cases h; simp only [go_sem, *]; try omega))
  simp only [go_sem, *]
  refine zHH rfl rfl rfl rfl Tryz.underlying211 Tryz.underlying242 A6 (by kernel_rfl) ?_ ?_
  (focus (intro d h; cases h; simp only [go_sem, *]; try omega))
  simp only [go_sem, *]
  iterate 3 (refine zTW rfl ?_; simp only [go_sem, *])
  refine R5 ?_
  refine ⟨[], [some 0], [], trivial, ?_⟩
  simp only [go_sem, *]
 ·refine Qh rfl ?_
  refine R0 rfl ?_
  simp only [go_sem]
  iterate 4 (refine zTW rfl ?_; simp only [go_sem, *])
  refine zHF rfl rfl E1 rfl rfl ?_ ?_
  (focus (intro d h; cases h; simp only [go_sem, *]; try omega))
  simp only [go_sem, *]
  refine R5 ?_
  repeat' (first | ((refine R0 rfl ?_)) | (refine Qr rfl ?_; try intro _ hK; try simp only [go_sem, *]) | refine Qh rfl ?_ | (refine Qc rfl rfl ?_ ?_ <;> (intro hb; have hc := hb; try simp only [go_sem] at hc)) | refine z8 rfl ?_ | ((with_reducible apply And.intro); focus omega) | (refine z7 hK ?_; clear hK; simp only [go_sem, *]) | simp only [z6, z5, go_sem, *])
  clear hb hc
  iterate 5 (refine zTW rfl ?_; simp only [go_sem, *])
  refine zHG rfl rfl E1 rfl rfl ?_ ?_
  (focus (intro d h; cases h; simp only [go_sem, *]; try omega))
  simp only [go_sem, *]
  refine R5 ?_
  refine zGA 0 rfl ?_
  simp only [go_sem, *]
  repeat' (first | (refine Qr rfl ?_; try intro _ hK; try simp only [go_sem, *]) | refine Qh rfl ?_ | (refine Qc rfl rfl ?_ ?_ <;> (intro hb; have hc := hb; try simp only [go_sem] at hc)) | refine z8 rfl ?_ | ((with_reducible apply And.intro); focus omega) | (refine z7 hK ?_; clear hK; simp only [go_sem, *]) | simp only [z6, z5, go_sem, *])
  refine ⟨[], [some 0], [], trivial, ?_⟩
  simp only [go_sem, *]
theorem zNa (l : Str) : zSx Tryz.prog 157 [.ptr 0 0] [.tbox zTT [.any, .own 1 1 0 l.length], .brow 5 l] (.tup []) [.tbox zTT [.any, .own 1 1 0 l.length], .brow 5 l] := by
 refine z9 Tryz.func157 rfl (fun E hE => ?_); simp only [go_sem, Tryz.ntmps157]
 refine zGB 0 rfl ?_ ?_
 ·refine Qh rfl ?_
  refine R0 rfl ?_
  simp only [go_sem]
  iterate 4 (refine zTW rfl ?_; simp only [go_sem, *])
  refine zHE rfl rfl E1 rfl rfl ?_ ?_
  (focus (intro d h; cases h; simp only [go_sem, *]; try omega))
  simp only [go_sem, *]
  refine R5 ?_
  repeat' (first | ((refine R0 rfl ?_)) | (refine Qr rfl ?_; try intro _ hK; try simp only [go_sem, *]) | refine Qh rfl ?_ | (refine Qc rfl rfl ?_ ?_ <;> (intro hb; have hc := hb; try simp only [go_sem] at hc)) | refine z8 rfl ?_ | ((with_reducible apply And.intro); focus omega) | (refine z7 hK ?_; clear hK; simp only [go_sem, *]) | simp only [z6, z5, go_sem, *])
  clear hb hc
  iterate 2 (refine zTW rfl ?_; simp only [go_sem, *])
  refine zHJ rfl rfl rfl rfl Tryz.underlying242 Tryz.underlying211 A6 ?_ ?_
  (focus (intro d h; cases h; simp only [go_sem, *]; try omega))
  simp only [go_sem, *]
  refine zHI rfl rfl rfl rfl zFf ?_ ?_
  (focus (intro d h; cases h; simp only [go_sem, *]; try omega))
  simp only [go_sem, *]
  refine zHH rfl rfl rfl rfl Tryz.underlying211 Tryz.underlying242 A6 (by kernel_rfl) ?_ ?_
  (focus (intro d h; cases h; simp only [go_sem, *]; try omega))
  simp only [go_sem, *]
  iterate 3 (refine zTW rfl ?_; simp only [go_sem, *])
  refine R5 ?_
  refine ⟨[], [some 0, some 1], [], trivial, ?_⟩
  simp only [go_sem, *]
 ·refine Qh rfl ?_
  refine R0 rfl ?_
  simp only [go_sem]
  iterate 4 (refine zTW rfl ?_; simp only [go_sem, *])
  refine zHF rfl rfl E1 rfl rfl ?_ ?_
  (focus (intro d h; cases h; simp only [go_sem, *]; try omega))
  simp only [go_sem, *]
  refine R5 ?_
  repeat' (first | ((refine R0 rfl ?_)) | (refine Qr rfl ?_; try intro _ hK; try simp only [go_sem, *]) | refine Qh rfl ?_ | (refine Qc rfl rfl ?_ ?_ <;> (intro hb; have hc := hb; try simp only [go_sem] at hc)) | refine z8 rfl ?_ | ((with_reducible apply And.intro); focus omega) | (refine z7 hK ?_; clear hK; simp only [go_sem, *]) | simp only [z6, z5, go_sem, *])
  clear hb hc
  iterate 5 (refine zTW rfl ?_; simp only [go_sem, *])
  refine zHG rfl rfl E1 rfl rfl ?_ ?_
  (focus (intro d h; cases h; simp only [go_sem, *]; try omega))
  simp only [go_sem, *]
  refine R5 ?_
  refine zGA 0 rfl ?_
  simp only [go_sem, *]
  repeat' (first | (refine Qr rfl ?_; try intro _ hK; try simp only [go_sem, *]) | refine Qh rfl ?_ | (refine Qc rfl rfl ?_ ?_ <;> (intro hb; have hc := hb; try simp only [go_sem] at hc)) | refine z8 rfl ?_ | ((with_reducible apply And.intro); focus omega) | (refine z7 hK ?_; clear hK; simp only [go_sem, *]) | simp only [z6, z5, go_sem, *])
  refine ⟨[], [some 0, some 1], [], trivial, ?_⟩
  simp only [go_sem, *]
@[go_sem] theorem zSs : IntKind.i64.wrap (IntKind.i64.wrap (2 * 0) + 1) = 1 := by decide
@[go_sem] theorem zSr : (1 : Int).toNat = 1 := rfl
@[go_sem] theorem zRa : ((0 : Int) ≤ 1) = True := by decide
@[go_sem] theorem zRb : ((1 : Int) ≤ 1000000) = True := by decide
theorem zNW : zSx Tryz.prog 158 [.ptr 0 0, iV 1] [.tbox zTT [.any, .raw (.slice none 0 0)]] (.tup []) [.tbox zTT [.any, .own 1 1 0 0], .brow 5 []] := by
 refine z9 Tryz.func158 rfl (fun E hE => ?_); simp only [go_sem, Tryz.ntmps158]
 repeat' (first | ((refine R0 rfl ?_)) | (refine Qr rfl ?_; try intro _ hK; try simp only [go_sem, *]) | refine Qh rfl ?_ | refine Qd rfl (by kernel_rfl) ?_ | (refine Qc rfl rfl ?_ ?_ <;> (intro hb; have hc := hb; try simp only [go_sem] at hc)) | refine z8 rfl ?_ | (refine Qb ?_ ?_; focus kernel_rfl) | ((with_reducible apply And.intro); focus omega) | (refine z7 hK ?_; clear hK; simp only [go_sem, *]) | simp only [z6, z5, go_sem, *])
 iterate 5 (refine zTW rfl ?_; simp only [go_sem, *])
 refine zQL rfl rfl rfl rfl (e := 5) Tryz.underlying243 (by kernel_rfl) ?_ ?_
 (focus (intro d h; cases h; simp only [go_sem, *]; try omega))
 simp only [go_sem, *]
 refine R5 ?_
 repeat' (first | (refine Qr rfl ?_; try intro _ hK; try simp only [go_sem, *]) | refine Qh rfl ?_ | refine Qd rfl (by kernel_rfl) ?_ | (refine Qc rfl rfl ?_ ?_ <;> (intro hb; have hc := hb; try simp only [go_sem] at hc)) | refine z8 rfl ?_ | (refine Qb ?_ ?_; focus kernel_rfl) | ((with_reducible apply And.intro); focus omega) | (refine z7 hK ?_; clear hK; simp only [go_sem, *]) | simp only [z6, z5, go_sem, *])
 refine ⟨[], [some 0, some 1], [], trivial, ?_⟩
 simp only [go_sem, *]
theorem zM7 : zSx Tryz.prog 126 [.ptr 0 0, iV 1] [.tbox zTT [.any, .raw (.slice none 0 0)]] (.tup []) [.tbox zTT [.any, .own 1 1 0 0], .brow 5 []] := by
 refine z9 Tryz.func126 rfl (fun E hE => ?_); simp only [go_sem, Tryz.ntmps126]
 repeat' (first | (refine Qr rfl ?_; try intro _ hK; try simp only [go_sem, *]) | refine Qh rfl ?_ | refine Qd rfl (by kernel_rfl) ?_ | (refine Qc rfl rfl ?_ ?_ <;> (intro hb; have hc := hb; try simp only [go_sem] at hc)) | refine z8 rfl ?_ | (refine Qb ?_ ?_; focus kernel_rfl) | (refine x4 [0] [] (zNZ) (by simp) ?_ ?_ (by simp) (.inl rfl) ?_ ?_ ?_; (iterate 2 (focus (simp only [go_sem, *]; done))); (iterate 2 (focus (first | (simp; done) | (simp [go_sem]; done)))); simp only [go_sem, *]) | (refine x4 [0] [] (zNW) (by simp) ?_ ?_ (by simp) (.inl rfl) ?_ ?_ ?_; (iterate 2 (focus (simp only [go_sem, *]; done))); (iterate 2 (focus (first | (simp; done) | (simp [go_sem]; done)))); simp only [go_sem, *]) | ((with_reducible apply And.intro); focus omega) | (refine z7 hK ?_; clear hK; simp only [go_sem, *]) | simp only [z6, z5, go_sem, *])
 all_goals first | exact absurd hc (by decide) | (refine ⟨[], [some 0, some 1], [], trivial, ?_⟩; simp only [go_sem, *])
theorem zNT (l : Str) (c : UInt8) (h : l.length ≤ 1000000) : zSx Tryz.prog 128 [.ptr 0 0, .raw (.int .u8 (c.toNat : Int))] [.tbox zTT [.any, .own 1 1 0 l.length], .brow 5 l] (.raw .nilIface)
  [.tbox zTT [.any, .own 2 1 0 (l ++ [c]).length], .dead, .brow 5 (l ++ [c])] := by
 have hc : (c.toNat : Int) < 256 := by have := c.toNat_lt; omega
 refine z9 Tryz.func128 rfl (fun E hE => ?_); simp only [go_sem, Tryz.ntmps128]
 repeat' (first | (refine Qr rfl ?_; try intro _ hK; try simp only [go_sem, *]) | refine Qh rfl ?_ | (refine Qc rfl rfl ?_ ?_ <;> (intro hb; have hc := hb; try simp only [go_sem] at hc)) | refine z8 rfl ?_ | (refine j5 [0, 1] (zNa l) ?_; simp only [go_sem, *]) | ((with_reducible apply And.intro); focus omega) | (refine z7 hK ?_; clear hK; simp only [go_sem, *]) | simp only [z6, z5, go_sem, *])
 refine ⟨[_], [some 0, some 1, some 3], [], ⟨rfl, trivial⟩, ?_⟩
 simp only [go_sem, *]
theorem zMr (c : UInt8) (r : Str) (h : r.length ≤ 1000000) : zSx Tryz.prog 129 [.ptr 0 0] [.tbox zTT [.any, .own 1 1 0 (c :: r).length], .brow 5 (c :: r)] (sV (c :: r)) [.dead, .dead] := by
 simp only [List.length_cons]
 refine z9 Tryz.func129 rfl (fun E hE => ?_); simp only [go_sem, Tryz.ntmps129]
 repeat' (first | (refine Qr rfl ?_; try intro _ hK; try simp only [go_sem, *]) | refine Qh rfl ?_ | refine Qd rfl (by kernel_rfl) ?_ | (refine Qc rfl rfl ?_ ?_ <;> (intro hb; have hc := hb; try simp only [go_sem] at hc)) | refine z8 rfl ?_ | (refine Qb ?_ ?_; focus kernel_rfl) | ((with_reducible apply And.intro); focus omega) | (refine z7 hK ?_; clear hK; simp only [go_sem, *]) | simp only [z6, z5, go_sem, *])
 refine ⟨[_], [some 0, some 1], [], ⟨rfl, trivial⟩, ?_⟩
 simp only [go_sem, *]
end Go.Abs

namespace Go.Abs
open Go Go.Proofs Go.RowKit
attribute [local irreducible] q9 Hold y2
variable [Cur]
def zT7 (c : UInt8) : Str := if 65 ≤ c.toNat ∧ c.toNat ≤ 90 then [c + 32] else [c]
def zUi (_ : Nat) : Prop := True
theorem zOD (c : UInt8) (h : c.toNat < 128) (hu : ¬ (65 ≤ c.toNat ∧ c.toNat ≤ 90)) : zSx Tryz.prog 101 [sV [c]] [] (sV [c]) [] := by
 refine z9 Tryz.func101 rfl (fun E hE => ?_); simp only [go_sem, Tryz.ntmps101]
 refine wk1 trivial ?_
 refine y9 rfl (1) (fun i => zUi i) 78 (fun i => [(5, iV i), (4, bV false), (3, bV true), (0, sV [c])]) (fun i => []) [] [] (by trivial) ?_; intro i hi hP
 have hg : i < 1 → ¬ (65 ≤ ([c].getD i 0).toNat ∧ ([c].getD i 0).toNat ≤ 90) ∧ ([c].getD i 0).toNat < 128 := by
  intro hi; have : i = 0 := by omega
  subst this; exact ⟨hu, h⟩
 repeat' (first | (refine Qr rfl ?_; try intro _ hK; try simp only [go_sem, *]) | (refine Qi rfl rfl rfl rfl ?_ ?_ <;> (intro hb; (try intro _ hK); have hc := hb; try simp only [go_sem] at hc; simp only [go_sem, *])) | refine Qh rfl ?_ | (refine Qc rfl rfl ?_ ?_ <;> (intro hb; have hc := hb; try simp only [go_sem] at hc)) | refine z8 rfl ?_ | ((with_reducible apply And.intro); focus omega) | (refine z7 hK ?_; clear hK; simp only [go_sem, *]) | simp only [z6, z5, go_sem, *])
 ·exfalso; have := hg (by omega); omega
 ·have e : decide ((([c].getD i 0).toNat : Int) ≤ 90) = false := by { have := hg (by omega); simp only [decide_eq_false_iff_not]; omega }
  clear hg; exact y3 (i' := i + 1) [] [] (by trivial)
 ·clear hg; exact y3 (i' := i + 1) [] [] (by trivial)
 ·(refine ⟨[_], [], [], ⟨rfl, trivial⟩, ?_⟩; simp only [go_sem, *])
def Tk (c : UInt8) (k : Nat) (a : Str) : Prop := a = ([c + 32] : Str).take k
def Qx (i : Nat) (q : Bool) : Prop := 1 ≤ i → q = true
theorem zOE (c : UInt8) (hu : 65 ≤ c.toNat ∧ c.toNat ≤ 90) : zSx Tryz.prog 101 [sV [c]] [] (sV [c + 32]) [] := by
 refine z9 Tryz.func101 rfl (fun E hE => ?_); simp only [go_sem, Tryz.ntmps101]
 refine wk1 trivial ?_
 refine Q7 rfl (1) (fun i (q : Bool) => Qx i q) 78 (fun i q => [(5, iV i), (4, bV q), (3, bV true), (0, sV [c])]) (fun i q => []) [] [] (false) (by exact (fun h => absurd h (by omega))) ?_; intro i q hi hP
 have hg : i < 1 → (65 ≤ ([c].getD i 0).toNat ∧ ([c].getD i 0).toNat ≤ 90) := by
  intro hi; have : i = 0 := by omega
  subst this; exact hu
 repeat' (first | ((refine zMO (t := zTT) rfl rfl rfl rfl rfl 0 rfl ?_ ?_)) | (refine Qr rfl ?_; try intro _ hK; try simp only [go_sem, *]) | (refine Qi rfl rfl rfl rfl ?_ ?_ <;> (intro hb; (try intro _ hK); have hc := hb; try simp only [go_sem] at hc; simp only [go_sem, *])) | refine Qh rfl ?_ | (refine Qc rfl rfl ?_ ?_ <;> (intro hb; have hc := hb; try simp only [go_sem] at hc)) | refine z8 rfl ?_ | (refine j5 [0] (zM7) ?_; simp only [go_sem, *]) | ((with_reducible apply And.intro); focus omega) | (refine z7 hK ?_; clear hK; simp only [go_sem, *]) | simp only [z6, z5, go_sem, *])
 ·exfalso; have := hg (by omega); omega
 ·have hq : Qx (i + 1) (decide ((([c].getD i 0).toNat : Int) ≤ 90)) := fun _ => by { have := hg (by omega); simp only [decide_eq_true_eq]; omega }
  clear hg; exact t7 (i' := i + 1) [] [] (decide ((([c].getD i 0).toNat : Int) ≤ 90)) (by exact hq)
 ·exfalso; have := hg (by omega); omega
 ·clear hg; exact t7 (i' := i + 1) [] [] (true) (by exact (fun _ => rfl))
 ·exfalso; have := hP (by omega); subst this; cases hb
 clear hP hg hb hc
 refine Q7 rfl (1) (fun k (a2 : Str) => Tk c k a2) 78 (fun k a2 => [(9, iV k), (8, iV k), (7, .ptr 0 0), (0, sV [c])]) (fun k a2 => [.tbox zTT [.any, .own 1 1 0 a2.length], .brow 5 a2]) [some 0, some 1] [] (([] : Str)) (by exact rfl) ?_; intro k a2 hk hP2
 by_cases hk1 : k < 1
 ·have hk0 : k = 0 := by omega
  have hw8 : IntKind.u8.wrap ((([c].getD k 0).toNat : Int) + 32) = ((c + 32).toNat : Int) := by
   subst hk0
   have : (c + 32).toNat = c.toNat + 32 := by rw [UInt8.toNat_add]; simp; omega
   rw [this, IntKind.wrap_u8]; simp; omega
  have hg : (65 ≤ ([c].getD k 0).toNat ∧ ([c].getD k 0).toNat ≤ 90) := by subst hk0; exact hu
  have hn : Tk c (k + 1) (a2 ++ [c + 32]) := by subst hk0; rw [show a2 = [] from hP2]; rfl
  have hl : a2.length ≤ 1000000 := by subst hk0; rw [show a2 = [] from hP2]; simp
  clear hk0 hP2
  have sw := zNT a2 (c + 32) hl
  repeat' (first | (refine Qr rfl ?_; try intro _ hK; try simp only [go_sem, *]) | (refine Qi rfl rfl rfl rfl ?_ ?_ <;> (intro hb; (try intro _ hK); have hc := hb; try simp only [go_sem] at hc; simp only [go_sem, *])) | refine Qh rfl ?_ | (refine Qc rfl rfl ?_ ?_ <;> (intro hb; have hc := hb; try simp only [go_sem] at hc)) | refine z8 rfl ?_ | (refine j5 [0, 1] (sw) ?_; simp only [go_sem, *]) | ((with_reducible apply And.intro); focus omega) | (refine z7 hK ?_; clear hK; simp only [go_sem, *]) | simp only [z6, z5, go_sem, *])
  all_goals first
   | (exfalso; omega)
   | (clear sw hl hg; exact t7 (i' := k + 1) [some 0, some 2] [] (a2 ++ [c + 32]) (by exact hn))
 ·have : k = 1 := by omega
  subst this
  have : a2 = [c + 32] := hP2
  subst this
  have sb := zMr (c + 32) [] (by simp)
  simp only [List.length_cons, List.length_nil, Nat.zero_add] at sb
  refine wk1 (own [0, 1] (sb)) ?_
  all_goals (refine ⟨[_], [], [], ⟨rfl, trivial⟩, ?_⟩; simp only [go_sem, *])
end Go.Abs

namespace Go.Abs
open Go Go.Proofs Tryz
attribute [local irreducible] q9 Hold y2
variable [Cur]
attribute [go_sem] y4 Nat.le_refl Nat.sub_zero Int.reduceGT Nat.reduceGT Int.reduceGE
@[go_sem ↓] theorem zRW (a b : Int) (K : Cont) : zTq .xor .u64 a b K = K (uV (R4 a b)) [] [] := rfl
@[go_sem ↓] theorem zSh (a b : Int) (K : Cont) : N8 .shl .u64 a b K = (0 ≤ b ∧ K (uV (zAZ a b.toNat)) [] []) := rfl
@[go_sem ↓] theorem zSj (a b : Int) (K : Cont) : N8 .shr .u64 a b K = (0 ≤ b ∧ K (uV (X5 a b.toNat)) [] []) := rfl
@[go_sem] theorem zQx (s : Int) : R4 s (zAZ s 13) = zUV s := rfl
@[go_sem] theorem zQy (s : Int) : R4 s (X5 s 7) = zUW s := rfl
@[go_sem] theorem zQz (s : Int) : R4 s (zAZ s 17) = zUX s := rfl
@[go_sem] theorem zQ0 (s : Int) : zUX (zUW (zUV s)) = zAK s := rfl
@[go_sem] theorem zQ1 (n : Int) : IntKind.u64.wrap (R4 n (X5 n 30) * 10723151780598845931) = zUI n := rfl
theorem zON (d : Dice) (h : d.list.length ≤ 4294967296) : zSx prog 67 [.ptr 0 0] [y4 d] (uV (zTi d)) [y4 (zTc d)] := by
 have e2 : (zTc d).list = d.list := rfl
 have e4 : (zTc d).seed = zTp d := rfl
 have e6 : zTi d = R4 (zUI (zTp d)) (X5 (zUI (zTp d)) 31) := rfl
 by_cases q : d.at_ < d.list.length
 ·have q2 : ((d.at_ : Int) < (d.list.length : Int)) := by omega
  have e1 : zTp d = IntKind.u64.wrap (zAK d.seed + IntKind.u64.wrap (IntKind.u64.wrap (d.list.getD d.at_ default) * 13787848793156543929)) := by unfold zTp; rw [if_pos q]
  have e3 : (zTc d).at_ = d.at_ + 1 := by unfold zTc; simp only; rw [if_pos q]
  have e5 : IntKind.i64.wrap ((d.at_ : Int) + 1) = ((d.at_ + 1 : Nat) : Int) := o3 (by omega)
  generalize zTc d = d' at *
  refine z9 func67 rfl (fun E hE => ?_); simp only [go_sem, ntmps67]
  refine wk1 trivial ?_
  all_goals first | contradiction | omega | skip
  refine ⟨[_], [some 0], [], ⟨rfl, trivial⟩, ?_⟩
  simp only [go_sem, *]
 ·have q2 : ¬ ((d.at_ : Int) < (d.list.length : Int)) := by omega
  have e1 : zTp d = zAK d.seed := by unfold zTp; rw [if_neg q]
  have e3 : (zTc d).at_ = d.at_ := by unfold zTc; simp only; rw [if_neg q]
  generalize zTc d = d' at *
  refine z9 func67 rfl (fun E hE => ?_); simp only [go_sem, ntmps67]
  refine wk1 trivial ?_
  all_goals first | contradiction | omega | skip
  refine ⟨[_], [some 0], [], ⟨rfl, trivial⟩, ?_⟩
  simp only [go_sem, *]
theorem T0 (d : Dice) (n : Int) (h : d.list.length ≤ 4294967296) (hn : n ≤ 4294967296) : zSx prog 27 [.ptr 0 0, iV n] [y4 d] (iV (toN n d)) [y4 (toD n d)] := by
 by_cases q : n < 1
 ·have e1 : toN n d = 0 := by unfold toN; rw [if_pos q]
  have e2 : toD n d = d := by unfold toD; rw [if_pos q]
  refine z9 func27 rfl (fun E hE => ?_); simp only [go_sem, ntmps27]
  refine wk1 trivial ?_
  all_goals first | contradiction | omega | skip
  refine ⟨[_], [some 0], [], ⟨rfl, trivial⟩, ?_⟩
  simp only [go_sem, *]
 ·have e1 : toN n d = (X5 (zTi d) 16).tmod (n + 1) := by unfold toN; rw [if_neg q]
  have e2 : toD n d = zTc d := by unfold toD; rw [if_neg q]
  have hr := zDW n d
  rw [e1] at hr
  have e3 : IntKind.i64.wrap (n + 1) = n + 1 := wrap_i64 (by omega) (by omega)
  have e4 : IntKind.u64.wrap (n + 1) = n + 1 := by rw [IntKind.wrap_u64]; omega
  have e5 : IntKind.i64.wrap ((X5 (zTi d) 16).tmod (n + 1)) = (X5 (zTi d) 16).tmod (n + 1) := wrap_i64 (by omega) (by omega)
  have e6 : ¬ n + 1 = 0 := by omega
  have sr := zON d h
  generalize zTi d = r at *
  generalize zTc d = d' at *
  clear hr
  refine z9 func27 rfl (fun E hE => ?_); simp only [go_sem, ntmps27]
  refine wk1 (own [0] (sr)) ?_
  all_goals first | contradiction | omega | skip
  refine ⟨[_], [some 0], [], ⟨rfl, trivial⟩, ?_⟩
  simp only [go_sem, *]
theorem zM6 (d : Dice) (lo hi : Int) (h : d.list.length ≤ 4294967296) (hl : 0 ≤ lo ∧ lo ≤ hi) (hh : hi ≤ 4294967296) : zSx prog 20 [.ptr 0 0, iV lo, iV hi] [y4 d] (iV (Y1 lo hi d)) [y4 (O9 lo hi d)] := by
 have st := T0 d (hi - lo) h (by omega)
 have hf := zA8 hl.2 d
 have e1 : IntKind.i64.wrap (hi - lo) = hi - lo := wrap_i64 (by omega) (by omega)
 have e2 : IntKind.i64.wrap (lo + toN (hi - lo) d) = Y1 lo hi d := by
  have : lo + toN (hi - lo) d = Y1 lo hi d := rfl
  rw [this]; exact wrap_i64 (by omega) (by omega)
 have e3 : O9 lo hi d = toD (hi - lo) d := rfl
 rw [e3]
 generalize Y1 lo hi d = r at *
 clear e3 hf hl
 refine z9 func20 rfl (fun E hE => ?_); simp only [go_sem, ntmps20]
 refine wk1 (own [0] (st)) ?_
 refine ⟨[_], [some 0], [], ⟨rfl, trivial⟩, ?_⟩
 simp only [go_sem, *]
theorem zBd (d : Dice) (k : Int) (h : d.list.length ≤ 4294967296) (hk : 0 ≤ k ∧ k ≤ 4294967296) : zSx prog 26 [.ptr 0 0, iV k] [y4 d] (bV (N2 k d)) [y4 (t8 k d)] := by
 have st := T0 d (k - 1) h (by omega)
 have e1 : IntKind.i64.wrap (k - 1) = k - 1 := wrap_i64 (by omega) (by omega)
 have e2 : N2 k d = (toN (k - 1) d == 0) := rfl
 have e3 : t8 k d = toD (k - 1) d := rfl
 rw [e3, e2]
 clear e2 e3 hk
 refine z9 func26 rfl (fun E hE => ?_); simp only [go_sem, ntmps26]
 refine wk1 (own [0] (st)) ?_
 refine ⟨[_], [some 0], [], ⟨rfl, trivial⟩, ?_⟩
 simp only [go_sem, *]
@[reducible] def I9 (l : List Int) : AV := .list (l.map iV)
def zFc (l : List Int) : Dice := ⟨l, 0, 11400714819323198485⟩
theorem zNK (l : List Int) : zSx prog 5 [I9 l] [] (.ptr 0 0) [y4 (zFc l)] := by
 refine z9 func5 rfl (fun E hE => ?_); simp only [go_sem, ntmps5]
 refine wk1 trivial ?_
 refine ⟨[_], [some 0], [], ⟨rfl, trivial⟩, ?_⟩
 simp only [go_sem, zFc, *]
 try rfl
end Go.Abs

namespace Go.Abs
open Go
end Go.Abs

namespace Go.Abs
open Go
end Go.Abs

namespace Go.Abs
open Go
def P5 (r : Int) : Int := if 97 ≤ r ∧ r ≤ 122 then 1 else if 65 ≤ r ∧ r ≤ 90 ∧ ¬ (r = 72 ∨ r = 81 ∨ r = 87) then 2 else 0
theorem zKw : ((List.range 256).all fun n => decide (P5 n = u6 (UInt8.ofNat n))) = true := by kernel_rfl
theorem zCh (c : UInt8) : P5 (c.toNat : Int) = u6 c := by
 have := List.all_eq_true.1 zKw c.toNat (List.mem_range.2 c.toNat_lt)
 rw [decide_eq_true_eq, UInt8.ofNat_toNat] at this
 exact this
theorem zFG {r : Int} (h : 128 ≤ r) : P5 r = 0 := by
 unfold P5
 rw [if_neg (by omega), if_neg (by omega)]
theorem zFF {c : UInt8} (h : 128 ≤ c.toNat) : u6 c = 0 := by rw [← zCh, zFG (by omega)]
theorem zKu {c : UInt8} (h : u6 c ≠ 0) : c.toNat < 128 := by
 apply Decidable.of_not_not
 intro hn
 exact h (zFF (by omega))
theorem zKz : ((List.range 256).all fun n => (w6 (UInt8.ofNat n) == decide (u6 (UInt8.ofNat n) = 1)) && (U9 (UInt8.ofNat n) == decide (u6 (UInt8.ofNat n) = 2))) = true := by kernel_rfl
theorem zFI (c : UInt8) : w6 c = decide (u6 c = 1) ∧ U9 c = decide (u6 c = 2) := by
 have := List.all_eq_true.1 zKz c.toNat (List.mem_range.2 c.toNat_lt)
 rw [UInt8.ofNat_toNat, Bool.and_eq_true, beq_iff_eq, beq_iff_eq] at this
 exact this
theorem latin_kind {c : UInt8} : w6 c = true ↔ u6 c = 1 := by rw [(zFI c).1, decide_eq_true_eq]
theorem other_kind {c : UInt8} : U9 c = true ↔ u6 c = 2 := by rw [(zFI c).2, decide_eq_true_eq]
def FormTo (s : Str) (i : Nat) (k : Int) : Prop := (i = 0 ∧ k = 0) ∨ (0 < i ∧ k ≠ 0 ∧ ∀ j, j < i → u6 (s.getD j 0) = k)
theorem zKv (c : UInt8) : u6 c = 0 ∨ u6 c = 1 ∨ u6 c = 2 := by
 unfold u6
 repeat' split
 all_goals simp
theorem FormTo.end {s : Str} {i : Nat} {k : Int} (h : FormTo s i k) (hi : i = s.length) (h0 : 0 < s.length) : Y0 s = true := by
 rcases h with h | ⟨_, hk, h⟩
 ·omega
 ·unfold Y0
  rw [Bool.or_eq_true, List.all_eq_true, List.all_eq_true]
  have hm : ∀ c, c ∈ s → u6 c = k := fun c hc => by
   obtain ⟨j, hj, rfl⟩ := List.getElem_of_mem hc
   have := h j (by omega)
   simpa [List.getD, hj] using this
  have hr : k = 1 ∨ k = 2 := by
   cases s with
   | nil => simp at h0
   | cons c r =>
    have h1 := hm c (by simp)
    rcases zKv c with h2 | h2 | h2 <;> omega
  rcases hr with rfl | rfl
  ·exact .inl (fun c hc => latin_kind.2 (hm c hc))
  ·exact .inr (fun c hc => other_kind.2 (hm c hc))
theorem FormTo.next {s : Str} {i : Nat} {k : Int} (h : FormTo s i k) (hk : u6 (s.getD i 0) ≠ 0) (he : k = 0 ∨ u6 (s.getD i 0) = k) : FormTo s (i + 1) (u6 (s.getD i 0)) := by
 refine .inr ⟨by omega, hk, fun j hj => ?_⟩
 by_cases e : j = i
 ·rw [e]
 ·rcases h with ⟨rfl, rfl⟩ | ⟨h0, h1, h⟩
  ·omega
  ·rw [h j (by omega)]
   rcases he with he | he
   ·exact absurd he h1
   ·exact he.symm
theorem FormTo.bad {s : Str} {i : Nat} {k : Int} (h : FormTo s i k) (hi : i < s.length) (hb : u6 (s.getD i 0) = 0 ∨ (k ≠ 0 ∧ u6 (s.getD i 0) ≠ k)) : Y0 s = false := by
 have hm : s.getD i 0 ∈ s := by simp [List.getD, hi]
 cases hf : Y0 s with
 | false => rfl
 | true =>
  exfalso
  unfold Y0 at hf
  rw [Bool.or_eq_true, List.all_eq_true, List.all_eq_true] at hf
  have hall : ∃ q, q ≠ 0 ∧ ∀ c, c ∈ s → u6 c = q := by
   rcases hf with hf | hf
   ·exact ⟨1, by decide, fun c hc => latin_kind.1 (hf c hc)⟩
   ·exact ⟨2, by decide, fun c hc => other_kind.1 (hf c hc)⟩
  obtain ⟨q, hq, hall⟩ := hall
  have h1 := hall _ hm
  rcases hb with hb | ⟨hb1, hb2⟩
  ·exact hq (h1.symm.trans hb)
  ·rcases h with ⟨_, h⟩ | ⟨h0, _, h⟩
   ·exact hb1 h
   ·have h2 := h 0 h0
    have h3 : s.getD 0 0 ∈ s := by
     have : 0 < s.length := by omega
     simp [List.getD, this]
    have := hall _ h3
    exact hb2 (by omega)
end Go.Abs

namespace Go.Abs
open Go Go.Proofs Tryz
attribute [local irreducible] q9 Hold y2
variable [Cur]
theorem zN1 (n : Int) : zSx prog 100 [iV n] [] (bV false) [] := by
 refine z9 func100 rfl (fun E hE => ?_); simp only [go_sem, ntmps100]
 refine wk1 trivial ?_
 all_goals (refine ⟨[_], [], [], ⟨rfl, trivial⟩, ?_⟩; simp only [go_sem, *])
 all_goals simp_all
theorem zMw (a b : Int) : zSx prog 76 [iV a, iV b] [] (iV (zTG a b)) [] := by
 refine z9 func76 rfl (fun E hE => ?_); simp only [go_sem, ntmps76]
 repeat' (first | (refine Qr rfl ?_; try intro _ hK; try simp only [go_sem, *]) | refine Qh rfl ?_ | (refine Qc rfl rfl ?_ ?_ <;> (intro hb; have hc := hb; try simp only [go_sem] at hc)) | refine z8 rfl ?_ | (refine y5 (zN1 _) ?_; simp only [go_sem, *]) | ((with_reducible apply And.intro); focus omega) | (refine z7 hK ?_; clear hK; simp only [go_sem, *]) | simp only [z6, z5, go_sem, *])
 all_goals (refine ⟨[_], [], [], ⟨rfl, trivial⟩, ?_⟩; simp only [go_sem, *])
 all_goals (refine S1 ?_; unfold zTG; repeat' split)
 all_goals omega
def orL : List Int → Int
 | [] => 0
 | x :: r => if x = 0 then orL r else x
theorem zNL (l : List Int) (hl : l.length ≤ 4294967296) : zSx prog 74 [.list (l.map iV)] [] (iV (orL l)) [] := by
 refine z9 func74 rfl (fun E hE => ?_); simp only [go_sem, ntmps74]
 refine wk1 trivial ?_
 refine y9 rfl (l.length) (fun i => orL (l.drop i) = orL l) 18 (fun i => [(8, iV i), (7, iV l.length), (6, .list (l.map iV)), (3, iV 0)]) (fun i => []) [] [] (by simp) ?_; intro i hi hP
 repeat' (first | (refine Qr rfl ?_; try intro _ hK; try simp only [go_sem, *]) | refine Qh rfl ?_ | (refine Qc rfl rfl ?_ ?_ <;> (intro hb; have hc := hb; try simp only [go_sem] at hc)) | refine z8 rfl ?_ | ((with_reducible apply And.intro); focus omega) | (refine z7 hK ?_; clear hK; simp only [go_sem, *]) | simp only [z6, z5, go_sem, *])
 ·(refine ⟨[_], [], [], ⟨rfl, trivial⟩, ?_⟩; simp only [go_sem, *])
  rw [← hP, u4 ‹_›, orL, if_neg ‹_›]
 ·exact y3 (i' := i + 1) [] [] (by rw [← hP, u4 (i := i) ‹_›, orL, if_pos ‹_›])
 ·(refine ⟨[_], [], [], ⟨rfl, trivial⟩, ?_⟩; simp only [go_sem, *])
  rw [← hP, l5 (by omega), orL]
theorem zLi (a b : Int) : orL [a, b] = orI a b := by
 simp only [orL, orI]; repeat' split
 all_goals omega
theorem zN2 (s : Str) : zSx prog 99 [sV s] [] (bV false) [] := by
 refine z9 func99 rfl (fun E hE => ?_); simp only [go_sem, ntmps99]
 refine wk1 trivial ?_
 all_goals (refine ⟨[_], [], [], ⟨rfl, trivial⟩, ?_⟩; simp only [go_sem, *])
 all_goals simp_all
theorem zN3 (s : Str) : zSx prog 233 [sV s] [] (bV false) [] := by
 refine z9 func233 rfl (fun E hE => ?_); simp only [go_sem, ntmps233]
 refine wk1 trivial ?_
 all_goals (refine ⟨[_], [], [], ⟨rfl, trivial⟩, ?_⟩; simp only [go_sem, *])
 all_goals simp_all
theorem zMy (a b : Str) : zSx prog 75 [sV a, sV b] [] (iV (zS5 a b)) [] := by
 refine z9 func75 rfl (fun E hE => ?_); simp only [go_sem, ntmps75]
 repeat' (first | (refine Qr rfl ?_; try intro _ hK; try simp only [go_sem, *]) | refine Qh rfl ?_ | (refine Qc rfl rfl ?_ ?_ <;> (intro hb; have hc := hb; try simp only [go_sem] at hc)) | refine z8 rfl ?_ | (refine y5 (zN2 _) ?_; simp only [go_sem, *]) | ((with_reducible apply And.intro); focus omega) | (refine z7 hK ?_; clear hK; simp only [go_sem, *]) | simp only [z6, z5, go_sem, *])
 all_goals (refine ⟨[_], [], [], ⟨rfl, trivial⟩, ?_⟩; simp only [go_sem, *])
 all_goals (refine S1 ?_; unfold zS5 u3; simp_all)
 all_goals (apply Decidable.of_not_not; intro h; exact absurd (zAd (by assumption) (by simpa using h)) (by assumption))
theorem zMz (a b : Str) : zSx prog 216 [sV a, sV b] [] (iV (zS5 a b)) [] := by
 refine z9 func216 rfl (fun E hE => ?_); simp only [go_sem, ntmps216]
 repeat' (first | (refine Qr rfl ?_; try intro _ hK; try simp only [go_sem, *]) | refine Qh rfl ?_ | (refine Qc rfl rfl ?_ ?_ <;> (intro hb; have hc := hb; try simp only [go_sem] at hc)) | refine z8 rfl ?_ | (refine y5 (zN3 _) ?_; simp only [go_sem, *]) | ((with_reducible apply And.intro); focus omega) | (refine z7 hK ?_; clear hK; simp only [go_sem, *]) | simp only [z6, z5, go_sem, *])
 all_goals (refine ⟨[_], [], [], ⟨rfl, trivial⟩, ?_⟩; simp only [go_sem, *])
 all_goals (refine S1 ?_; unfold zS5 u3; simp_all)
 all_goals (apply Decidable.of_not_not; intro h; exact absurd (zAd (by assumption) (by simpa using h)) (by assumption))
end Go.Abs

namespace Go.Abs
open Go Go.Proofs Tryz
attribute [local irreducible] q9 Hold y2
variable [Cur]
def hqw (r : Int) : Bool := decide (0 ≤ Lib.indexByte [72, 81, 87] r.toNat.toUInt8)
theorem zKY : ((List.range 128).all fun n => hqw n == (n == 72 || n == 81 || n == 87)) = true := by kernel_rfl
theorem zKZ {r : Int} (h0 : 0 ≤ r) (h1 : r < 128) : hqw r = decide (r = 72 ∨ r = 81 ∨ r = 87) := by
 obtain ⟨n, rfl⟩ := Int.eq_ofNat_of_zero_le h0
 have := List.all_eq_true.1 zKY n (List.mem_range.2 (by omega))
 rw [beq_iff_eq] at this
 rw [this, Bool.eq_iff_iff]
 simp
 omega
theorem zIo (s : ByteArray) (c : Int) (h0 : 0 ≤ c) (h1 : c < 256) : zAk prog 208 [.string s, .int .u8 c] (.int .i64 (Lib.indexByte s.data.toList c.toNat.toUInt8)) :=
  zIn (e := Extern.BytealgIndexByte.indexByte) func208 (by kernel_rfl) (by kernel_rfl) (by kernel_rfl) (by kernel_rfl) rfl (fun w => Lib.run_indexByteString s c w) fun w es => by
    show Sem.events _ (Extern.BytealgIndexByte.indexByte #[.string s, .int .u8 c]) w es = es
    show Sem.events _ (do
        let b ← Extern.Bytes.bytesOf (.string s)
        let c ← Extern.Bytes.asByte (.int .u8 c)
        match (List.range b.size).find? fun i => b[i]! == c with
        | some i => pure (goInt i)
        | none => pure (goInt (-1))) w es = es
    simp only [Extern.Bytes.bytesOf, Extern.Bytes.asByte]
    simp only [Sem.events_bind, Sem.run_pure, Sem.events_pure, Result.evThen_ok]
    split <;> rfl
theorem zNx (c : Int) (h0 : 0 ≤ c) (h1 : c < 256) : zSx prog 180 [sV [72, 81, 87], .raw (.int .u8 c)] [] (iV (Lib.indexByte [72, 81, 87] c.toNat.toUInt8)) [] := by
 have hx := zIo ⟨[72, 81, 87].toArray⟩ c h0 h1
 simp only at hx
 generalize Lib.indexByte [72, 81, 87] c.toNat.toUInt8 = q at *
 refine z9 func180 rfl (fun E hE => ?_); simp only [go_sem, ntmps180]
 refine Qh rfl ?_
 refine R0 rfl ?_
 simp only [go_sem]
 (refine zTW rfl ?_; simp only [go_sem, *])
 refine R5 ?_
 repeat' (first | ((refine R0 rfl ?_)) | (refine Qr rfl ?_; try intro _ hK; try simp only [go_sem, *]) | refine Qh rfl ?_ | (refine Qc rfl rfl ?_ ?_ <;> (intro hb; have hc := hb; try simp only [go_sem] at hc)) | refine z8 rfl ?_ | ((with_reducible apply And.intro); focus omega) | (refine z7 hK ?_; clear hK; simp only [go_sem, *]) | simp only [z6, z5, go_sem, *])
 iterate 2 (refine zTW rfl ?_; simp only [go_sem, *])
 refine zQM rfl rfl rfl rfl hx ?_ ?_
 (focus (intro d h; cases h; simp only [go_sem, *]; try omega))
 simp only [go_sem, *]
 (refine zTW rfl ?_; simp only [go_sem, *])
 refine R5 ?_
 refine wk1 trivial ?_
 all_goals (refine ⟨[_], [], [], ⟨rfl, trivial⟩, ?_⟩; simp only [go_sem, *])
theorem zNw (c : Int) (h0 : 0 ≤ c) (h1 : c < 256) : zSx prog 153 [sV [72, 81, 87], .raw (.int .u8 c)] [] (iV (Lib.indexByte [72, 81, 87] c.toNat.toUInt8)) [] := by
 have s2 := zNx c h0 h1
 generalize Lib.indexByte [72, 81, 87] c.toNat.toUInt8 = q at *
 refine z9 func153 rfl (fun E hE => ?_); simp only [go_sem, ntmps153]
 refine wk1 s2 ?_
 all_goals (refine ⟨[_], [], [], ⟨rfl, trivial⟩, ?_⟩; simp only [go_sem, *])
theorem zNy (r : Int) (h0 : 0 ≤ r) (h1 : r < 128) : zSx prog 125 [sV [72, 81, 87], .raw (.int .i32 r)] [] (iV (Lib.indexByte [72, 81, 87] r.toNat.toUInt8)) [] := by
 have hw : IntKind.u8.wrap r = r := by rw [IntKind.wrap_u8]; omega
 have s2 := zNw r h0 (by omega)
 generalize Lib.indexByte [72, 81, 87] r.toNat.toUInt8 = q at *
 refine z9 func125 rfl (fun E hE => ?_); simp only [go_sem, ntmps125]
 refine wk1 s2 ?_
 all_goals first | omega | (refine ⟨[_], [], [], ⟨rfl, trivial⟩, ?_⟩; simp only [go_sem, *])
theorem zNv (r : Int) (h0 : 0 ≤ r) (h1 : r < 128) : zSx prog 98 [sV [72, 81, 87], .raw (.int .i32 r)] [] (bV (hqw r)) [] := by
 have s2 := zNy r h0 h1
 have he : hqw r = decide (0 ≤ Lib.indexByte [72, 81, 87] r.toNat.toUInt8) := rfl
 generalize Lib.indexByte [72, 81, 87] r.toNat.toUInt8 = q at *
 refine z9 func98 rfl (fun E hE => ?_); simp only [go_sem, ntmps98]
 refine wk1 s2 ?_
 all_goals (refine ⟨[_], [], [], ⟨rfl, trivial⟩, ?_⟩; simp only [go_sem, *])
theorem zDG (r : Int) : zSx prog 73 [.raw (.int .i32 r)] [] (iV (P5 r)) [] := by
 by_cases q : 65 ≤ r ∧ r ≤ 90
 ·have sh := zNv r (by omega) (by omega)
  have e := zKZ (r := r) (by omega) (by omega)
  generalize hqw r = b at *
  have e0 : b = decide (r = 72 ∨ r = 81 ∨ r = 87) := e
  clear e
  refine z9 func73 rfl (fun E hE => ?_); simp only [go_sem, ntmps73]
  repeat' (first | (refine Qr rfl ?_; try intro _ hK; try simp only [go_sem, *]) | (refine Qi rfl rfl rfl rfl ?_ ?_ <;> (intro hb; (try intro _ hK); have hc := hb; try simp only [go_sem] at hc; simp only [go_sem, *])) | refine Qh rfl ?_ | (refine Qc rfl rfl ?_ ?_ <;> (intro hb; have hc := hb; try simp only [go_sem] at hc)) | refine z8 rfl ?_ | (refine y5 (sh) ?_; simp only [go_sem, *]) | ((with_reducible apply And.intro); focus omega) | (refine z7 hK ?_; clear hK; simp only [go_sem, *]) | simp only [z6, z5, go_sem, *])
  all_goals (refine ⟨[_], [], [], ⟨rfl, trivial⟩, ?_⟩; simp only [go_sem, *])
  all_goals (refine S1 ?_; unfold P5; simp_all)
  all_goals omega
 ·refine z9 func73 rfl (fun E hE => ?_); simp only [go_sem, ntmps73]
  repeat' (first | (refine Qr rfl ?_; try intro _ hK; try simp only [go_sem, *]) | (refine Qi rfl rfl rfl rfl ?_ ?_ <;> (intro hb; (try intro _ hK); have hc := hb; try simp only [go_sem] at hc; simp only [go_sem, *])) | refine Qh rfl ?_ | (refine Qc rfl rfl ?_ ?_ <;> (intro hb; have hc := hb; try simp only [go_sem] at hc)) | refine z8 rfl ?_ | ((with_reducible apply And.intro); focus omega) | (refine z7 hK ?_; clear hK; simp only [go_sem, *]) | simp only [z6, z5, go_sem, *])
  all_goals try omega
  all_goals (refine ⟨[_], [], [], ⟨rfl, trivial⟩, ?_⟩; simp only [go_sem, *])
  all_goals (refine S1 ?_; unfold P5; simp_all)
  all_goals omega
end Go.Abs

namespace Go.Abs
open Go Go.Proofs Tryz
attribute [local irreducible] q9 Hold y2
variable [Cur]
theorem zLH : ((List.range 128).all fun n => n == 67 || n == 74 || n == 88 || n == 89 || decide (zT7 (UInt8.ofNat n) = o6 (UInt8.ofNat n))) = true := by kernel_rfl
theorem zLI {c : UInt8} (h : c.toNat < 128) (h1 : ¬ c.toNat = 67) (h2 : ¬ c.toNat = 74) (h3 : ¬ c.toNat = 88) (h4 : ¬ c.toNat = 89) : zT7 c = o6 c := by
 have := List.all_eq_true.1 zLH c.toNat (List.mem_range.2 h)
 simpa [h1, h2, h3, h4] using this
theorem zOC (c : UInt8) (h : c.toNat < 128) : zSx prog 101 [sV [c]] [] (sV (zT7 c)) [] := by
 unfold zT7
 split
 ·exact zOE c (by assumption)
 ·exact zOD c h (by assumption)
theorem zMn : o6 67 = [99, 104] := by decide
theorem zMo : o6 74 = [106, 117] := by decide
theorem zMp : o6 88 = [115, 104] := by decide
theorem zMq : o6 89 = [106, 97] := by decide
theorem zOV (c : UInt8) (h : c.toNat < 128) : zSx prog 78 [.raw (.int .i32 (c.toNat : Int))] [] (sV (o6 c)) [] := by
 have sl := zOC c h
 have ee := zIa (n := (c.toNat : Int)) (by omega) (by omega)
 rw [Int.toNat_natCast, UInt8.ofNat_toNat] at ee
 have hl := zLI h
 have k1 : c.toNat = 67 → o6 c = [99, 104] := fun e => by rw [UInt8.toNat_inj.1 (show c.toNat = (67 : UInt8).toNat from e), zMn]
 have k2 : c.toNat = 74 → o6 c = [106, 117] := fun e => by rw [UInt8.toNat_inj.1 (show c.toNat = (74 : UInt8).toNat from e), zMo]
 have k3 : c.toNat = 88 → o6 c = [115, 104] := fun e => by rw [UInt8.toNat_inj.1 (show c.toNat = (88 : UInt8).toNat from e), zMp]
 have k4 : c.toNat = 89 → o6 c = [106, 97] := fun e => by rw [UInt8.toNat_inj.1 (show c.toNat = (89 : UInt8).toNat from e), zMq]
 generalize c.toNat = n at *
 generalize o6 c = sb at *
 have fin : n < 128 → ¬ n = 67 → ¬ n = 74 → ¬ n = 88 → ¬ n = 89 → zT7 c = sb := fun _ => hl
 clear hl
 generalize zT7 c = lb at *
 generalize he : Utf8.encode (n : Int) = eb at *
 obtain ⟨ev, hev⟩ : ∃ v, v = Value.string eb := ⟨_, rfl⟩
 have sl2 : zSx prog 101 [.raw (.string eb)] [] (sV lb) [] := by rw [ee]; exact sl
 clear ee sl hev ev
 refine z9 func78 rfl (fun E hE => ?_); simp only [go_sem, ntmps78]
 repeat' (first | (refine Qr rfl ?_; try intro _ hK; try simp only [go_sem, *]) | refine Qh rfl ?_ | (refine Qc rfl rfl ?_ ?_ <;> (intro hb; have hc := hb; try simp only [go_sem] at hc)) | refine z8 rfl ?_ | (refine y5 (sl2) ?_; simp only [go_sem, *]) | ((with_reducible apply And.intro); focus omega) | (refine z7 hK ?_; clear hK; simp only [go_sem, *]) | simp only [z6, z5, go_sem, *])
 all_goals (refine ⟨[_], [], [], ⟨rfl, trivial⟩, ?_⟩; simp only [go_sem, *])
 ·rw [k1 (by omega)]
 ·rw [k2 (by omega)]
 ·rw [k4 (by omega)]
 ·rw [k3 (by omega)]
 ·rw [fin (by omega) (by omega) (by omega) (by omega) (by omega)]
end Go.Abs

namespace Go.Abs
open Go Go.Proofs Tryz
attribute [local irreducible] q9 Hold y2
variable [Cur]
theorem zF9 (s : Str) {i : Nat} (h : i < s.length) : P5 ((Utf8.decode ⟨s.toArray⟩ i).1 : Int) = u6 (s.getD i 0) ∧ (u6 (s.getD i 0) ≠ 0 → (Utf8.decode ⟨s.toArray⟩ i).2 = 1) := by
 by_cases q : (s.getD i 0).toNat < 128
 ·rw [zCF h q]
  exact ⟨zCh _, fun _ => rfl⟩
 ·have := zD7 h (by omega)
  rw [zFF (by omega), zFG (by omega)]
  exact ⟨rfl, fun h => absurd rfl h⟩
def NoQ (_ : Nat) : Prop := True
theorem zC9 (s : Str) : zSx prog 36 [sV s] [] (iV (s9 s)) [] := by
 have e0 : s.length = 0 → s9 s = 7 := fun h => by unfold s9; rw [if_pos h]
 have e1 : 6 < s.length → s9 s = 10 := fun h => by unfold s9; rw [if_neg (by omega), if_pos h]
 have e2 : 0 < s.length → s.length ≤ 6 → s9 s = if Y0 s = true then 0 else 2 := fun h h' => by unfold s9; rw [if_neg (by omega), if_neg (by omega)]
 refine z9 func36 rfl (fun E hE => ?_); simp only [go_sem, ntmps36]
 repeat' (first | (refine Qr rfl ?_; try intro _ hK; try simp only [go_sem, *]) | (refine Qi rfl rfl rfl rfl ?_ ?_ <;> (intro hb; (try intro _ hK); have hc := hb; try simp only [go_sem] at hc; simp only [go_sem, *])) | refine Qh rfl ?_ | (refine Qc rfl rfl ?_ ?_ <;> (intro hb; have hc := hb; try simp only [go_sem] at hc)) | refine z8 rfl ?_ | ((with_reducible apply And.intro); focus omega) | (refine z7 hK ?_; clear hK; simp only [go_sem, *]) | simp only [z6, z5, go_sem, *])
 ·(refine ⟨[_], [], [], ⟨rfl, trivial⟩, ?_⟩; simp only [go_sem, *])
  rw [e0 (by omega)]
 ·(refine ⟨[_], [], [], ⟨rfl, trivial⟩, ?_⟩; simp only [go_sem, *])
  rw [e1 (by omega)]
 ·have e3 := e2 (by omega) (by omega)
  have h0 : 0 < s.length := by omega
  have h6 : s.length ≤ 6 := by omega
  clear e0 e1 e2
  refine Q7 rfl (s.length) (fun i (k : Int) => FormTo s i k) 30 (fun i k => [(14, .ptr 0 0), (3, iV k)]) (fun i k => [.siter ⟨s.toArray⟩ i]) [some 0] [] (0) (by exact .inl ⟨rfl, rfl⟩) ?_; intro i k hi hP
  by_cases hi2 : i < s.length
  ·obtain ⟨r1, r2⟩ := zF9 s hi2
   have hbad := hP.bad hi2
   have hnext := hP.next
   have sk := zDG ((Utf8.decode ⟨s.toArray⟩ i).1 : Int)
   rw [r1] at sk
   generalize hde : Utf8.decode ⟨s.toArray⟩ i = d at *
   obtain ⟨d1, d2⟩ := d
   simp only at r2 sk
   clear r1 hP
   generalize u6 (s.getD i 0) = kb at *
   repeat' (first | (refine Qr rfl ?_; try intro _ hK; try simp only [go_sem, *]) | (refine Qi rfl rfl rfl rfl ?_ ?_ <;> (intro hb; (try intro _ hK); have hc := hb; try simp only [go_sem] at hc; simp only [go_sem, *])) | refine Qh rfl ?_ | (refine Qc rfl rfl ?_ ?_ <;> (intro hb; have hc := hb; try simp only [go_sem] at hc)) | refine z8 rfl ?_ | (refine y5 (sk) ?_; simp only [go_sem, *]) | ((with_reducible apply And.intro); focus omega) | (refine z7 hK ?_; clear hK; simp only [go_sem, *]) | simp only [z6, z5, go_sem, *])
   all_goals first | (exact t7 (i' := i + 1) [some 0] [] (kb) (by exact hnext (by assumption) (by first | (left; assumption) | (right; omega)))) | (focus ((refine ⟨[_], [], [], ⟨rfl, trivial⟩, ?_⟩; simp only [go_sem, *]); done))
  ·have hf := hP.end (by omega) h0
   rw [if_pos hf] at e3
   clear hP
   refine wk1 trivial ?_
   (refine ⟨[_], [], [], ⟨rfl, trivial⟩, ?_⟩; simp only [go_sem, *])
theorem zKr {s : Str} {i : Nat} (h : i < s.length) : zS0 (s.take (i + 1)) = zS0 (s.take i) ++ o6 (s.getD i 0) := by
 rw [List.take_succ_eq_append_getElem h, zS0, List.flatMap_append]
 simp [zS0, List.getD, h]
@[go_sem] theorem zRX : zS0 [] = [] := rfl
theorem zKq (s : Str) (i : Nat) : (zS0 (s.take i)).length ≤ 2 * s.length := by
 have h1 := (zCf (s.take i)).2
 simp at h1
 omega
theorem zLT {s : Str} (v : Y0 s = true) {i : Nat} (h : i < s.length) : (s.getD i 0).toNat < 128 := by
 apply zKu
 have hm : s.getD i 0 ∈ s := by simp [List.getD, h]
 unfold Y0 at v
 rw [Bool.or_eq_true, List.all_eq_true, List.all_eq_true] at v
 rcases v with v | v
 ·rw [latin_kind.1 (v _ hm)]; decide
 ·rw [other_kind.1 (v _ hm)]; decide
theorem zBh (s : Str) (v : Y0 s = true) (hl : s.length ≤ 1000) : zSx prog 37 [sV s] [] (sV (zS0 s)) [] := by
 refine z9 func37 rfl (fun E hE => ?_); simp only [go_sem, ntmps37]
 refine wk1 trivial ?_
 refine y9 rfl (s.length) (fun i => NoQ i) 16 (fun i => [(7, .ptr 0 0), (3, sV (zS0 (s.take i)))]) (fun i => [.siter ⟨s.toArray⟩ i]) [some 0] [] (by trivial) ?_; intro i hi hP
 have hk2 := zKq s i
 by_cases hi2 : i < s.length
 ·have ha := zLT v hi2
  have hd := zCF hi2 ha
  have ss := zOV _ ha
  have hs2 := (zGF (s.getD i 0)).2
  have hkt := zKr hi2
  generalize o6 (s.getD i 0) = sb at *
  generalize zS0 (s.take i) = kt at *
  refine wk1 ss ?_
  exact y3 (i' := i + 1) [some 0] [] (by trivial)
 ·have e : s.take i = s := List.take_of_length_le (by omega)
  rw [e]
  clear hk2
  refine wk1 trivial ?_
  (refine ⟨[_], [], [], ⟨rfl, trivial⟩, ?_⟩; simp only [go_sem, *])
end Go.Abs

namespace Go.Abs
open Go Go.Proofs Tryz
attribute [local irreducible] q9 Hold y2
variable [Cur]
abbrev fnV (f : FuncId) : AV := .raw (.func (.func f) #[] #[])
abbrev o5 (l : List Str) : AV := .list (l.map sV)
theorem zLU {l : List Str} {i : Nat} (h : i < l.length) : Z9 (l.drop i) = if s9 (l.getD i default) = 0 then Z9 (l.drop (i + 1)) else s9 (l.getD i default) := by
 rw [u4 h, Z9]
theorem zGL (l : List Str) (hl : l.length ≤ 4294967296) : zSx prog 71 [o5 l] [] (iV (Z9 l)) [] := by
 refine z9 func71 rfl (fun E hE => ?_); simp only [go_sem, ntmps71]
 refine wk1 trivial ?_
 refine y9 rfl (l.length) (fun i => Z9 (l.drop i) = Z9 l) 18 (fun i => [(8, iV i), (7, iV l.length), (6, o5 l)]) (fun i => []) [] [] (by simp) ?_; intro i hi hP
 by_cases hi2 : i < l.length
 ·have hs := zLU hi2
  have sc := zC9 (l.getD i default)
  by_cases q : s9 (l.getD i default) = 0
  ·rw [if_pos q] at hs
   rw [q] at sc
   refine wk1 sc ?_
   exact y3 (i' := i + 1) [] [] (by rw [← hP, hs])
  ·rw [if_neg q] at hs
   rw [hs] at hP
   generalize s9 (l.getD i default) = e at *
   subst hP
   refine wk1 sc ?_
   (refine ⟨[_], [], [], ⟨rfl, trivial⟩, ?_⟩; simp only [go_sem, *])
 ·have e : Z9 l = 0 := by rw [← hP, l5 (by omega)]; rfl
  rw [e]
  refine wk1 trivial ?_
  (refine ⟨[_], [], [], ⟨rfl, trivial⟩, ?_⟩; simp only [go_sem, *])
theorem zGV (s : Str) (h : 0 < s.length) : zSx prog 72 [sV s] [] (iV (Q1 s)) [] := by
 have sk := zDG ((s.getD 0 0).toNat : Int)
 rw [zCh] at sk
 have hw : IntKind.i32.wrap ((s.getD 0 0).toNat : Int) = ((s.getD 0 0).toNat : Int) := by
  have := (s.getD 0 0).toNat_lt
  rw [IntKind.wrap_i32]; omega
 have e : Q1 s = u6 (s.getD 0 0) := rfl
 rw [e]
 generalize u6 (s.getD 0 0) = k at *
 refine z9 func72 rfl (fun E hE => ?_); simp only [go_sem, ntmps72]
 refine wk1 sk ?_
 (refine ⟨[_], [], [], ⟨rfl, trivial⟩, ?_⟩; simp only [go_sem, *])
theorem zNk (a b : Str) (va : ValidN a) (vb : ValidN b) : zSx prog 33 [sV a, sV b] [] (iV (X9 a b)) [] := by
 have sa := zBh a va.form (by have := va.len; omega)
 have sb := zBh b vb.form (by have := vb.len; omega)
 have ta := zGV a va.ne
 have tb := zGV b vb.ne
 have e : X9 a b = orI (zS5 (zS0 a) (zS0 b)) (zTG (Q1 a) (Q1 b)) := rfl
 have s1 := zMy (zS0 a) (zS0 b)
 have s2 := zMw (Q1 a) (Q1 b)
 have so := zNL [zS5 (zS0 a) (zS0 b), zTG (Q1 a) (Q1 b)] (by simp)
 rw [zLi] at so
 rw [e]
 generalize orI (zS5 (zS0 a) (zS0 b)) (zTG (Q1 a) (Q1 b)) = r at *
 generalize zS5 (zS0 a) (zS0 b) = r1 at *
 generalize zTG (Q1 a) (Q1 b) = r2 at *
 generalize zS0 a = ka at *
 generalize zS0 b = kb at *
 generalize Q1 a = ja at *
 generalize Q1 b = jb at *
 clear e va vb
 refine z9 func33 rfl (fun E hE => ?_); simp only [go_sem, ntmps33]
 repeat' (first | (refine Qr rfl ?_; try intro _ hK; try simp only [go_sem, *]) | refine Qh rfl ?_ | (refine Qc rfl rfl ?_ ?_ <;> (intro hb; have hc := hb; try simp only [go_sem] at hc)) | refine z8 rfl ?_ | ((first | refine y5 (s1) ?_ | refine y5 (s2) ?_); simp only [go_sem, *]) | (refine r7 (sa) ?_ ?_; (focus (simp only [go_sem, *]; done)); simp only [go_sem, *]) | (refine r7 (sb) ?_ ?_; (focus (simp only [go_sem, *]; done)); simp only [go_sem, *]) | (refine r7 (ta) ?_ ?_; (focus (simp only [go_sem, *]; done)); simp only [go_sem, *]) | (refine r7 (tb) ?_ ?_; (focus (simp only [go_sem, *]; done)); simp only [go_sem, *]) | ((with_reducible apply And.intro); focus omega) | (refine z7 hK ?_; clear hK; simp only [go_sem, *]) | simp only [z6, z5, go_sem, *])
 (refine V0 [0] (so) (by simp only [go_sem, *]) (.raw _) ?_; simp only [go_sem, *])
 repeat' (first | (refine Qr rfl ?_; try intro _ hK; try simp only [go_sem, *]) | refine Qh rfl ?_ | (refine Qc rfl rfl ?_ ?_ <;> (intro hb; have hc := hb; try simp only [go_sem] at hc)) | refine z8 rfl ?_ | ((with_reducible apply And.intro); focus omega) | (refine z7 hK ?_; clear hK; simp only [go_sem, *]) | simp only [z6, z5, go_sem, *])
 (refine ⟨[_], [], [], ⟨rfl, trivial⟩, ?_⟩; simp only [go_sem, *])
theorem zCw (a b : Str) : Z9 [a, b] = if s9 a = 0 then s9 b else s9 a := by
 unfold Z9
 split
 ·unfold Z9
  split
  ·rename_i h; rw [h]; rfl
  ·rfl
 ·rfl
def M8 (a b : Str) : Int := Z9 [a, b]
theorem zNH (a b : Str) : zSx prog 48 [sV a, sV b] [] (.tup [iV (if M8 a b = 0 then X9 a b else 0), iV (M8 a b)]) [] := by
  have sc : zSx prog 71 [.list [sV a, sV b]] [] (iV (M8 a b)) [] := zGL [a, b] (by simp)
  by_cases q : M8 a b = 0
  · have hv : ValidN a ∧ ValidN b := by
      unfold M8 at q
      rw [zCw] at q
      by_cases h : s9 a = 0
      · rw [if_pos h] at q; exact ⟨checkN_zero.1 h, checkN_zero.1 q⟩
      · rw [if_neg h] at q; exact absurd q h
    have s1 := zNk a b hv.1 hv.2
    rw [if_pos q]
    rw [q] at sc ⊢
    clear hv q
    generalize X9 a b = r at *
    refine z9 func48 rfl (fun E hE => ?_); simp only [go_sem, ntmps48]
    repeat' (first | (refine Qr rfl ?_; try intro _ hK; try simp only [go_sem, *]) | refine Qh rfl ?_ | (refine Qc rfl rfl ?_ ?_ <;> (intro hb; have hc := hb; try simp only [go_sem] at hc)) | refine z8 rfl ?_ | ((with_reducible apply And.intro); focus omega) | (refine z7 hK ?_; clear hK; simp only [go_sem, *]) | simp only [z6, z5, go_sem, *])
    (refine V0 [0] (sc) (by simp only [go_sem, *]) (.raw _) ?_; simp only [go_sem, *])
    repeat' (first | (refine Qr rfl ?_; try intro _ hK; try simp only [go_sem, *]) | refine Qh rfl ?_ | (refine Qc rfl rfl ?_ ?_ <;> (intro hb; have hc := hb; try simp only [go_sem] at hc)) | refine z8 rfl ?_ | (refine y5 (s1) ?_; simp only [go_sem, *]) | ((with_reducible apply And.intro); focus omega) | (refine z7 hK ?_; clear hK; simp only [go_sem, *]) | simp only [z6, z5, go_sem, *])
    all_goals try contradiction
    (refine ⟨[_, _], [], [], ⟨rfl, rfl, trivial⟩, ?_⟩; simp only [go_sem, *])
  · rw [if_neg q]
    generalize M8 a b = e at *
    refine z9 func48 rfl (fun E hE => ?_); simp only [go_sem, ntmps48]
    repeat' (first | (refine Qr rfl ?_; try intro _ hK; try simp only [go_sem, *]) | refine Qh rfl ?_ | (refine Qc rfl rfl ?_ ?_ <;> (intro hb; have hc := hb; try simp only [go_sem] at hc)) | refine z8 rfl ?_ | ((with_reducible apply And.intro); focus omega) | (refine z7 hK ?_; clear hK; simp only [go_sem, *]) | simp only [z6, z5, go_sem, *])
    (refine V0 [0] (sc) (by simp only [go_sem, *]) (.raw _) ?_; simp only [go_sem, *])
    repeat' (first | (refine Qr rfl ?_; try intro _ hK; try simp only [go_sem, *]) | refine Qh rfl ?_ | (refine Qc rfl rfl ?_ ?_ <;> (intro hb; have hc := hb; try simp only [go_sem] at hc)) | refine z8 rfl ?_ | ((with_reducible apply And.intro); focus omega) | (refine z7 hK ?_; clear hK; simp only [go_sem, *]) | simp only [z6, z5, go_sem, *])
    all_goals try contradiction
    (refine ⟨[_, _], [], [], ⟨rfl, rfl, trivial⟩, ?_⟩; simp only [go_sem, *])
end Go.Abs

namespace Go.Abs
open Go Go.Proofs Tryz
variable [Cur]
end Go.Abs

namespace Go.Abs
open Go Go.Proofs Tryz
variable [Cur]
end Go.Abs

namespace Go.Abs
open Go Go.Proofs Tryz
variable [Cur]
attribute [go_sem] List.length_range
end Go.Abs

namespace Go.Abs
open Go Go.Proofs Tryz
attribute [local irreducible] q9 Hold y2
variable [Cur]
theorem zOB (r : Int) : zSx prog 135 [.raw (.int .i32 r)] [] (bV (P5 r != 1)) [] := by
 have sk := zDG r
 generalize P5 r = k at *
 refine z9 func135 rfl (fun E hE => ?_); simp only [go_sem, ntmps135]
 refine wk1 sk ?_
 (refine ⟨[_], [], [], ⟨rfl, trivial⟩, ?_⟩; simp only [go_sem, *])
theorem zNz (s : Str) (hl : s.length ≤ 4294967296) : ∃ n : Int, (0 ≤ n ↔ s.all w6 = false) ∧ zSx prog 186 [sV s, fnV 135, bV true] [] (iV n) [] := by
  have hca : t6 prog 135 = true := by kernel_rfl
  obtain ⟨k, hk⟩ : ∃ k : Nat, k = (s.takeWhile w6).length := ⟨_, rfl⟩
  have hkl : k ≤ s.length := by rw [hk]; exact (List.takeWhile_sublist _).length_le
  have hin : ∀ i, i < k → w6 (s.getD i 0) = true := fun i hi => by
    have h1 : i < (s.takeWhile w6).length := by omega
    have h2 := List.all_eq_true.1 (List.all_takeWhile (p := w6) (l := s)) _ (List.getElem_mem h1)
    have h3 : (s.takeWhile w6)[i] = s[i]'(by omega) := List.IsPrefix.getElem (List.takeWhile_prefix _) h1
    rw [h3] at h2
    simpa [List.getD, show i < s.length by omega] using h2
  have hout : k < s.length → w6 (s.getD k 0) = false := fun h => by
    have h1 : s.dropWhile w6 ≠ [] := fun e => by
      have := congrArg List.length (List.takeWhile_append_dropWhile (p := w6) (l := s))
      rw [List.length_append, e] at this
      simp at this; omega
    have h2 := List.head_dropWhile_not (p := w6) h1
    have h3 : (s.dropWhile w6).head h1 = s.getD k 0 := by
      have h4 : s = s.takeWhile w6 ++ s.dropWhile w6 := (List.takeWhile_append_dropWhile).symm
      have h5 : s.getD k 0 = (s.takeWhile w6 ++ s.dropWhile w6).getD k 0 := by rw [← h4]
      rw [h5, hk]
      generalize s.takeWhile w6 = tw
      generalize s.dropWhile w6 = dw at h1
      cases dw with
      | nil => exact absurd rfl h1
      | cons a r => simp
    rw [h3] at h2
    exact h2
  refine ⟨if k < s.length then (k : Int) else -1, ?_, ?_⟩
  · by_cases h : k < s.length
    · rw [if_pos h]
      refine ⟨fun _ => ?_, fun _ => by omega⟩
      rw [List.all_eq_false]
      refine ⟨s.getD k 0, ?_, by rw [hout h]; simp⟩
      simp [List.getD, h]
    · rw [if_neg h]
      refine ⟨fun h => by omega, fun hf => ?_⟩
      rw [List.all_eq_false] at hf
      obtain ⟨x, hx, hn⟩ := hf
      obtain ⟨i, hi, rfl⟩ := List.getElem_of_mem hx
      have := hin i (by omega)
      rw [show s.getD i 0 = s[i] by simp [List.getD, hi]] at this
      exact absurd this hn
  · have hwv : ∀ i, i < s.length → (i < k → u6 (s.getD i 0) = 1) ∧ (i = k → u6 (s.getD i 0) ≠ 1) := fun i hi => ⟨fun h => latin_kind.1 (hin i h), fun h => by
      subst h
      intro e
      have := latin_kind.2 e
      rw [hout hi] at this; cases this⟩
    clear hk hin hout
    refine z9 func186 rfl (fun E hE => ?_); simp only [go_sem, ntmps186]
    refine wk1 trivial ?_
    refine y9 rfl (s.length) (fun i => i ≤ k) 21 (fun i => [(10, .ptr 0 0), (1, fnV 135), (2, bV true)]) (fun i => [.siter ⟨s.toArray⟩ i]) [some 0] [] (by omega) ?_; intro i hi hP
    by_cases hi2 : i < s.length
    · obtain ⟨r1, r2⟩ := zF9 s hi2
      obtain ⟨w1, w2⟩ := hwv i hi2
      have sk := zOB ((Utf8.decode ⟨s.toArray⟩ i).1 : Int)
      rw [r1] at sk
      generalize hde : Utf8.decode ⟨s.toArray⟩ i = d at *
      obtain ⟨d1, d2⟩ := d
      simp only at r2 sk
      clear r1 hwv
      by_cases hik : i < k
      · have e1 := w1 hik
        rw [e1] at sk r2
        have e2 := r2 (by decide)
        subst e2
        have e3 : ((1 : Int) != 1) = false := by decide
        rw [e3] at sk
        clear r2 w1 w2 e1 e3
        refine wk1 sk ?_
        exact y3 (i' := i + 1) [some 0] [] (by omega)
      · have e1 := w2 (by omega)
        have e3 : (u6 (s.getD i 0) != 1) = true := by simpa using e1
        rw [e3] at sk
        have e4 : k < s.length := by omega
        have e5 : i = k := by omega
        rw [if_pos e4]
        subst e5
        clear r2 w1 w2 e1 e3
        refine wk1 sk ?_
        (refine ⟨[_], [], [], ⟨rfl, trivial⟩, ?_⟩; simp only [go_sem, *])
    · have e4 : ¬ k < s.length := by omega
      rw [if_neg e4]
      clear hwv
      refine wk1 trivial ?_
      (refine ⟨[_], [], [], ⟨rfl, trivial⟩, ?_⟩; simp only [go_sem, *])
theorem zNA (s : Str) (hl : s.length ≤ 4294967296) : ∃ n : Int, (0 ≤ n ↔ s.all w6 = false) ∧ zSx prog 165 [sV s, fnV 135] [] (iV n) [] := by
 obtain ⟨n, hn, si⟩ := zNz s hl
 refine ⟨n, hn, ?_⟩
 clear hn
 refine z9 func165 rfl (fun E hE => ?_); simp only [go_sem, ntmps165]
 refine wk1 si ?_
 (refine ⟨[_], [], [], ⟨rfl, trivial⟩, ?_⟩; simp only [go_sem, *])
theorem zM0 (s : Str) (hl : s.length ≤ 4294967296) : zSx prog 134 [sV s, fnV 135] [] (bV (!s.all w6)) [] := by
 obtain ⟨n, hn, si⟩ := zNA s hl
 have e : (!s.all w6) = decide (n ≥ 0) := by
  rw [Bool.eq_iff_iff, Bool.not_eq_true', decide_eq_true_eq]; exact hn.symm
 rw [e]
 clear hn e
 refine z9 func134 rfl (fun E hE => ?_); simp only [go_sem, ntmps134]
 refine wk1 si ?_
 (refine ⟨[_], [], [], ⟨rfl, trivial⟩, ?_⟩; simp only [go_sem, *])
theorem zDH (s : Str) (lo hi : Nat) (hl : s.length ≤ 4294967296) : zSx prog 107 [sV s, iV lo, iV hi] [] (bV (v7 s lo hi)) [] := by
 have sc := zM0 s hl
 have e : v7 s lo hi = (decide ((lo : Int) ≤ s.length) && (decide ((s.length : Int) ≤ hi) && s.all w6)) := by unfold v7; simp
 rw [e]
 generalize s.all w6 = b at *
 clear e
 refine z9 func107 rfl (fun E hE => ?_); simp only [go_sem, ntmps107]
 refine wk3 sc ?_ ?_ ?_
 all_goals (refine ⟨[_], [], [], ⟨rfl, trivial⟩, ?_⟩; simp only [go_sem, *])
 all_goals simp_all
end Go.Abs

namespace Go.Abs
open Go Go.Proofs Tryz
attribute [local irreducible] q9 Hold y2
variable [Cur]
abbrev x5 (l : List Rule) : AV := .list (l.map Rule.enc)
attribute [go_sem] Rule.enc
theorem zMF {l : List Rule} {i : Nat} (h : i < l.length) : (l.drop i).all Rule.ok = ((l.getD i default).ok && (l.drop (i + 1)).all Rule.ok) := by
 rw [u4 h, List.all_cons]
theorem zL7 (r : Rule) : r.ok = (v7 r.src 1 2 && (v7 r.dst 0 2 && !(r.src == r.dst))) := by
 unfold Rule.ok
 rw [Bool.eq_iff_iff]
 simp
theorem zOQ (l : List Rule) (hl : l.length ≤ 4294967296) (hr : ∀ r, r ∈ l → r.src.length ≤ 4294967296 ∧ r.dst.length ≤ 4294967296) : zSx prog 166 [x5 l] [] (iV (r9 l)) [] := by
 have e0 : 4 < l.length → r9 l = 6 := fun h => by unfold r9; rw [if_pos h]
 have e1 : l.length ≤ 4 → r9 l = if l.all Rule.ok = true then 0 else 2 := fun h => by unfold r9; rw [if_neg (by omega)]
 generalize r9 l = re at *
 refine z9 func166 rfl (fun E hE => ?_); simp only [go_sem, ntmps166]
 repeat' (first | (refine Qr rfl ?_; try intro _ hK; try simp only [go_sem, *]) | (refine Qi rfl rfl rfl rfl ?_ ?_ <;> (intro hb; (try intro _ hK); have hc := hb; try simp only [go_sem] at hc; simp only [go_sem, *])) | refine Qh rfl ?_ | (refine Qc rfl rfl ?_ ?_ <;> (intro hb; have hc := hb; try simp only [go_sem] at hc)) | refine z8 rfl ?_ | ((with_reducible apply And.intro); focus omega) | (refine z7 hK ?_; clear hK; simp only [go_sem, *]) | simp only [z6, z5, go_sem, *])
 ·(refine ⟨[_], [], [], ⟨rfl, trivial⟩, ?_⟩; simp only [go_sem, *])
  rw [e0 (by omega)]
 ·have e2 := e1 (by omega)
  rw [e2]
  clear e0 e1 e2
  refine y9 rfl (l.length) (fun i => (l.drop i).all Rule.ok = l.all Rule.ok) 32 (fun i => [(10, iV i), (9, iV l.length), (8, x5 l)]) (fun i => []) [] [] (by simp) ?_; intro i hi hP
  by_cases hi2 : i < l.length
  ·have hs := zMF hi2
   rw [zL7] at hs
   have hrl := hr _ (j9 hi2)
   have s1 := zDH (l.getD i default).src 1 2 hrl.1
   have s2 := zDH (l.getD i default).dst 0 2 hrl.2
   generalize v7 (l.getD i default).src 1 2 = b1 at *
   generalize v7 (l.getD i default).dst 0 2 = b2 at *
   clear hrl hr
   rw [hs] at hP
   cases b1 with
   | false =>
    rw [← hP]
    clear hP hs s2
    refine wk1 s1 ?_
    (refine ⟨[_], [], [], ⟨rfl, trivial⟩, ?_⟩; simp only [go_sem, *])
   | true =>
    cases b2 with
    | false =>
     rw [← hP]
     clear hP hs
     refine wk1 (cc s1 s2) ?_
     (refine ⟨[_], [], [], ⟨rfl, trivial⟩, ?_⟩; simp only [go_sem, *])
    | true =>
     generalize hb3 : ((l.getD i default).src == (l.getD i default).dst) = b3 at *
     cases b3 with
     | true =>
      rw [← hP]
      clear hP hs
      refine wk1 (cc s1 s2) ?_
      (refine ⟨[_], [], [], ⟨rfl, trivial⟩, ?_⟩; simp only [go_sem, *])
     | false =>
      simp only [Bool.true_and, Bool.not_false] at hP
      clear hs
      refine wk1 (cc s1 s2) ?_
      exact y3 (i' := i + 1) [] [] (by exact hP)
  ·have e : l.all Rule.ok = true := by rw [← hP, l5 (by omega)]; rfl
   rw [if_pos e]
   clear hP e
   refine wk1 trivial ?_
   (refine ⟨[_], [], [], ⟨rfl, trivial⟩, ?_⟩; simp only [go_sem, *])
theorem zM9 (s p : Str) (h1 : s.length ≤ 4294967296) (h2 : p.length ≤ 4294967296) : zSx prog 139 [sV s, sV p] [] (bV (p.isPrefixOf s)) [] := by
 have e : p.isPrefixOf s = (decide (p.length ≤ s.length) && (s.take p.length == p)) := by
  rw [Bool.eq_iff_iff, List.isPrefixOf_iff_prefix, Bool.and_eq_true, decide_eq_true_eq, beq_iff_eq, List.prefix_iff_eq_take]
  constructor
  ·intro h
   refine ⟨?_, h.symm⟩
   have := congrArg List.length h
   simp at this; omega
  ·rintro ⟨_, h⟩; exact h.symm
 rw [e]
 clear e
 refine z9 func139 rfl (fun E hE => ?_); simp only [go_sem, ntmps139]
 refine wk2 trivial ?_ ?_
 all_goals (refine ⟨[_], [], [], ⟨rfl, trivial⟩, ?_⟩; simp only [go_sem, *])
 all_goals simp_all
theorem zM8 (s p : Str) (h1 : s.length ≤ 4294967296) (h2 : p.length ≤ 4294967296) : zSx prog 248 [sV s, sV p] [] (bV (p.isPrefixOf s)) [] := by
 have s1 := zM9 s p h1 h2
 generalize p.isPrefixOf s = b at *
 refine z9 func248 rfl (fun E hE => ?_); simp only [go_sem, ntmps248]
 refine wk1 s1 ?_
 (refine ⟨[_], [], [], ⟨rfl, trivial⟩, ?_⟩; simp only [go_sem, *])
theorem zIF {x y : List Str} {i : Nat} (h1 : i < x.length) (h2 : i < y.length) : zS1 (x.drop i) (y.drop i) = if zS5 (x.getD i default) (y.getD i default) = 0 then zS1 (x.drop (i + 1)) (y.drop (i + 1)) else zS5 (x.getD i default) (y.getD i default) := by
 rw [u4 h1, u4 h2, zS1]
theorem zIE {x y : List Str} {i : Nat} (h1 : i < x.length) (h2 : y.length ≤ i) : zS1 (x.drop i) (y.drop i) = 1 := by
 rw [u4 h1, l5 h2, zS1]
theorem zID {x y : List Str} {i : Nat} (h1 : x.length ≤ i) : zS1 (x.drop i) (y.drop i) = if i < y.length then -1 else 0 := by
 rw [l5 h1]
 by_cases h2 : i < y.length
 ·rw [u4 h2, zS1, if_pos h2]
 ·rw [l5 (by omega), zS1, if_neg h2]
theorem zMx (x y : List Str) (h1 : x.length ≤ 4294967296) (h2 : y.length ≤ 4294967296) : zSx prog 189 [o5 x, o5 y] [] (iV (zS1 x y)) [] := by
 refine z9 func189 rfl (fun E hE => ?_); simp only [go_sem, ntmps189]
 refine wk1 trivial ?_
 refine y9 rfl (x.length) (fun i => zS1 (x.drop i) (y.drop i) = zS1 x y ∧ i ≤ y.length) 36 (fun i => [(11, iV i), (10, iV x.length), (9, o5 x), (0, o5 x), (1, o5 y)]) (fun i => []) [] [] (by simp) ?_; intro i hi hP
 obtain ⟨hP, hiy⟩ := hP
 by_cases hi2 : i < x.length
 ·by_cases hi3 : i < y.length
  ·have hs := zIF hi2 hi3
   have sc := zMz (x.getD i default) (y.getD i default)
   rw [hs] at hP
   clear hs
   have gi : ¬ ((i : Int) ≥ (y.length : Int)) := by omega
   by_cases q : zS5 (x.getD i default) (y.getD i default) = 0
   ·rw [if_pos q] at hP
    rw [q] at sc
    refine wk1 sc ?_
    all_goals first | contradiction | omega | skip
    exact y3 (i' := i + 1) [] [] (by exact ⟨hP, by omega⟩)
   ·rw [if_neg q] at hP
    generalize zS5 (x.getD i default) (y.getD i default) = c at *
    rw [← hP]
    clear hP
    refine wk1 sc ?_
    all_goals first | contradiction | omega | skip
    (refine ⟨[_], [], [], ⟨rfl, trivial⟩, ?_⟩; simp only [go_sem, *])
  ·rw [zIE hi2 (by omega)] at hP
   rw [← hP]
   clear hP
   refine wk1 trivial ?_
   all_goals first | contradiction | omega | skip
   (refine ⟨[_], [], [], ⟨rfl, trivial⟩, ?_⟩; simp only [go_sem, *])
 ·have hix : i = x.length := by omega
  subst hix
  rw [zID (Nat.le_refl _)] at hP
  by_cases hxy : x.length < y.length
  ·rw [if_pos hxy] at hP
   rw [← hP]
   clear hP
   refine wk1 trivial ?_
   all_goals first | contradiction | omega | skip
   (refine ⟨[_], [], [], ⟨rfl, trivial⟩, ?_⟩; simp only [go_sem, *])
  ·rw [if_neg hxy] at hP
   rw [← hP]
   clear hP
   refine wk1 trivial ?_
   all_goals first | contradiction | omega | skip
   (refine ⟨[_], [], [], ⟨rfl, trivial⟩, ?_⟩; simp only [go_sem, *])
end Go.Abs

namespace Go.Abs
open Go Go.Proofs Tryz
attribute [local irreducible] q9 Hold y2
variable [Cur]
section
variable {α : Type} {a b : List α} {i : Nat}
theorem zPg (ha : a.length ≤ i) (hl : a.length = b.length) (h : a.take i = b.take i) : a = b := by
 rwa [List.take_of_length_le ha, List.take_of_length_le (by omega)] at h
variable [Inhabited α]
theorem zDV {l : List α} (h : i < l.length) : l.take (i + 1) = l.take i ++ [l.getD i default] := by
 rw [List.take_add_one]; simp [List.getD, h]
theorem zPh (ha : i < a.length) (hb : i < b.length) (h : a.take i = b.take i) (e : a.getD i default = b.getD i default) : a.take (i + 1) = b.take (i + 1) := by
 rw [zDV ha, zDV hb, h, e]
theorem zPi (e : ¬ a.getD i default = b.getD i default) : ¬ a = b := fun h => e (by rw [h])
end
theorem zK6 {α : Type} {a b : List α} (h : ¬ a.length = b.length) : ¬ a = b := fun e => h (by rw [e])
theorem zM5 (a b : List Int) (h1 : a.length ≤ 4294967296) : zSx prog 49 [I9 a, I9 b] [] (bV (decide (a = b))) [] := by
 refine z9 func49 rfl (fun E hE => ?_); simp only [go_sem, ntmps49]
 repeat' (first | (refine Qr rfl ?_; try intro _ hK; try simp only [go_sem, *]) | refine Qh rfl ?_ | refine Qd rfl (by kernel_rfl) ?_ | (refine Qc rfl rfl ?_ ?_ <;> (intro hb; have hc := hb; try simp only [go_sem] at hc)) | refine z8 rfl ?_ | (refine Qb ?_ ?_; focus kernel_rfl) | ((with_reducible apply And.intro); focus omega) | (refine z7 hK ?_; clear hK; simp only [go_sem, *]) | simp only [z6, z5, go_sem, *])
 ·(refine ⟨[_], [], [], ⟨rfl, trivial⟩, ?_⟩; simp only [go_sem, *])
  simp [zK6 (a := a) (b := b) (by omega)]
 ·have hlb : a.length = b.length := by omega
  refine y9 rfl (b.length) (fun i => a.take i = b.take i) 26 (fun i => [(5, iV i), (0, I9 a), (1, I9 b)]) (fun i => []) [] [] (by simp) ?_; intro i hi hP
  repeat' (first | (refine Qr rfl ?_; try intro _ hK; try simp only [go_sem, *]) | refine Qh rfl ?_ | refine Qd rfl (by kernel_rfl) ?_ | (refine Qc rfl rfl ?_ ?_ <;> (intro hb; have hc := hb; try simp only [go_sem] at hc)) | refine z8 rfl ?_ | (refine Qb ?_ ?_; focus kernel_rfl) | ((with_reducible apply And.intro); focus omega) | (refine z7 hK ?_; clear hK; simp only [go_sem, *]) | simp only [z6, z5, go_sem, *])
  ·(refine ⟨[_], [], [], ⟨rfl, trivial⟩, ?_⟩; simp only [go_sem, *])
   simp [zPi (a := a) (b := b) (i := i) (by assumption)]
  ·exact y3 (i' := i + 1) [] [] (by exact zPh (by omega) (by omega) hP (by assumption))
  ·(refine ⟨[_], [], [], ⟨rfl, trivial⟩, ?_⟩; simp only [go_sem, *])
   simp [zPg (by omega) hlb hP]
theorem zBe (d : Dice) (ws : List Str) (h : d.list.length ≤ 4294967296) (h0 : 0 < ws.length) (h1 : ws.length ≤ 1000) : zSx prog 65 [.ptr 0 0, o5 ws] [y4 d] (sV (Q0 ws d)) [y4 (v5 ws d)] := by
 have st := T0 d ((ws.length : Int) - 1) h (by omega)
 have hle := Y7 (n := (ws.length : Int) - 1) (by omega) d
 have hw : IntKind.i64.wrap ((ws.length : Int) - 1) = (ws.length : Int) - 1 := wrap_i64 (by omega) (by omega)
 have e1 : Q0 ws d = ws.getD (toN ((ws.length : Int) - 1) d).toNat default := rfl
 have e2 : v5 ws d = toD ((ws.length : Int) - 1) d := rfl
 rw [e1, e2]
 clear e1 e2
 obtain ⟨n, hn⟩ : ∃ n : Nat, toN ((ws.length : Int) - 1) d = n := ⟨_, (Int.toNat_of_nonneg hle.1).symm⟩
 rw [hn] at st hle ⊢
 rw [Int.toNat_natCast]
 have hlt : n < ws.length := by omega
 generalize toD ((ws.length : Int) - 1) d = d2 at *
 clear hn hle
 refine z9 func65 rfl (fun E hE => ?_); simp only [go_sem, ntmps65]
 refine wk1 (own [0] (st)) ?_
 refine ⟨[_], [some 0], [], ⟨rfl, trivial⟩, ?_⟩
 simp only [go_sem, *]
end Go.Abs

namespace Go.Abs
open Go Go.Proofs Tryz
attribute [local irreducible] q9 Hold y2
variable [Cur]
theorem zMZ (d : Dice) : (zTk d).1.length ≤ 7 := by
 have k1 : (wordsU.all fun x => decide (x.length ≤ 7)) = true := by decide
 have k2 : (wordsL.all fun x => decide (x.length ≤ 7)) = true := by decide
 unfold zTk zUP
 split
 ·exact of_decide_eq_true (List.all_eq_true.1 k1 _ (C6 (by decide) _))
 ·exact of_decide_eq_true (List.all_eq_true.1 k2 _ (C6 (by decide) _))
theorem zD9 {s : Str} {k : Nat} (h : k < s.length) : List.drop k (List.take (k + 1) s) = [s.getD k 0] := by
 rw [zDV h, List.drop_append_of_le_length (by simp; omega), List.drop_of_length_le (by simp; omega)]; rfl
theorem zFN (set : Str) (n : Nat) (d : Dice) (s : Str) : W1 set (n + 1) d s = W1 set n (toD ((set.length : Int) - 1) d) (s ++ [set.getD (toN ((set.length : Int) - 1) d).toNat 0]) := rfl
theorem zNI (d : Dice) (most : Int) (h : d.list.length ≤ 4294967296) (hm : 1 ≤ most ∧ most ≤ 1000) : zSx prog 66 [.ptr 0 0, iV most] [y4 d] (sV (Y3 d most).1) [y4 (Y3 d most).2] := by
 have hd1 : (v5 wordsL d).list = d.list := p6 _ _
 have s1 := zBe d wordsL h (by decide) (by decide)
 have s2 := zBd (v5 wordsL d) 3 (by rw [hd1]; exact h) (by omega)
 have hd2 : (t8 3 (v5 wordsL d)).list = d.list := (p6 _ _).trans hd1
 have s3 := zBe (t8 3 (v5 wordsL d)) wordsU (by rw [hd2]; exact h) (by decide) (by decide)
 have hset := zGD d
 have hset7 := zMZ d
 obtain ⟨p, hp⟩ : ∃ p, zTk d = p := ⟨_, rfl⟩
 have hT : Y3 d most = zBN most p := by unfold Y3; rw [hp]
 rw [hT]
 rw [hp] at hset hset7
 unfold zTk zUP at hp
 have hmin : 1 ≤ min most 6 ∧ min most 6 ≤ 6 := by omega
 have hq := zA8 (lo := 1) (hi := min most 6) hmin.1 p.2
 have s4 := zM6 p.2 1 (min most 6) (by rw [hset.2.2]; exact h) (by omega) (by omega)
 have hT2 : zBN most p = W1 p.1 (Y1 1 (min most 6) p.2).toNat (O9 1 (min most 6) p.2) [] := rfl
 rw [hT2]
 have hd3 : (O9 1 (min most 6) p.2).list = d.list := (p6 _ _).trans hset.2.2
 obtain ⟨n, hn⟩ : ∃ n : Nat, Y1 1 (min most 6) p.2 = n := ⟨(Y1 1 (min most 6) p.2).toNat, by omega⟩
 rw [hn] at s4 hq ⊢
 rw [Int.toNat_natCast]
 have hn6 : n ≤ 6 := by omega
 generalize hT3 : W1 p.1 n (O9 1 (min most 6) p.2) [] = T at *
 obtain ⟨dd, hdd⟩ : ∃ dd, O9 1 (min most 6) p.2 = dd := ⟨_, rfl⟩
 rw [hdd] at s4 hT3 hd3
 have hdl : dd.list.length ≤ 4294967296 := by rw [hd3]; exact h
 obtain ⟨set, d4⟩ := p
 have hsl : 0 < set.length := hset.1
 have hsl2 : set.length ≤ 7 := hset7
 clear hn hT hT2 hq hd1 hd2 hd3 hset hdd
 simp only at s4 hT3
 generalize N2 3 (v5 wordsL d) = t at *
 generalize t8 3 (v5 wordsL d) = d2 at *
 generalize v5 wordsL d = d1 at *
 generalize Q0 wordsL d = a at *
 generalize Q0 wordsU d2 = b at *
 generalize v5 wordsU d2 = d3 at *
 generalize hmm : min most 6 = mm at *
 have hw0 : o5 wordsL = .list [sV [97, 101, 115], sV [115, 104, 101, 116, 97], sV [115, 109, 105, 116, 121, 104, 97], sV [99, 104, 106, 97], sV [97, 110, 110, 101]] := rfl
 have hw1 : o5 wordsU = .list [sV [65, 69, 83], sV [88, 69, 84, 65], sV [83, 77, 73, 84, 89, 65], sV [67, 74, 65, 88], sV [65, 78, 78, 69]] := rfl
 rw [hw0] at s1
 rw [hw1] at s3
 clear hw0 hw1 hset7
 have hmi : zUN most 6 = mm := by rw [← hmm]; unfold zUN; omega
 clear hmm
 cases t
 ·have hp : (a, d2) = (set, d4) := hp
  cases hp
  clear s3
  refine z9 func66 rfl (fun E hE => ?_); simp only [go_sem, ntmps66]
  repeat' (first | (refine Qr rfl ?_; try intro _ hK; try simp only [go_sem, *]) | refine Qh rfl ?_ | (refine Qc rfl rfl ?_ ?_ <;> (intro hb; have hc := hb; try simp only [go_sem] at hc)) | refine z8 rfl ?_ | ((with_reducible apply And.intro); focus omega) | (refine z7 hK ?_; clear hK; simp only [go_sem, *]) | simp only [z6, z5, go_sem, *])
  refine R8 [0] [1] s1 rfl (by simp only [go_sem]) (by simp) ?_ ?_ (by simp [go_sem]) (by simp [go_sem]) ?_
  ·simp only [go_sem, *]
  ·simp only [go_sem, *]
  simp only [go_sem, w4, *]
  repeat' (first | (refine Qr rfl ?_; try intro _ hK; try simp only [go_sem, *]) | refine Qh rfl ?_ | (refine Qc rfl rfl ?_ ?_ <;> (intro hb; have hc := hb; try simp only [go_sem] at hc)) | refine z8 rfl ?_ | (refine j5 [0] (s2) ?_; simp only [go_sem, *]) | ((with_reducible apply And.intro); focus omega) | (refine z7 hK ?_; clear hK; simp only [go_sem, *]) | simp only [z6, z5, go_sem, *])
  all_goals try contradiction
  repeat' (first | (refine Qr rfl ?_; try intro _ hK; try simp only [go_sem, *]) | refine Qh rfl ?_ | (refine Qc rfl rfl ?_ ?_ <;> (intro hb; have hc := hb; try simp only [go_sem] at hc)) | refine z8 rfl ?_ | (refine j5 [0] (s4) ?_; simp only [go_sem, *]) | ((with_reducible apply And.intro); focus omega) | (refine z7 hK ?_; clear hK; simp only [go_sem, *]) | simp only [z6, z5, go_sem, *])
  all_goals try contradiction
  refine zBK rfl (n) (fun i (d' : Dice) (s : Str) => W1 set (n - i) d' s = T ∧ d'.list.length ≤ 4294967296 ∧ s.length ≤ i) 38 (fun i d' s => [(7, iV ((n - i : Nat) : Int)), (6, sV s), (5, sV set), (0, .ptr 0 0)]) (fun i d' s => [y4 d']) [some 0] [] (dd) ([]) (by exact ⟨hT3, hdl, by simp⟩) ?_; intro i d' s hi hP
  clear hT3 hdl s4 s2 s1
  obtain ⟨hP, hdl, hsi⟩ := hP
  by_cases hi2 : i < n
  ·rw [show n - i = (n - (i + 1)) + 1 by omega, zFN] at hP
   have st := T0 d' ((set.length : Int) - 1) hdl (by omega)
   have hle := Y7 (n := (set.length : Int) - 1) (by omega) d'
   have hdl2 : (toD ((set.length : Int) - 1) d').list.length ≤ 4294967296 := by rw [p6]; exact hdl
   obtain ⟨k, hk0⟩ : ∃ k : Nat, toN ((set.length : Int) - 1) d' = k := ⟨_, (Int.toNat_of_nonneg hle.1).symm⟩
   rw [hk0] at st hle hP
   rw [Int.toNat_natCast] at hP
   have hkl : k < set.length := by omega
   have hw : IntKind.i64.wrap ((set.length : Int) - 1) = (set.length : Int) - 1 := wrap_i64 (by omega) (by omega)
   have hw1 : IntKind.i64.wrap ((k : Int) + 1) = ((k + 1 : Nat) : Int) := o3 (by omega)
   have hw2 : IntKind.i64.wrap (((n - i : Nat) : Int) - 1) = ((n - (i + 1) : Nat) : Int) := by rw [wrap_i64 (by omega) (by omega)]; omega
   have hj : (0 : Int) < ((n - i : Nat) : Int) := by omega
   have hdt := zD9 hkl
   generalize toD ((set.length : Int) - 1) d' = d3 at *
   clear hk0 hle
   refine wk1 (own [0] (st)) ?_
   exact N1 (i' := i + 1) [some 0] [] (d3) (s ++ [set.getD k 0]) (by exact ⟨hP, hdl2, by simp; omega⟩)
  ·rw [show n - i = 0 by omega] at hP
   have hP : (s, d') = T := hP
   subst hP
   have hj : ¬ (0 : Int) < ((n - i : Nat) : Int) := by omega
   refine wk1 trivial ?_
   all_goals first | contradiction | omega | skip
   refine ⟨[_], [some 0], [], ⟨rfl, trivial⟩, ?_⟩
   simp only [go_sem, *]
 ·have hp : (b, d3) = (set, d4) := hp
  cases hp
  refine z9 func66 rfl (fun E hE => ?_); simp only [go_sem, ntmps66]
  repeat' (first | (refine Qr rfl ?_; try intro _ hK; try simp only [go_sem, *]) | refine Qh rfl ?_ | (refine Qc rfl rfl ?_ ?_ <;> (intro hb; have hc := hb; try simp only [go_sem] at hc)) | refine z8 rfl ?_ | ((with_reducible apply And.intro); focus omega) | (refine z7 hK ?_; clear hK; simp only [go_sem, *]) | simp only [z6, z5, go_sem, *])
  refine R8 [0] [1] s1 rfl (by simp only [go_sem]) (by simp) ?_ ?_ (by simp [go_sem]) (by simp [go_sem]) ?_
  ·simp only [go_sem, *]
  ·simp only [go_sem, *]
  simp only [go_sem, w4, *]
  repeat' (first | (refine Qr rfl ?_; try intro _ hK; try simp only [go_sem, *]) | refine Qh rfl ?_ | (refine Qc rfl rfl ?_ ?_ <;> (intro hb; have hc := hb; try simp only [go_sem] at hc)) | refine z8 rfl ?_ | (refine j5 [0] (s2) ?_; simp only [go_sem, *]) | ((with_reducible apply And.intro); focus omega) | (refine z7 hK ?_; clear hK; simp only [go_sem, *]) | simp only [z6, z5, go_sem, *])
  all_goals try contradiction
  refine R8 [0] [2] s3 rfl (by simp only [go_sem]) (by simp) ?_ ?_ (by simp [go_sem]) (by simp [go_sem]) ?_
  ·simp only [go_sem, *]
  ·simp only [go_sem, *]
  simp only [go_sem, w4, *]
  repeat' (first | (refine Qr rfl ?_; try intro _ hK; try simp only [go_sem, *]) | refine Qh rfl ?_ | (refine Qc rfl rfl ?_ ?_ <;> (intro hb; have hc := hb; try simp only [go_sem] at hc)) | refine z8 rfl ?_ | (refine j5 [0] (s4) ?_; simp only [go_sem, *]) | ((with_reducible apply And.intro); focus omega) | (refine z7 hK ?_; clear hK; simp only [go_sem, *]) | simp only [z6, z5, go_sem, *])
  all_goals try contradiction
  refine zBK rfl (n) (fun i (d' : Dice) (s : Str) => W1 set (n - i) d' s = T ∧ d'.list.length ≤ 4294967296 ∧ s.length ≤ i) 38 (fun i d' s => [(7, iV ((n - i : Nat) : Int)), (6, sV s), (5, sV set), (0, .ptr 0 0)]) (fun i d' s => [y4 d']) [some 0] [] (dd) ([]) (by exact ⟨hT3, hdl, by simp⟩) ?_; intro i d' s hi hP
  clear hT3 hdl s4 s3 s2 s1
  obtain ⟨hP, hdl, hsi⟩ := hP
  by_cases hi2 : i < n
  ·rw [show n - i = (n - (i + 1)) + 1 by omega, zFN] at hP
   have st := T0 d' ((set.length : Int) - 1) hdl (by omega)
   have hle := Y7 (n := (set.length : Int) - 1) (by omega) d'
   have hdl2 : (toD ((set.length : Int) - 1) d').list.length ≤ 4294967296 := by rw [p6]; exact hdl
   obtain ⟨k, hk0⟩ : ∃ k : Nat, toN ((set.length : Int) - 1) d' = k := ⟨_, (Int.toNat_of_nonneg hle.1).symm⟩
   rw [hk0] at st hle hP
   rw [Int.toNat_natCast] at hP
   have hkl : k < set.length := by omega
   have hw : IntKind.i64.wrap ((set.length : Int) - 1) = (set.length : Int) - 1 := wrap_i64 (by omega) (by omega)
   have hw1 : IntKind.i64.wrap ((k : Int) + 1) = ((k + 1 : Nat) : Int) := o3 (by omega)
   have hw2 : IntKind.i64.wrap (((n - i : Nat) : Int) - 1) = ((n - (i + 1) : Nat) : Int) := by rw [wrap_i64 (by omega) (by omega)]; omega
   have hj : (0 : Int) < ((n - i : Nat) : Int) := by omega
   have hdt := zD9 hkl
   generalize toD ((set.length : Int) - 1) d' = d3' at *
   clear hk0 hle
   refine wk1 (own [0] (st)) ?_
   exact N1 (i' := i + 1) [some 0] [] (d3') (s ++ [set.getD k 0]) (by exact ⟨hP, hdl2, by simp; omega⟩)
  ·rw [show n - i = 0 by omega] at hP
   have hP : (s, d') = T := hP
   subst hP
   have hj : ¬ (0 : Int) < ((n - i : Nat) : Int) := by omega
   refine wk1 trivial ?_
   all_goals first | contradiction | omega | skip
   refine ⟨[_], [some 0], [], ⟨rfl, trivial⟩, ?_⟩
   simp only [go_sem, *]
end Go.Abs

namespace Go.Abs
open Go Go.Proofs Tryz
attribute [local irreducible] q9 Hold y2
variable [Cur]
theorem zLV (most : Int) (n : Nat) (d : Dice) (out : List Str) : U7 most (n + 1) d out = U7 most n (U1 out (Y3 d most)).2 (out ++ [(U1 out (Y3 d most)).1]) := rfl
theorem zNJ (d : Dice) (many most : Int) (h : d.list.length ≤ 4294967296) (hm : 0 ≤ many ∧ many ≤ 1000) (h1 : 1 ≤ most ∧ most ≤ 1000) :
  zSx prog 24 [.ptr 0 0, iV many, iV most] [y4 d] (.own 1 1 0 (K2 d many most).1.length) [y4 (K2 d many most).2, .row 1 ((K2 d many most).1.map sV)] := by
 have st := T0 d many h (by omega)
 have hle := Y7 hm.1 d
 have hT : K2 d many most = U7 most (toN many d).toNat (toD many d) [] := rfl
 rw [hT]
 clear hT
 obtain ⟨n, hn⟩ : ∃ n : Nat, toN many d = n := ⟨_, (Int.toNat_of_nonneg hle.1).symm⟩
 rw [hn] at st hle ⊢
 rw [Int.toNat_natCast]
 have hn6 : n ≤ 1000 := by omega
 generalize hT3 : U7 most n (toD many d) [] = T at *
 have hdl : (toD many d).list.length ≤ 4294967296 := by rw [p6]; exact h
 generalize toD many d = dd at *
 clear hn hle h hm
 refine z9 func24 rfl (fun E hE => ?_); simp only [go_sem, ntmps24]
 refine wk1 (own [0] (st)) ?_
 refine zBK rfl (n) (fun i (d' : Dice) (outs : List Str) => U7 most (n - i) d' outs = T ∧ d'.list.length ≤ 4294967296 ∧ outs.length = i ∧ ∀ s, s ∈ outs → M5 most s) 66 (fun i d' outs => [(8, iV ((n - i : Nat) : Int)), (7, .own 1 1 0 i), (0, .ptr 0 0), (2, iV most)]) (fun i d' outs => [y4 d', .row 1 (outs.map sV)]) [some 0, none] [] (dd) ([]) (by exact ⟨hT3, hdl, rfl, fun s hs => by cases hs⟩) ?_; intro i d' outs hi hP
 clear hT3 hdl st
 obtain ⟨hP, hdl, hlen, hok⟩ := hP
 by_cases hi2 : i < n
 ·rw [show n - i = (n - (i + 1)) + 1 by omega, zLV] at hP
  have sN := zNI d' most hdl h1
  have hN := zFa h1.1 (d := d')
  obtain ⟨x, d1, hx⟩ : ∃ x d1, Y3 d' most = (x, d1) := ⟨_, _, rfl⟩
  rw [hx] at sN hN hP
  have hA := zDm hok (p := (x, d1)) ⟨hN.1, hN.2.1⟩
  simp only at sN hN hA
  have hd1 : d1.list.length ≤ 4294967296 := by rw [hN.2.2]; exact hdl
  have hxl : x.length ≤ 6 := hN.1.len
  have hw2 : IntKind.i64.wrap (((n - i : Nat) : Int) - 1) = ((n - (i + 1) : Nat) : Int) := by rw [wrap_i64 (by omega) (by omega)]; omega
  have hj : (0 : Int) < ((n - i : Nat) : Int) := by omega
  obtain ⟨y, d9, hq⟩ : ∃ y d9, U1 outs (x, d1) = (y, d9) := ⟨_, _, rfl⟩
  rw [hq] at hP hA
  have hnext : U7 most (n - (i + 1)) d9 (outs ++ [y]) = T ∧ d9.list.length ≤ 4294967296 ∧ (outs ++ [y]).length = i + 1 ∧ ∀ s, s ∈ outs ++ [y] → M5 most s :=
   ⟨hP, by rw [hA.2]; exact hd1, by simp [hlen], fun s hs => by
    rcases List.mem_append.1 hs with hs | hs
    ·exact hok s hs
    ·rw [List.mem_singleton.1 hs]; exact hA.1⟩
  clear hP hA hN hx
  by_cases h0 : 0 < outs.length
  ·have so := zBd d1 3 hd1 (by omega)
   have hd2 : (t8 3 d1).list.length ≤ 4294967296 := by unfold t8; rw [p6]; exact hd1
   unfold U1 at hq
   rw [if_pos h0] at hq
   have hq : zBz outs (x, d1) (N2 3 d1) (t8 3 d1) = (y, d9) := hq
   have h0i : (0 : Int) < (i : Int) := by omega
   generalize t8 3 d1 = d2 at *
   generalize N2 3 d1 = t at *
   cases t
   ·have hq : (x, d2) = (y, d9) := hq
    obtain ⟨e1, e2⟩ := Prod.mk.inj hq
    clear hq
    subst e1 e2
    clear hok
    refine wk1 (cc (own [0] (sN)) (own [0] (so))) ?_
    all_goals first | contradiction | omega | skip
    exact N1 (i' := i + 1) [some 0, some 3] [] (d2) (outs ++ [x]) (by exact hnext)
   ·have hq : J3 (C5 outs d2) (toD ((outs.length : Int) - 1) d2) = (y, d9) := hq
    have hpk0 : ∀ e : Int, C5 outs d2 = outs.getD (toN ((outs.length : Int) - 1) d2).toNat default := fun _ => rfl
    rw [hlen] at hq hpk0
    have st := T0 d2 ((i : Int) - 1) hd2 (by omega)
    have hle := Y7 (n := (i : Int) - 1) (by omega) d2
    have hd3 : (toD ((i : Int) - 1) d2).list.length ≤ 4294967296 := by rw [p6]; exact hd2
    obtain ⟨k, hk0⟩ : ∃ k : Nat, toN ((i : Int) - 1) d2 = k := ⟨_, (Int.toNat_of_nonneg hle.1).symm⟩
    have hpk : C5 outs d2 = outs.getD k default := by rw [hpk0 0, hk0, Int.toNat_natCast]
    rw [hk0] at st hle
    rw [hpk] at hq
    have hkl : k < outs.length := by omega
    have hkli : k < i := by omega
    have hz := (hok _ (j9 hkl)).1
    have hw : IntKind.i64.wrap ((i : Int) - 1) = (i : Int) - 1 := wrap_i64 (by omega) (by omega)
    generalize toD ((i : Int) - 1) d2 = d3 at *
    have hz1 : 0 < (outs.getD k default).length := hz.ne
    have hz6 : (outs.getD k default).length ≤ 6 := hz.len
    clear hk0 hle hpk hpk0 hok hz
    generalize hzz : outs.getD k default = z at *
    by_cases hv : 97 ≤ (z.getD 0 0).toNat ∧ 1 < z.length
    ·have s2 := zBd d3 2 hd3 (by omega)
     have hd4 : (t8 2 d3).list.length ≤ 4294967296 := by unfold t8; rw [p6]; exact hd3
     unfold J3 at hq
     rw [if_pos hv] at hq
     generalize t8 2 d3 = d4 at *
     generalize N2 2 d3 = t2 at *
     obtain ⟨hv1, hv2⟩ := hv
     cases t2
     ·have hq : (z, d4) = (y, d9) := hq
      obtain ⟨e1, e2⟩ := Prod.mk.inj hq
      clear hq
      subst e1 e2
      repeat' (first | (refine Qr rfl ?_; try intro _ hK; try simp only [go_sem, *]) | (refine Qi rfl rfl rfl rfl ?_ ?_ <;> (intro hb; (try intro _ hK); have hc := hb; try simp only [go_sem] at hc; simp only [go_sem, *])) | refine Qh rfl ?_ | refine Qd rfl (by kernel_rfl) ?_ | (refine Qc rfl rfl ?_ ?_ <;> (intro hb; have hc := hb; try simp only [go_sem] at hc)) | refine z8 rfl ?_ | (refine Qb ?_ ?_; focus kernel_rfl) | (refine x4 [0] [] (sN) (by simp) ?_ ?_ (by simp) (.inl rfl) ?_ ?_ ?_; (iterate 2 (focus (simp only [go_sem, *]; done))); (iterate 2 (focus (first | (simp; done) | (simp [go_sem]; done)))); simp only [go_sem, *]) | (refine x4 [0] [] (so) (by simp) ?_ ?_ (by simp) (.inl rfl) ?_ ?_ ?_; (iterate 2 (focus (simp only [go_sem, *]; done))); (iterate 2 (focus (first | (simp; done) | (simp [go_sem]; done)))); simp only [go_sem, *]) | (refine x4 [0] [] (s2) (by simp) ?_ ?_ (by simp) (.inl rfl) ?_ ?_ ?_; (iterate 2 (focus (simp only [go_sem, *]; done))); (iterate 2 (focus (first | (simp; done) | (simp [go_sem]; done)))); simp only [go_sem, *]) | (refine x4 [0] [] (st) (by simp) ?_ ?_ (by simp) (.inl rfl) ?_ ?_ ?_; (iterate 2 (focus (simp only [go_sem, *]; done))); (iterate 2 (focus (first | (simp; done) | (simp [go_sem]; done)))); simp only [go_sem, *]) | ((with_reducible apply And.intro); focus omega) | (refine z7 hK ?_; clear hK; simp only [go_sem, *]) | simp only [z6, z5, go_sem, *])
      all_goals first | contradiction | omega | skip
      exact N1 (i' := i + 1) [some 0, some 3] [] (d4) (outs ++ [z]) (by exact hnext)
     ·have hq : (P1 z (toN ((z.length : Int) - 1) d4).toNat, toD ((z.length : Int) - 1) d4) = (y, d9) := hq
      have s5 := T0 d4 ((z.length : Int) - 1) hd4 (by omega)
      have hle := Y7 (n := (z.length : Int) - 1) (by omega) d4
      obtain ⟨m, hm0⟩ : ∃ m : Nat, toN ((z.length : Int) - 1) d4 = m := ⟨_, (Int.toNat_of_nonneg hle.1).symm⟩
      rw [hm0] at s5 hle hq
      rw [Int.toNat_natCast] at hq
      have hml : m < z.length := by omega
      have hwz : IntKind.i64.wrap ((z.length : Int) - 1) = (z.length : Int) - 1 := wrap_i64 (by omega) (by omega)
      have hwm : IntKind.i64.wrap ((m : Int) + 1) = ((m + 1 : Nat) : Int) := o3 (by omega)
      generalize toD ((z.length : Int) - 1) d4 = d5 at *
      obtain ⟨e1, e2⟩ := Prod.mk.inj hq
      clear hq hm0 hle
      subst e1 e2
      have hcut : List.take m z ++ List.drop (m + 1) z = P1 z m := rfl
      repeat' (first | (refine Qr rfl ?_; try intro _ hK; try simp only [go_sem, *]) | (refine Qi rfl rfl rfl rfl ?_ ?_ <;> (intro hb; (try intro _ hK); have hc := hb; try simp only [go_sem] at hc; simp only [go_sem, *])) | refine Qh rfl ?_ | refine Qd rfl (by kernel_rfl) ?_ | (refine Qc rfl rfl ?_ ?_ <;> (intro hb; have hc := hb; try simp only [go_sem] at hc)) | refine z8 rfl ?_ | (refine Qb ?_ ?_; focus kernel_rfl) | (refine x4 [0] [] (sN) (by simp) ?_ ?_ (by simp) (.inl rfl) ?_ ?_ ?_; (iterate 2 (focus (simp only [go_sem, *]; done))); (iterate 2 (focus (first | (simp; done) | (simp [go_sem]; done)))); simp only [go_sem, *]) | (refine x4 [0] [] (so) (by simp) ?_ ?_ (by simp) (.inl rfl) ?_ ?_ ?_; (iterate 2 (focus (simp only [go_sem, *]; done))); (iterate 2 (focus (first | (simp; done) | (simp [go_sem]; done)))); simp only [go_sem, *]) | (refine x4 [0] [] (s2) (by simp) ?_ ?_ (by simp) (.inl rfl) ?_ ?_ ?_; (iterate 2 (focus (simp only [go_sem, *]; done))); (iterate 2 (focus (first | (simp; done) | (simp [go_sem]; done)))); simp only [go_sem, *]) | (refine x4 [0] [] (st) (by simp) ?_ ?_ (by simp) (.inl rfl) ?_ ?_ ?_; (iterate 2 (focus (simp only [go_sem, *]; done))); (iterate 2 (focus (first | (simp; done) | (simp [go_sem]; done)))); simp only [go_sem, *]) | (refine x4 [0] [] (s5) (by simp) ?_ ?_ (by simp) (.inl rfl) ?_ ?_ ?_; (iterate 2 (focus (simp only [go_sem, *]; done))); (iterate 2 (focus (first | (simp; done) | (simp [go_sem]; done)))); simp only [go_sem, *]) | ((with_reducible apply And.intro); focus omega) | (refine z7 hK ?_; clear hK; simp only [go_sem, *]) | simp only [z6, z5, go_sem, *])
      all_goals first | contradiction | omega | skip
      exact N1 (i' := i + 1) [some 0, some 3] [] (d5) (outs ++ [P1 z m]) (by exact hnext)
    ·unfold J3 at hq
     rw [if_neg hv] at hq
     obtain ⟨e1, e2⟩ := Prod.mk.inj hq
     clear hq
     subst e1 e2
     by_cases hv1 : 97 ≤ (z.getD 0 0).toNat
     ·have hv2 : ¬ 1 < z.length := fun h => hv ⟨hv1, h⟩
      clear hv
      repeat' (first | (refine Qr rfl ?_; try intro _ hK; try simp only [go_sem, *]) | (refine Qi rfl rfl rfl rfl ?_ ?_ <;> (intro hb; (try intro _ hK); have hc := hb; try simp only [go_sem] at hc; simp only [go_sem, *])) | refine Qh rfl ?_ | refine Qd rfl (by kernel_rfl) ?_ | (refine Qc rfl rfl ?_ ?_ <;> (intro hb; have hc := hb; try simp only [go_sem] at hc)) | refine z8 rfl ?_ | (refine Qb ?_ ?_; focus kernel_rfl) | (refine x4 [0] [] (sN) (by simp) ?_ ?_ (by simp) (.inl rfl) ?_ ?_ ?_; (iterate 2 (focus (simp only [go_sem, *]; done))); (iterate 2 (focus (first | (simp; done) | (simp [go_sem]; done)))); simp only [go_sem, *]) | (refine x4 [0] [] (so) (by simp) ?_ ?_ (by simp) (.inl rfl) ?_ ?_ ?_; (iterate 2 (focus (simp only [go_sem, *]; done))); (iterate 2 (focus (first | (simp; done) | (simp [go_sem]; done)))); simp only [go_sem, *]) | (refine x4 [0] [] (st) (by simp) ?_ ?_ (by simp) (.inl rfl) ?_ ?_ ?_; (iterate 2 (focus (simp only [go_sem, *]; done))); (iterate 2 (focus (first | (simp; done) | (simp [go_sem]; done)))); simp only [go_sem, *]) | ((with_reducible apply And.intro); focus omega) | (refine z7 hK ?_; clear hK; simp only [go_sem, *]) | simp only [z6, z5, go_sem, *])
      all_goals first | contradiction | omega | skip
      exact N1 (i' := i + 1) [some 0, some 3] [] (d3) (outs ++ [z]) (by exact hnext)
     ·clear hv
      repeat' (first | (refine Qr rfl ?_; try intro _ hK; try simp only [go_sem, *]) | (refine Qi rfl rfl rfl rfl ?_ ?_ <;> (intro hb; (try intro _ hK); have hc := hb; try simp only [go_sem] at hc; simp only [go_sem, *])) | refine Qh rfl ?_ | refine Qd rfl (by kernel_rfl) ?_ | (refine Qc rfl rfl ?_ ?_ <;> (intro hb; have hc := hb; try simp only [go_sem] at hc)) | refine z8 rfl ?_ | (refine Qb ?_ ?_; focus kernel_rfl) | (refine x4 [0] [] (sN) (by simp) ?_ ?_ (by simp) (.inl rfl) ?_ ?_ ?_; (iterate 2 (focus (simp only [go_sem, *]; done))); (iterate 2 (focus (first | (simp; done) | (simp [go_sem]; done)))); simp only [go_sem, *]) | (refine x4 [0] [] (so) (by simp) ?_ ?_ (by simp) (.inl rfl) ?_ ?_ ?_; (iterate 2 (focus (simp only [go_sem, *]; done))); (iterate 2 (focus (first | (simp; done) | (simp [go_sem]; done)))); simp only [go_sem, *]) | (refine x4 [0] [] (st) (by simp) ?_ ?_ (by simp) (.inl rfl) ?_ ?_ ?_; (iterate 2 (focus (simp only [go_sem, *]; done))); (iterate 2 (focus (first | (simp; done) | (simp [go_sem]; done)))); simp only [go_sem, *]) | ((with_reducible apply And.intro); focus omega) | (refine z7 hK ?_; clear hK; simp only [go_sem, *]) | simp only [z6, z5, go_sem, *])
      all_goals first | contradiction | omega | skip
      exact N1 (i' := i + 1) [some 0, some 3] [] (d3) (outs ++ [z]) (by exact hnext)
  ·unfold U1 at hq
   rw [if_neg h0] at hq
   obtain ⟨e1, e2⟩ := Prod.mk.inj hq
   clear hq
   subst e1 e2
   have h0i : ¬ (0 : Int) < (i : Int) := by omega
   clear hok
   refine wk1 (own [0] (sN)) ?_
   all_goals first | contradiction | omega | skip
   exact N1 (i' := i + 1) [some 0, some 3] [] (d1) (outs ++ [x]) (by exact hnext)
 ·rw [show n - i = 0 by omega] at hP
  have hP : (outs, d') = T := hP
  subst hP
  have hj : ¬ (0 : Int) < ((n - i : Nat) : Int) := by omega
  clear hok
  refine wk1 trivial ?_
  all_goals first | contradiction | omega | skip
  refine ⟨[_], [some 0, some 1], [], ⟨rfl, trivial⟩, ?_⟩
  simp only [go_sem, *]
end Go.Abs

namespace Go.Abs
open Go Go.Proofs Tryz
attribute [local irreducible] q9 Hold y2
variable [Cur]
theorem zMC (n : Nat) (d : Dice) (out : List Rule) : V6 (n + 1) d out = V6 n (v5 wordsT (v5 wordsF d)) (out ++ [⟨Q0 wordsF d, Q0 wordsT (v5 wordsF d)⟩]) := rfl
theorem zNM (d : Dice) (many : Int) (h : d.list.length ≤ 4294967296) (hm : 0 ≤ many ∧ many ≤ 1000) :
  zSx prog 23 [.ptr 0 0, iV many] [y4 d] (.own 1 2 0 (K9 d many).1.length) [y4 (K9 d many).2, .row 2 ((K9 d many).1.map Rule.enc)] := by
 have st := T0 d many h (by omega)
 have hle := Y7 hm.1 d
 have hT : K9 d many = V6 (toN many d).toNat (toD many d) [] := rfl
 rw [hT]
 clear hT
 obtain ⟨n, hn⟩ : ∃ n : Nat, toN many d = n := ⟨_, (Int.toNat_of_nonneg hle.1).symm⟩
 rw [hn] at st hle ⊢
 rw [Int.toNat_natCast]
 have hn6 : n ≤ 1000 := by omega
 generalize hT3 : V6 n (toD many d) [] = T at *
 have hdl : (toD many d).list.length ≤ 4294967296 := by rw [p6]; exact h
 generalize toD many d = dd at *
 clear hn hle h hm
 refine z9 func23 rfl (fun E hE => ?_); simp only [go_sem, ntmps23]
 refine wk1 (own [0] (st)) ?_
 refine zBK rfl (n) (fun i (d' : Dice) (outs : List Rule) => V6 (n - i) d' outs = T ∧ d'.list.length ≤ 4294967296 ∧ outs.length = i) 27 (fun i d' outs => [(6, iV ((n - i : Nat) : Int)), (5, .own 1 2 0 i), (0, .ptr 0 0)]) (fun i d' outs => [y4 d', .row 2 (outs.map Rule.enc)]) [some 0, none] [] (dd) ([]) (by exact ⟨hT3, hdl, rfl⟩) ?_; intro i d' outs hi hP
 clear hT3 hdl st
 obtain ⟨hP, hdl, hlen⟩ := hP
 by_cases hi2 : i < n
 ·rw [show n - i = (n - (i + 1)) + 1 by omega, zMC] at hP
  have s1 := zBe d' wordsF hdl (by decide) (by decide)
  have hd1 : (v5 wordsF d').list.length ≤ 4294967296 := by unfold v5; rw [p6]; exact hdl
  have s2 := zBe (v5 wordsF d') wordsT hd1 (by decide) (by decide)
  have hd2 : (v5 wordsT (v5 wordsF d')).list.length ≤ 4294967296 := by unfold v5; rw [p6]; exact hd1
  generalize v5 wordsF d' = d1 at *
  generalize v5 wordsT d1 = d2 at *
  generalize Q0 wordsF d' = u at *
  generalize Q0 wordsT d1 = v at *
  have hw2 : IntKind.i64.wrap (((n - i : Nat) : Int) - 1) = ((n - (i + 1) : Nat) : Int) := by rw [wrap_i64 (by omega) (by omega)]; omega
  have hj : (0 : Int) < ((n - i : Nat) : Int) := by omega
  have hnext : V6 (n - (i + 1)) d2 (outs ++ [⟨u, v⟩]) = T ∧ d2.list.length ≤ 4294967296 ∧ (outs ++ [(⟨u, v⟩ : Rule)]).length = i + 1 := ⟨hP, hd2, by simp [hlen]⟩
  have hw0 : o5 wordsF = .list [sV [101], sV [121], sV [115, 104], sV [97], sV [110, 110], sV [116, 104], sV [109]] := rfl
  have hw1 : o5 wordsT = .list [sV [], sV [105], sV [115], sV [116], sV [97, 101], sV [106], sV [110]] := rfl
  rw [hw0] at s1
  rw [hw1] at s2
  clear hw0 hw1 hP
  repeat' (first | (refine Qr rfl ?_; try intro _ hK; try simp only [go_sem, *]) | refine Qh rfl ?_ | (refine Qc rfl rfl ?_ ?_ <;> (intro hb; have hc := hb; try simp only [go_sem] at hc)) | refine z8 rfl ?_ | ((with_reducible apply And.intro); focus omega) | (refine z7 hK ?_; clear hK; simp only [go_sem, *]) | simp only [z6, z5, go_sem, *])
  refine R8 [0] [2] s1 rfl (by simp only [go_sem]) (by simp) ?_ ?_ (by simp [go_sem]) (by simp [go_sem]) ?_
  ·simp only [go_sem, *]
  ·simp only [go_sem, *]
  simp only [go_sem, w4, *]
  repeat' (first | (refine Qr rfl ?_; try intro _ hK; try simp only [go_sem, *]) | refine Qh rfl ?_ | (refine Qc rfl rfl ?_ ?_ <;> (intro hb; have hc := hb; try simp only [go_sem] at hc)) | refine z8 rfl ?_ | ((with_reducible apply And.intro); focus omega) | (refine z7 hK ?_; clear hK; simp only [go_sem, *]) | simp only [z6, z5, go_sem, *])
  refine R8 [0] [3] s2 rfl (by simp only [go_sem]) (by simp) ?_ ?_ (by simp [go_sem]) (by simp [go_sem]) ?_
  ·simp only [go_sem, *]
  ·simp only [go_sem, *]
  simp only [go_sem, w4, *]
  repeat' (first | (refine Qr rfl ?_; try intro _ hK; try simp only [go_sem, *]) | refine Qh rfl ?_ | (refine Qc rfl rfl ?_ ?_ <;> (intro hb; have hc := hb; try simp only [go_sem] at hc)) | refine z8 rfl ?_ | ((with_reducible apply And.intro); focus omega) | (refine z7 hK ?_; clear hK; simp only [go_sem, *]) | simp only [z6, z5, go_sem, *])
  all_goals first | contradiction | omega | skip
  exact N1 (i' := i + 1) [some 0, some 6] [] (d2) (outs ++ [(⟨u, v⟩ : Rule)]) (by exact hnext)
 ·rw [show n - i = 0 by omega] at hP
  have hP : (outs, d') = T := hP
  subst hP
  have hj : ¬ (0 : Int) < ((n - i : Nat) : Int) := by omega
  refine wk1 trivial ?_
  all_goals first | contradiction | omega | skip
  refine ⟨[_], [some 0, some 1], [], ⟨rfl, trivial⟩, ?_⟩
  simp only [go_sem, *]
end Go.Abs

namespace Go.Abs
open Go Go.Proofs Tryz
attribute [local irreducible] q9 Hold y2
variable [Cur]
omit [Cur] in
theorem zAY {S : Type} (n : Nat) (s0 : S) (R : Nat → S → S → Prop) (G : Nat → S → Prop) (h0 : G 0 s0) (h : ∀ i s, i < n → G i s → ∃ s', R i s s' ∧ G (i + 1) s') :
  ∃ q : Nat → S, q 0 = s0 ∧ (∀ i, i < n → R i (q i) (q (i + 1))) ∧ ∀ i, i ≤ n → G i (q i) := by
 classical
 let f : Nat → S → S := fun i s => if h' : i < n ∧ G i s then Classical.choose (h i s h'.1 h'.2) else s
 let q : Nat → S := fun i => Nat.rec s0 (fun i s => f i s) i
 have hq : ∀ i, i ≤ n → G i (q i) := by
  intro i
  induction i with
  | zero => intro _; exact h0
  | succ i ih =>
   intro hi
   have g := ih (by omega)
   show G (i + 1) (f i (q i))
   simp only [f]
   rw [dif_pos ⟨by omega, g⟩]
   exact (Classical.choose_spec (h i (q i) (by omega) g)).2
 refine ⟨q, rfl, fun i hi => ?_, hq⟩
 have g := hq i (by omega)
 show R i (q i) (f i (q i))
 simp only [f]
 rw [dif_pos ⟨hi, g⟩]
 exact (Classical.choose_spec (h i (q i) hi g)).1
abbrev DOk (d : Dice) : Prop := d.list.length ≤ 4294967296
theorem I8 (d : Dice) (n : Int) (h : DOk d) (hn : n ≤ 4294967296) : ∃ (k : Nat) (d' : Dice), zSx prog 27 [.ptr 0 0, iV n] [y4 d] (iV k) [y4 d'] ∧ (0 ≤ n → (k : Int) ≤ n) ∧ (n < 0 → k = 0) ∧ DOk d' := by
 have hle := zDW n d
 obtain ⟨k, hk⟩ : ∃ k : Nat, toN n d = k := ⟨_, (Int.toNat_of_nonneg hle.1).symm⟩
 refine ⟨k, toD n d, ?_, fun h0 => by have := Y7 h0 d; omega, fun h0 => ?_, by unfold DOk; rw [p6]; exact h⟩
 ·have := T0 d n h hn
  rwa [hk] at this
 ·have : toN n d = 0 := by unfold toN; rw [if_pos (by omega)]
  omega
theorem I7 (d : Dice) (n : Int) (h : DOk d) (hn : 0 ≤ n ∧ n ≤ 4294967296) : ∃ (t : Bool) (d' : Dice), zSx prog 26 [.ptr 0 0, iV n] [y4 d] (bV t) [y4 d'] ∧ DOk d' :=
 ⟨_, _, zBd d n h hn, by unfold DOk t8; rw [p6]; exact h⟩
theorem P2 (d : Dice) (lo hi : Int) (h : DOk d) (hl : -1000 ≤ lo ∧ lo ≤ hi) (hh : hi ≤ 1000000) : ∃ (k : Int) (d' : Dice), zSx prog 20 [.ptr 0 0, iV lo, iV hi] [y4 d] (iV k) [y4 d'] ∧ (lo ≤ k ∧ k ≤ hi) ∧ DOk d' := by
 have st := T0 d (hi - lo) h (by omega)
 have hf := zA8 hl.2 d
 have e1 : IntKind.i64.wrap (hi - lo) = hi - lo := wrap_i64 (by omega) (by omega)
 have e2 : IntKind.i64.wrap (lo + toN (hi - lo) d) = Y1 lo hi d := by
  have : lo + toN (hi - lo) d = Y1 lo hi d := rfl
  rw [this]; exact wrap_i64 (by omega) (by omega)
 have hd : DOk (toD (hi - lo) d) := by unfold DOk; rw [p6]; exact h
 refine ⟨Y1 lo hi d, toD (hi - lo) d, ?_, hf, hd⟩
 generalize Y1 lo hi d = r at *
 clear hf hl hd
 refine z9 func20 rfl (fun E hE => ?_); simp only [go_sem, ntmps20]
 refine wk1 (own [0] (st)) ?_
 refine ⟨[_], [some 0], [], ⟨rfl, trivial⟩, ?_⟩
 simp only [go_sem, *]
theorem zCI (d : Dice) (l : List Int) (h : DOk d) (h0 : 0 < l.length) (h1 : l.length ≤ 1000) : ∃ (x : Int) (d' : Dice), zSx prog 21 [.ptr 0 0, .list (l.map iV)] [y4 d] (iV x) [y4 d'] ∧ x ∈ l ∧ DOk d' := by
 have st := T0 d ((l.length : Int) - 1) h (by omega)
 have hle := Y7 (n := (l.length : Int) - 1) (by omega) d
 have hw : IntKind.i64.wrap ((l.length : Int) - 1) = (l.length : Int) - 1 := wrap_i64 (by omega) (by omega)
 obtain ⟨n, hn⟩ : ∃ n : Nat, toN ((l.length : Int) - 1) d = n := ⟨_, (Int.toNat_of_nonneg hle.1).symm⟩
 rw [hn] at st hle
 have hlt : n < l.length := by omega
 have hd : DOk (toD ((l.length : Int) - 1) d) := by unfold DOk; rw [p6]; exact h
 refine ⟨l.getD n default, _, ?_, j9 hlt, hd⟩
 generalize toD ((l.length : Int) - 1) d = d2 at *
 clear hn hle
 refine z9 func21 rfl (fun E hE => ?_); simp only [go_sem, ntmps21]
 refine wk1 (own [0] (st)) ?_
 refine ⟨[_], [some 0], [], ⟨rfl, trivial⟩, ?_⟩
 simp only [go_sem, *]
theorem zIT (l : List Int) (h : l.length ≤ 4294967296) : ∃ d : Dice, zSx prog 5 [I9 l] [] (.ptr 0 0) [y4 d] ∧ DOk d := ⟨_, zNK l, h⟩
theorem zIS (d : Dice) (many most : Int) (h : DOk d) (hm : 0 ≤ many ∧ many ≤ 1000) (h1 : 1 ≤ most ∧ most ≤ 1000) : ∃ (l : List Str) (d' : Dice), zSx prog 24 [.ptr 0 0, iV many, iV most] [y4 d] (.own 1 1 0 l.length) [y4 d', .row 1 (l.map sV)] ∧
  (∀ s, s ∈ l → ValidN s) ∧ (l.length : Int) ≤ many ∧ DOk d' := by
 obtain ⟨a, b, c⟩ := zLW (d := d) hm.1 h1.1
 exact ⟨_, _, zNJ d many most h hm h1, fun s hs => (a s hs).1, b, by unfold DOk; rw [c]; exact h⟩
theorem zIW (d : Dice) (many : Int) (h : DOk d) (hm : 0 ≤ many ∧ many ≤ 4) : ∃ (r : List Rule) (d' : Dice), zSx prog 23 [.ptr 0 0, iV many] [y4 d] (.own 1 2 0 r.length) [y4 d', .row 2 (r.map Rule.enc)] ∧
  r9 r = 0 ∧ (r.length : Int) ≤ many ∧ DOk d' := by
 obtain ⟨a, b, c⟩ := zMD (d := d) hm
 exact ⟨_, _, zNM d many h (by omega), a, b, by unfold DOk; rw [c]; exact h⟩
end Go.Abs

namespace Go.Abs
open Go
theorem zA6 {α : Type} (cmp : α → α → Int) : ∀ (xs ys : List α) (b : Option α), w7 cmp b (xs ++ ys) = w7 cmp (w7 cmp b xs) ys
 | [], ys, b => by rw [List.nil_append]; cases b <;> rfl
 | x :: r, ys, none => by
  rw [List.cons_append, w7, w7]; exact zA6 cmp r ys _
 | x :: r, ys, some y => by
  rw [List.cons_append, w7, w7]
  split
  ·exact zA6 cmp r ys _
  ·exact zA6 cmp r ys _
theorem zIu {α : Type} (cmp : α → α → Int) (x : α) : ∀ b : Option α, w7 cmp b [x] = match b with
  | none => some x
  | some y => if cmp x y < 0 then some x else some y
 | none => rfl
 | some y => by
  rw [w7]
  by_cases h : cmp x y < 0
  ·simp only [if_pos h, w7]
  ·simp only [if_neg h, w7]
def T1 (l : List Rule) (to : Str) (n : Nat) (pre : List Str) (S : List Str × Option (List Str)) (s : Str) : List Str × Option (List Str) :=
 if s ∈ S.1 then S else (S.1 ++ [s], w7 zS1 S.2 (j6 l to n s pre))
theorem zCQ (l : List Rule) (to : Str) (n : Nat) (pre : List Str) : ∀ (L m m' : List Str) (B : Option (List Str)), (∀ x, x ∈ m ↔ x ∈ m') →
  (L.foldl (T1 l to n pre) (m, B)).2 = w7 zS1 B ((O7 m' L).flatMap fun s => j6 l to n s pre)
 | [], m, m', B, _ => by
  simp only [List.foldl_nil, O7, List.flatMap_nil]
  cases B <;> rfl
 | x :: r, m, m', B, h => by
  rw [List.foldl_cons, O7]
  by_cases hx : x ∈ m'
  ·rw [if_pos hx, T1, if_pos ((h x).2 hx)]
   exact zCQ l to n pre r m m' B h
  ·rw [if_neg hx, T1, if_neg (fun k => hx ((h x).1 k)), List.flatMap_cons, zA6]
   exact zCQ l to n pre r _ _ _ (fun y => by simp only [List.mem_append, List.mem_cons, List.not_mem_nil, or_false, h y]; exact or_comm)
theorem zJb (l : List Rule) (to : Str) (n : Nat) (now : Str) (pre : List Str) (B : Option (List Str)) :
  ((Q3 l now).foldl (T1 l to n (pre ++ [now])) ([], B)).2 = w7 zS1 B (j6 l to (n + 1) now pre) := by
 rw [zCQ l to n (pre ++ [now]) (Q3 l now) [] [] B (fun _ => Iff.rfl), j6, zAy]
def zT2 (m : List Str) (x : Str) : List Str := if x ∈ m then m else m ++ [x]
end Go.Abs

namespace Go.Abs
open Go Go.Proofs Tryz
attribute [local irreducible] q9 Hold y2
variable [Cur]
theorem zFD : Maps.Keyed prog 94 := Maps.Keyed.of_law (WideMaps.string_law (by kernel_rfl))
abbrev zTK (s : Str) : Value := .string ⟨s.toArray⟩
theorem zBH (s : Str) (hs : s.length ≤ 1000) : zTb prog 94 (zTK s) := by
 have hu : prog.underlying 94 = some .string := by kernel_rfl
 refine ⟨rfl, ?_⟩
 unfold keyOf
 rw [hu]
 simp [mapKey, hu, maxLen]
 omega
theorem sKey_inj {a b : Str} : zTK a = zTK b ↔ a = b := by simp [zTK]
theorem zCa (h : Str) : ∀ hs : List Str, zTJ (zTK h) (hs.map zTK) = if h ∈ hs then some (hs.idxOf h) else none
 | [] => by simp [zTJ]
 | x :: r => by
  have ih := zCa h r
  rw [List.map_cons]
  unfold zTJ
  by_cases e : x = h
  ·subst e; simp
  ·have e' : ¬ zTK x = zTK h := fun k => e (sKey_inj.1 k)
   rw [if_neg e', ih]
   by_cases hm : h ∈ r
   ·rw [if_pos hm, if_pos (by simp [hm])]
    have hb : (x == h) = false := by simpa using e
    simp [List.idxOf_cons, hb]
   ·rw [if_neg hm, if_neg (by simp only [List.mem_cons, not_or]; exact ⟨fun k => e k.symm, hm⟩)]; rfl
theorem zLD (m : List Str) (s : Str) : V4 (m.map zTK) (m.map fun _ => bV true) (zTK s) (bV false) = bV (decide (s ∈ m)) := by
 unfold V4; rw [zCa]
 by_cases hm : s ∈ m
 ·rw [if_pos hm]
  have hlt := List.idxOf_lt_length_of_mem hm
  simp [hlt, hm]
 ·rw [if_neg hm]; simp [hm]
theorem zLx (m : List Str) (s : Str) : zTz (m.map zTK) (zTK s) = (zT2 m s).map zTK ∧ zT0 (m.map zTK) (m.map fun _ => bV true) (zTK s) (bV true) = (zT2 m s).map fun _ => bV true := by
 unfold zTz zT0 zT2
 rw [zCa]
 by_cases hm : s ∈ m
 ·rw [if_pos hm, if_pos hm]
  refine ⟨rfl, ?_⟩
  have hlt := List.idxOf_lt_length_of_mem hm
  apply List.ext_getElem (by simp)
  intro i h1 h2
  simp [List.getElem_set]
 ·rw [if_neg hm, if_neg hm]
  simp
theorem zFX : zTh prog 206 = some (94, 4) := by kernel_rfl
theorem zFS {m : List Str} {s : Str} {o : Nat} {H : Nat → AObj} {K : Cont} (hm : ∀ x, x ∈ m → x.length ≤ 1000) (hs : s.length ≤ 1000) (ho : H o = .mapo (m.map zTK) (m.map fun _ => bV true)) (hk : K (bV (decide (s ∈ m))) [o] []) : P6 prog 206 (.mp o) (sV s) false H K := by
 have hz : zeroT prog 4 = some (.bool false) := by kernel_rfl
 unfold P6
 rw [zFX]
 simp only [zTs, hz, ho]
 refine ⟨zFD, zBH s hs, by simp [Value.cells, Value.oneCell'], fun q hq => ?_, ?_⟩
 ·obtain ⟨k, hk, rfl⟩ := List.mem_map.1 hq; exact zBH k (hm k hk)
 ·have e : zAV (.bool false) = bV false := rfl
  rw [e, zLD]; simpa using hk
theorem zPq {m : List Str} {s : Str} {o : Nat} {H : Nat → AObj} {K : Cont} (hm : ∀ x, x ∈ m → x.length ≤ 1000) (hs : s.length ≤ 1000) (ho : H o = .mapo (m.map zTK) (m.map fun _ => bV true)) (hk : K (.tup []) [o] [(o, .mapo ((zT2 m s).map zTK) ((zT2 m s).map fun _ => bV true))]) : U4 prog 206 (.mp o) (sV s) (bV true) H K := by
 unfold U4
 rw [zFX]
 simp only [zTs, ho]
 obtain ⟨h1, h2⟩ := zLx m s
 refine ⟨zFD, zBH s hs, fun q hq => ?_, .raw _, rfl, ?_⟩
 ·obtain ⟨k, hk, rfl⟩ := List.mem_map.1 hq; exact zBH k (hm k hk)
 ·have e : zSz H 3 (bV true) = (bV true, []) := rfl
  rw [e, h1, h2]; simpa [w4] using hk
theorem zDA (l : List Str) (h1 : l.length ≤ 4294967296) : zSx prog 214 [o5 l] [] (.own 0 1 0 l.length) [.row 1 (l.map sV)] := by
 cases l with
 | nil =>
  refine zDI (fun a c => ?_)
  refine z9 func214 rfl (fun E hE => ?_); simp only [go_sem, ntmps214]
  refine wk2 trivial ?_ ?_
  ·refine ⟨[_], [none], [], ⟨rfl, trivial⟩, ?_⟩
   simp only [go_sem, *]
   simp
  ·refine ⟨[_], [some 1], [], ⟨rfl, trivial⟩, ?_⟩
   simp only [go_sem, *]
 | cons x r =>
  have h2 : r.length + 1 ≤ 4294967296 := by simpa using h1
  refine z9 func214 rfl (fun E hE => ?_); simp only [go_sem, ntmps214]
  repeat' (first | (refine Qr rfl ?_; try intro _ hK; try simp only [go_sem, *]) | refine Qh rfl ?_ | (refine Qc rfl rfl ?_ ?_ <;> (intro hb; have hc := hb; try simp only [go_sem] at hc)) | refine z8 rfl ?_ | ((with_reducible apply And.intro); focus omega) | (refine z7 hK ?_; clear hK; simp only [go_sem, *]) | simp only [z6, z5, go_sem, *])
  all_goals try contradiction
  refine ⟨fun y hy => ?_, fun y hy => ?_, by omega, by omega, ?_⟩
  ·obtain ⟨z, _, rfl⟩ := List.mem_map.1 hy
   simp [go_sem]
  ·obtain ⟨z, _, rfl⟩ := List.mem_map.1 hy
   simp [go_sem]
  ·repeat' (first | (refine Qr rfl ?_; try intro _ hK; try simp only [go_sem, *]) | refine Qh rfl ?_ | (refine Qc rfl rfl ?_ ?_ <;> (intro hb; have hc := hb; try simp only [go_sem] at hc)) | refine z8 rfl ?_ | ((with_reducible apply And.intro); focus omega) | (refine z7 hK ?_; clear hK; simp only [go_sem, *]) | simp only [z6, z5, go_sem, *])
   refine ⟨[_], [some 1], [], ⟨rfl, trivial⟩, ?_⟩
   simp only [go_sem, *]
end Go.Abs

namespace Go.Abs
open Go Go.Proofs Tryz
attribute [local irreducible] q9 Hold y2
variable [Cur]
noncomputable def zEN : Code := sub [0, 1, 0, 1, 1, 1] (O4 Tryz.f187)
noncomputable def X0 (fn : FuncId) : LoopK := ⟨fn, #[10], B0 zEN, B1 zEN, 23⟩
def Z7 : Option (List Str) → AV
 | none => .raw (.slice none 0 0)
 | some c => o5 c
@[go_sem] theorem zQm : Z7 none = .raw (.slice none 0 0) := rfl
@[go_sem] theorem zQn (c : List Str) : Z7 (some c) = .list (c.map sV) := rfl
@[go_sem] theorem zQQ (H : Nat → AObj) (m : List (Option Nat)) (ex : List Nat) (B : Option (List Str)) : XpF H m ex (Z7 B) (Z7 B) ↔ True := by cases B <;> simp [Z7, XpF]
@[go_sem] theorem zSW (f : Nat → Nat) (B : Option (List Str)) : AV.ren f (Z7 B) = Z7 B := by cases B <;> simp [Z7, AV.ren]
abbrev U2 : AV := fnV 189
theorem zQG (fn : FuncId) (c : List Str) : U0 prog [o5 c] [.loopo (X0 fn) [(3, .ptr 1 0), (6, .ptr 2 0), (7, .ptr 3 0)] (some none), .box [U2], .box [.raw (.slice none 0 0)], .box [bV false]] (bV true)
  [.loopo (X0 fn) [(3, .ptr 1 0), (6, .ptr 2 0), (7, .ptr 3 0)] (some none), .box [U2], .box [o5 c], .box [bV true]] := by
 refine A0 (L := X0 fn) (env := [(3, .ptr 1 0), (6, .ptr 2 0), (7, .ptr 3 0)]) (j := none) rfl rfl (fun E l hE => ?_)
 refine X2 rfl ?_
 simp only [X0, V5, go_sem]
 repeat' (first | (refine Qr (ops := _ :: _) rfl ?_; try intro _ hK; try simp only [go_sem, *]) | (refine Qi rfl rfl rfl rfl ?_ ?_ <;> (intro hb; (try intro _ hK); have hc := hb; try simp only [go_sem] at hc; simp only [go_sem, *])) | (refine Qb ?_ ?_; focus kernel_rfl) | ((with_reducible apply And.intro); focus omega) | (refine z7 hK ?_; clear hK; simp only [go_sem, *]) | simp only [z6, z5, go_sem, *])
 refine l7 ?_
 refine ⟨by simp only [go_sem], ?_⟩
 refine C8 (id := 1) rfl ?_
 refine N4 rfl ?_
 refine X2 rfl ?_
 simp only [go_sem]
 repeat' (first | (refine Qr (ops := _ :: _) rfl ?_; try intro _ hK; try simp only [go_sem, *]) | (refine Qi rfl rfl rfl rfl ?_ ?_ <;> (intro hb; (try intro _ hK); have hc := hb; try simp only [go_sem] at hc; simp only [go_sem, *])) | (refine Qb ?_ ?_; focus kernel_rfl) | ((with_reducible apply And.intro); focus omega) | (refine z7 hK ?_; clear hK; simp only [go_sem, *]) | simp only [z6, z5, go_sem, *])
 refine l7 ?_
 refine C9 (t := true) rfl (by simp only [go_sem]) (fun _ => ?_) (fun h => by cases h)
 refine X2 rfl ?_
 simp only [go_sem]
 repeat' (first | (refine Qr (ops := _ :: _) rfl ?_; try intro _ hK; try simp only [go_sem, *]) | (refine Qi rfl rfl rfl rfl ?_ ?_ <;> (intro hb; (try intro _ hK); have hc := hb; try simp only [go_sem] at hc; simp only [go_sem, *])) | (refine Qb ?_ ?_; focus kernel_rfl) | ((with_reducible apply And.intro); focus omega) | (refine z7 hK ?_; clear hK; simp only [go_sem, *]) | simp only [z6, z5, go_sem, *])
 refine l7 ?_
 simp only [z5, go_sem]
 refine ⟨rfl, [some 0, some 1, some 2, some 3], [], ?_⟩
 simp only [go_sem, *]
theorem zQH (fn : FuncId) (b c : List Str) (hb1 : b.length ≤ 1000) (hc1 : c.length ≤ 1000) : U0 prog [o5 c] [.loopo (X0 fn) [(3, .ptr 1 0), (6, .ptr 2 0), (7, .ptr 3 0)] (some none), .box [U2], .box [o5 b], .box [bV true]] (bV true)
  [.loopo (X0 fn) [(3, .ptr 1 0), (6, .ptr 2 0), (7, .ptr 3 0)] (some none), .box [U2], .box [o5 (if zS1 c b < 0 then c else b)], .box [bV true]] := by
 have hca : t6 prog 189 = true := by kernel_rfl
 have sc := zMx c b (by omega) (by omega)
 refine A0 (L := X0 fn) (env := [(3, .ptr 1 0), (6, .ptr 2 0), (7, .ptr 3 0)]) (j := none) rfl rfl (fun E l hE => ?_)
 refine X2 rfl ?_
 simp only [X0, V5, go_sem]
 repeat' (first | (refine Qr (ops := _ :: _) rfl ?_; try intro _ hK; try simp only [go_sem, *]) | (refine Qi rfl rfl rfl rfl ?_ ?_ <;> (intro hb; (try intro _ hK); have hc := hb; try simp only [go_sem] at hc; simp only [go_sem, *])) | (refine Qb ?_ ?_; focus kernel_rfl) | ((with_reducible apply And.intro); focus omega) | (refine z7 hK ?_; clear hK; simp only [go_sem, *]) | simp only [z6, z5, go_sem, *])
 refine l7 ?_
 refine ⟨by simp only [go_sem], ?_⟩
 refine C8 (id := 1) rfl ?_
 refine N4 rfl ?_
 refine X2 rfl ?_
 simp only [go_sem]
 repeat' (first | (refine Qr (ops := _ :: _) rfl ?_; try intro _ hK; try simp only [go_sem, *]) | (refine Qi rfl rfl rfl rfl ?_ ?_ <;> (intro hb; (try intro _ hK); have hc := hb; try simp only [go_sem] at hc; simp only [go_sem, *])) | (refine Qb ?_ ?_; focus kernel_rfl) | ((with_reducible apply And.intro); focus omega) | (refine z7 hK ?_; clear hK; simp only [go_sem, *]) | simp only [z6, z5, go_sem, *])
 refine y5 sc ?_
 simp only [go_sem]
 repeat' (first | (refine Qr (ops := _ :: _) rfl ?_; try intro _ hK; try simp only [go_sem, *]) | (refine Qi rfl rfl rfl rfl ?_ ?_ <;> (intro hb; (try intro _ hK); have hc := hb; try simp only [go_sem] at hc; simp only [go_sem, *])) | (refine Qb ?_ ?_; focus kernel_rfl) | ((with_reducible apply And.intro); focus omega) | (refine z7 hK ?_; clear hK; simp only [go_sem, *]) | simp only [z6, z5, go_sem, *])
 refine l7 ?_
 refine C9 (t := decide (zS1 c b < 0)) rfl (by simp only [go_sem]) (fun h => ?_) (fun h => ?_)
 ·rw [if_pos (by simpa using h)]
  refine X2 rfl ?_
  simp only [go_sem]
  repeat' (first | (refine Qr (ops := _ :: _) rfl ?_; try intro _ hK; try simp only [go_sem, *]) | (refine Qi rfl rfl rfl rfl ?_ ?_ <;> (intro hb; (try intro _ hK); have hc := hb; try simp only [go_sem] at hc; simp only [go_sem, *])) | (refine Qb ?_ ?_; focus kernel_rfl) | ((with_reducible apply And.intro); focus omega) | (refine z7 hK ?_; clear hK; simp only [go_sem, *]) | simp only [z6, z5, go_sem, *])
  refine l7 ?_
  simp only [z5, go_sem]
  refine ⟨rfl, [some 0, some 1, some 2, some 3], [], ?_⟩
  simp only [go_sem, *]
 ·rw [if_neg (by simpa using h)]
  refine zBT rfl ?_
  simp only [z5, go_sem]
  refine ⟨rfl, [some 0, some 1, some 2, some 3], [], ?_⟩
  simp only [go_sem, *]
theorem zQF (fn : FuncId) (B : Option (List Str)) (c : List Str) (hb1 : ∀ b, B = some b → b.length ≤ 1000) (hc1 : c.length ≤ 1000) : U0 prog [o5 c] [.loopo (X0 fn) [(3, .ptr 1 0), (6, .ptr 2 0), (7, .ptr 3 0)] (some none), .box [U2], .box [Z7 B], .box [bV B.isSome]] (bV true)
  [.loopo (X0 fn) [(3, .ptr 1 0), (6, .ptr 2 0), (7, .ptr 3 0)] (some none), .box [U2], .box [Z7 (w7 zS1 B [c])], .box [bV (w7 zS1 B [c]).isSome]] := by
 cases B with
 | none => exact zQG fn c
 | some b =>
  have := zQH fn b c (hb1 b rfl) hc1
  rw [zIu]
  by_cases h : zS1 c b < 0
  ·simp only [if_pos h] at this ⊢; exact this
  ·simp only [if_neg h] at this ⊢; exact this
end Go.Abs

namespace Go.Abs
open Go Go.Proofs Tryz
attribute [local irreducible] q9 Hold y2
variable [Cur]
noncomputable def zEk : Code := sub [0, 1, 0, 1, 1, 1, 1] (O4 Tryz.f213)
noncomputable def D3 (fn : FuncId) : LoopK := ⟨fn, #[34], B0 zEk, B1 zEk, 45⟩
abbrev CS := List Str × Option (List Str)
structure ChainD where
 many : Int
 to : Str
 l : List Rule
 fnG : FuncId
 fnF : FuncId
noncomputable def Z0 (o : Nat) (D : ChainD) (chain : List Str) (S : CS) : List AObj :=
 [.loopo (D3 D.fnG) [(11, .ptr (o + 11) 0), (10, .ptr (o + 10) 0), (6, .ptr (o + 5) 0), (9, .ptr (o + 13) 0)] (some none), .box [iV D.many], .box [sV D.to], .box [.yld (o + 6)], .box [x5 D.l],
  .box [.fn 213 [.ptr (o + 1) 0, .ptr (o + 2) 0, .ptr (o + 3) 0, .ptr (o + 4) 0, .ptr (o + 5) 0]],
  .loopo (X0 D.fnF) [(3, .ptr (o + 7) 0), (6, .ptr (o + 8) 0), (7, .ptr (o + 9) 0)] (some none), .box [U2], .box [Z7 S.2], .box [bV S.2.isSome], .box [o5 chain], .box [.mp (o + 12)], .mapo (S.1.map zTK) (S.1.map fun _ => bV true), .box [bV false]]
structure UsesD where
 k : Str
 u : Str
 v : Str
 i : Nat
 j : Nat
 l : List Rule
 fnU : FuncId
abbrev zCy (u v : Str) : List AV := [.agg [sV u, sV v], .agg [sV v, sV u]]
noncomputable def zG4 : Code := sub [0, 1, 1, 0, 0, 1, 1, 0, 0, 1, 1, 0, 0, 1, 1, 0, 0, 1, 1] (O4 Tryz.f231)
noncomputable def zBk (fn : FuncId) : LoopK := ⟨fn, #[37], B0 zG4, B1 zG4, 44⟩
noncomputable def M1 (D : ChainD) (chain : List Str) (U : UsesD) (S : CS) : List AObj :=
 .loopo (zBk U.fnU) [(3, .ptr 15 0), (2, .ptr 16 0), (25, .own 17 2 0 2), (27, iV U.j), (26, iV 2), (11, iV U.i), (10, iV U.l.length), (9, x5 U.l)] (some none) :: (Z0 1 D chain S ++ [.box [.yld 1], .box [sV U.k], .row 2 (zCy U.u U.v)])
attribute [go_sem] Z0 M1
theorem zL4 {k a b : Str} {i : Nat} (h : i ≤ k.length) : N6 k a b i = (if a.isPrefixOf (k.drop i) = true ∧ v7 (k.take i ++ b ++ k.drop (i + a.length)) 1 12 = true then [k.take i ++ b ++ k.drop (i + a.length)] else []) ++ N6 k a b (i + 1) := by
 unfold N6
 rw [show k.length + 1 - i = (k.length + 1 - (i + 1)) + 1 by omega, List.range'_succ, List.flatMap_cons]
theorem zL3 {k a b : Str} {i : Nat} (h : k.length < i) : N6 k a b i = [] := by
 unfold N6
 rw [show k.length + 1 - i = 0 by omega]; rfl
theorem zLu {a x : Str} (h : a.isPrefixOf x = true) : a.length ≤ x.length := (List.isPrefixOf_iff_prefix.1 h).length_le
theorem zOP (D : ChainD) (chain : List Str) (U : UsesD) (zTD : CS → Prop) (step : CS → Str → CS)
  (hy : ∀ S s, zTD S → v7 s 1 12 = true → U0 prog [sV s] (M1 D chain U S) (bV true) (M1 D chain U (step S s))) (hg : ∀ S s, zTD S → v7 s 1 12 = true → zTD (step S s))
  (k a b : Str) (hk1 : k.length ≤ 1000) (ha : a.length ≤ 1000) (hb1 : b.length ≤ 1000) (S0 : CS) (hS : zTD S0) :
  zSx prog 247 [.yld 0, .ptr 18 0, .ptr 19 0, .ptr 20 0] (M1 D chain U S0 ++ [.box [sV k], .box [sV a], .box [sV b]]) (.tup []) (M1 D chain U ((X3 k a b).foldl step S0) ++ [.box [sV k], .box [sV a], .box [sV b]]) := by
 obtain ⟨T, hT⟩ : ∃ T, (X3 k a b).foldl step S0 = T := ⟨_, rfl⟩
 rw [hT]
 have h0 : (N6 k a b 0).foldl step S0 = T := hT
 clear hT
 simp only [M1, Z0, List.cons_append, List.nil_append]
 refine z9 func247 rfl (fun E hE => ?_); simp only [go_sem, ntmps247]
 repeat' (first | (refine Qr rfl ?_; try intro _ hK; try simp only [go_sem, *]) | (refine Qi rfl rfl rfl rfl ?_ ?_ <;> (intro hb; (try intro _ hK); have hc := hb; try simp only [go_sem] at hc; simp only [go_sem, *])) | refine Qh rfl ?_ | (refine Qc rfl rfl ?_ ?_ <;> (intro hb; have hc := hb; try simp only [go_sem] at hc)) | refine z8 rfl ?_ | (refine Qb ?_ ?_; focus kernel_rfl) | ((with_reducible apply And.intro); focus omega) | (refine z7 hK ?_; clear hK; simp only [go_sem, *]) | simp only [z6, z5, go_sem, *])
 refine Q7 rfl (k.length + 1) (fun i (S : CS) => (N6 k a b i).foldl step S = T ∧ zTD S) 40 (fun i S => [(10, iV i), (9, iV ((k.length + 1 : Nat) : Int)), (0, .yld 0), (1, .ptr 18 0), (2, .ptr 19 0), (3, .ptr 20 0)]) (fun i S => M1 D chain U S ++ [.box [sV k], .box [sV a], .box [sV b]]) [some 0, some 1, some 2, some 3, some 4, some 5, some 6, some 7, some 8, some 9, some 10, some 11, some 12, some 13, some 14, some 15, some 16, some 17, some 18, some 19, some 20] [] (S0) (by exact ⟨h0, hS⟩) ?_; intro i S hi hP
 obtain ⟨hP, hG⟩ := hP
 by_cases hi2 : i ≤ k.length
 ·have hp := zM8 (k.drop i) a (by simp; omega) (by omega)
  rw [zL4 hi2] at hP
  by_cases q : a.isPrefixOf (k.drop i) = true
  ·rw [q] at hp
   have hle := zLu q
   have hil : i + a.length ≤ k.length := by simp at hle; omega
   have hwl : IntKind.i64.wrap ((i : Int) + (a.length : Int)) = ((i + a.length : Nat) : Int) := by rw [wrap_i64 (by omega) (by omega)]; omega
   obtain ⟨t, ht⟩ : ∃ t, k.take i ++ b ++ k.drop (i + a.length) = t := ⟨_, rfl⟩
   have htl : t.length ≤ 3000 := by rw [← ht]; simp; omega
   have sl := zDH t 1 12 (by omega)
   rw [ht] at hP
   by_cases ql : v7 t 1 12 = true
   ·rw [if_pos ⟨q, ql⟩] at hP
    have hstep := hP
    rw [List.foldl_append] at hstep
    have hyt := hy S t hG ql
    have hgt := hg S t hG ql
    rw [ql] at sl
    clear q hle hP hg hy
    repeat' (first | ((refine zAX 5 rfl rfl rfl ?_; simp only [List.take_succ_cons, List.take_zero, List.drop_succ_cons, List.drop_zero])) | (refine Qr rfl ?_; try intro _ hK; try simp only [go_sem, *]) | (refine Qi rfl rfl rfl rfl ?_ ?_ <;> (intro hb; (try intro _ hK); have hc := hb; try simp only [go_sem] at hc; simp only [go_sem, *])) | refine Qh rfl ?_ | refine Qd rfl (by kernel_rfl) ?_ | (refine Qc rfl rfl ?_ ?_ <;> (intro hb; have hc := hb; try simp only [go_sem] at hc)) | refine z8 rfl ?_ | (refine Qb ?_ ?_; focus kernel_rfl) | ((first | refine y5 (hp) ?_ | refine y5 (sl) ?_); simp only [go_sem, *]) | ((with_reducible apply And.intro); focus omega) | (refine z7 hK ?_; clear hK; simp only [go_sem, *]) | simp only [z6, z5, go_sem, *])
    all_goals first | contradiction | omega | skip
    refine zCV rfl rfl (by simp only [go_sem]) ?_
    refine zBm [0, 1, 2, 3, 4, 5, 6, 7, 8, 9, 10, 11, 12, 13, 14, 15, 16, 17] [] hyt rfl rfl (by simp) (by simp only [go_sem]) (by simp only [go_sem]) (by simp) (.inl rfl) (by simp [go_sem]) (by simp [go_sem]) ?_
    simp only [go_sem]
    repeat' (first | (refine Qr rfl ?_; try intro _ hK; try simp only [go_sem, *]) | (refine Qi rfl rfl rfl rfl ?_ ?_ <;> (intro hb; (try intro _ hK); have hc := hb; try simp only [go_sem] at hc; simp only [go_sem, *])) | refine Qh rfl ?_ | refine Qd rfl (by kernel_rfl) ?_ | (refine Qc rfl rfl ?_ ?_ <;> (intro hb; have hc := hb; try simp only [go_sem] at hc)) | refine z8 rfl ?_ | (refine Qb ?_ ?_; focus kernel_rfl) | ((with_reducible apply And.intro); focus omega) | (refine z7 hK ?_; clear hK; simp only [go_sem, *]) | simp only [z6, z5, go_sem, *])
    all_goals first | contradiction | omega | skip
    exact t7 (i' := i + 1) [some 0, some 1, some 2, some 3, some 4, some 5, some 6, some 7, some 8, some 9, some 10, some 11, some 12, some 13, some 14, some 15, some 16, some 17, some 18, some 19, some 20] [] (step S t) (by exact ⟨hstep, hgt⟩)
   ·have ql2 : v7 t 1 12 = false := (Bool.not_eq_true _).mp ql
    rw [if_neg (fun h => ql h.2), List.nil_append] at hP
    rw [ql2] at sl
    clear q hle hg hy ql ql2
    repeat' (first | ((refine zAX 5 rfl rfl rfl ?_; simp only [List.take_succ_cons, List.take_zero, List.drop_succ_cons, List.drop_zero])) | (refine Qr rfl ?_; try intro _ hK; try simp only [go_sem, *]) | (refine Qi rfl rfl rfl rfl ?_ ?_ <;> (intro hb; (try intro _ hK); have hc := hb; try simp only [go_sem] at hc; simp only [go_sem, *])) | refine Qh rfl ?_ | refine Qd rfl (by kernel_rfl) ?_ | (refine Qc rfl rfl ?_ ?_ <;> (intro hb; have hc := hb; try simp only [go_sem] at hc)) | refine z8 rfl ?_ | (refine Qb ?_ ?_; focus kernel_rfl) | ((first | refine y5 (hp) ?_ | refine y5 (sl) ?_); simp only [go_sem, *]) | ((with_reducible apply And.intro); focus omega) | (refine z7 hK ?_; clear hK; simp only [go_sem, *]) | simp only [z6, z5, go_sem, *])
    all_goals first | contradiction | omega | skip
    refine zEp rfl rfl (by simp only [go_sem]) ?_
    repeat' (first | (refine Qr rfl ?_; try intro _ hK; try simp only [go_sem, *]) | (refine Qi rfl rfl rfl rfl ?_ ?_ <;> (intro hb; (try intro _ hK); have hc := hb; try simp only [go_sem] at hc; simp only [go_sem, *])) | refine Qh rfl ?_ | refine Qd rfl (by kernel_rfl) ?_ | (refine Qc rfl rfl ?_ ?_ <;> (intro hb; have hc := hb; try simp only [go_sem] at hc)) | refine z8 rfl ?_ | (refine Qb ?_ ?_; focus kernel_rfl) | ((with_reducible apply And.intro); focus omega) | (refine z7 hK ?_; clear hK; simp only [go_sem, *]) | simp only [z6, z5, go_sem, *])
    all_goals first | contradiction | omega | skip
    exact t7 (i' := i + 1) [some 0, some 1, some 2, some 3, some 4, some 5, some 6, some 7, some 8, some 9, some 10, some 11, some 12, some 13, some 14, some 15, some 16, some 17, some 18, some 19, some 20] [] (S) (by exact ⟨hP, hG⟩)
  ·have q2 : a.isPrefixOf (k.drop i) = false := (Bool.not_eq_true _).mp q
   rw [if_neg (fun h => q h.1), List.nil_append] at hP
   rw [q2] at hp
   clear q q2
   repeat' (first | (refine Qr rfl ?_; try intro _ hK; try simp only [go_sem, *]) | (refine Qi rfl rfl rfl rfl ?_ ?_ <;> (intro hb; (try intro _ hK); have hc := hb; try simp only [go_sem] at hc; simp only [go_sem, *])) | refine Qh rfl ?_ | refine Qd rfl (by kernel_rfl) ?_ | (refine Qc rfl rfl ?_ ?_ <;> (intro hb; have hc := hb; try simp only [go_sem] at hc)) | refine z8 rfl ?_ | (refine Qb ?_ ?_; focus kernel_rfl) | (refine y5 (hp) ?_; simp only [go_sem, *]) | ((with_reducible apply And.intro); focus omega) | (refine z7 hK ?_; clear hK; simp only [go_sem, *]) | simp only [z6, z5, go_sem, *])
   all_goals first | contradiction | omega | skip
   exact t7 (i' := i + 1) [some 0, some 1, some 2, some 3, some 4, some 5, some 6, some 7, some 8, some 9, some 10, some 11, some 12, some 13, some 14, some 15, some 16, some 17, some 18, some 19, some 20] [] (S) (by exact ⟨hP, hG⟩)
 ·rw [zL3 (by omega)] at hP
  have hP : S = T := hP
  subst hP
  repeat' (first | (refine Qr rfl ?_; try intro _ hK; try simp only [go_sem, *]) | (refine Qi rfl rfl rfl rfl ?_ ?_ <;> (intro hb; (try intro _ hK); have hc := hb; try simp only [go_sem] at hc; simp only [go_sem, *])) | refine Qh rfl ?_ | refine Qd rfl (by kernel_rfl) ?_ | (refine Qc rfl rfl ?_ ?_ <;> (intro hb; have hc := hb; try simp only [go_sem] at hc)) | refine z8 rfl ?_ | (refine Qb ?_ ?_; focus kernel_rfl) | ((with_reducible apply And.intro); focus omega) | (refine z7 hK ?_; clear hK; simp only [go_sem, *]) | simp only [z6, z5, go_sem, *])
  all_goals first | contradiction | omega | skip
  refine ⟨[], [some 0, some 1, some 2, some 3, some 4, some 5, some 6, some 7, some 8, some 9, some 10, some 11, some 12, some 13, some 14, some 15, some 16, some 17, some 18, some 19, some 20], [], trivial, ?_⟩
  simp only [go_sem, W4, *]
end Go.Abs

