/-
  WHAT THE PROOF STANDS ON, PART 1: contracts of the program's functions and the logic that they are proved in. No condition.
-/
import Derived.Conc.Listed
import Derived.AtR
import Derived.Orders
import Derived.RangeFuncRecord
import Derived.WalkKit
import Derived.Deep.LoopGhost
import Derived.Deep.Quiet
import Derived.Maps.Keyed
set_option maxRecDepth 100000
set_option maxHeartbeats 4000000
set_option linter.unnecessarySimpa false
set_option linter.unusedVariables false
set_option linter.unusedSimpArgs false
set_option linter.unusedSectionVars false
namespace Go.Abs
open Go
inductive MSt where
 | idle (outs : List Nat)
 | add1 (outs : List Nat)
 | add2 (outs : List Nat)
 | add3 (outs : List Nat)
 | counted (outs : List Nat)
 | recv (outs : List Nat)
 | fin
structure Tok where
 wg : Nat
 ty : TypeId
 ch : Nat
 msg : Nat → Value → World → (Nat → Prop) → Prop
 frz : Nat → Prop
 st : MSt
structure Gh where
 O : Nat → Prop
 F : Nat → Prop
 tok : Option Tok
def zV4 (ty : TypeId) (wg : Nat) (w : World) : Prop := ∃ st sm : Int, w.heap[wg]? = some (.cells #[.int .u64 st, .int .u32 sm] ty)
structure Gh.Wf (γ : Gh) (w : World) : Prop where
 lt : ∀ b, γ.O b ∨ γ.F b → b < w.heap.size
 apart : ∀ b, γ.O b → ¬ γ.F b
structure Rely (γ : Gh) (w w₁ : World) : Prop where
 wf : γ.Wf w
 tape : w₁.tape = w.tape
 os : w₁.os = w.os
 output : w₁.output = w.output
 size : w.heap.size ≤ w₁.heap.size
 block : ∀ b, γ.O b ∨ γ.F b → w₁.heap[b]? = w.heap[b]?
 shared : ∀ k, γ.tok = some k → zV4 k.ty k.wg w → zV4 k.ty k.wg w₁
theorem Rely.refl {γ : Gh} {w : World} (h : γ.Wf w) : Rely γ w w := ⟨h, rfl, rfl, rfl, Nat.le_refl _, fun _ _ => rfl, fun _ _ h => h⟩
theorem Rely.wf' {γ : Gh} {w w₁ : World} (h : Rely γ w w₁) : γ.Wf w₁ := ⟨fun b hb => Nat.lt_of_lt_of_le (h.wf.lt b hb) h.size, h.wf.apart⟩
theorem Rely.trans {γ : Gh} {w w₁ w₂ : World} (h : Rely γ w w₁) (g : Rely γ w₁ w₂) : Rely γ w w₂ :=
 ⟨h.wf, g.tape.trans h.tape, g.os.trans h.os, g.output.trans h.output, Nat.le_trans h.size g.size, fun b hb => (g.block b hb).trans (h.block b hb), fun k hk hw => g.shared k hk (h.shared k hk hw)⟩
def EvOK (γ : Gh) (_ : Nat) (e : Event) : Prop := match e.loc with
 | .cell a => e.sync = false ∧ (γ.O a.block ∨ (e.write = false ∧ γ.F a.block))
 | .obj r => e.sync = false ∧ (γ.O r ∨ (e.write = false ∧ γ.F r))
 | .mark (.extern _) => True
 | .mark .noRoom => True
 | _ => False
def EvsOK (γ : Gh) (n : Nat) (es : Array Event) : Prop := ∀ e, e ∈ es → EvOK γ n e
structure Guar (γ γ' : Gh) (w w' : World) (es : Array Event) : Prop where
 wf : γ'.Wf w'
 tape : w'.tape = w.tape
 os : w'.os = w.os
 output : w'.output = w.output
 size : w.heap.size ≤ w'.heap.size
 block : ∀ b, b < w.heap.size → ¬ γ.O b → w'.heap[b]? = w.heap[b]?
 own : ∀ b, γ'.O b → γ.O b ∨ w.heap.size ≤ b
 fro : ∀ b, γ'.F b → γ.F b ∨ γ.O b ∨ w.heap.size ≤ b
 tok : γ'.tok = γ.tok
 evs : EvsOK γ w.heap.size es
theorem EvsOK.nil {γ : Gh} {n : Nat} : EvsOK γ n #[] := fun e h => by simp at h
theorem EvsOK.append {γ : Gh} {n : Nat} {es es' : Array Event} (h : EvsOK γ n es) (h' : EvsOK γ n es') : EvsOK γ n (es ++ es') := fun e he => (Array.mem_append.1 he).elim (h e) (h' e)
theorem EvsOK.seen {γ : Gh} {n : Nat} {P : Program} {fn : FuncId} {es : Array Event} (h : EvsOK γ n es) : EvsOK γ n (seen P fn es) := fun e he => h e (Conc.mem_seen he)
theorem Guar.refl {γ : Gh} {w : World} (h : γ.Wf w) : Guar γ γ w w #[] := ⟨h, rfl, rfl, rfl, Nat.le_refl _, fun _ _ _ => rfl, fun _ h => .inl h, fun _ h => .inl h, rfl, .nil⟩
abbrev Sts := Goroutine → World → Gh → Prop
structure Way (P : Program) where
 main : Bool
 phase : Sts → Sts
 mono : ∀ {K K' : Sts}, (∀ g w γ, K g w γ → K' g w γ) → ∀ g w γ, phase K g w γ → phase K' g w γ
structure GhFrz (γ γ' : Gh) : Prop where
 own : ∀ b, γ'.O b → γ.O b
 fro : ∀ b, γ'.F b → γ.F b ∨ γ.O b
 apart : ∀ b, γ'.O b → ¬ γ'.F b
 tok : γ'.tok = γ.tok
theorem GhFrz.rely {γ γ' : Gh} {w w₁ : World} (h : GhFrz γ γ') (hr : Rely γ w w₁) : Rely γ' w w₁ :=
 have hs : ∀ b, γ'.O b ∨ γ'.F b → γ.O b ∨ γ.F b := fun b hb => hb.elim (fun h1 => .inl (h.own b h1)) (fun h1 => (h.fro b h1).symm)
 ⟨⟨fun b hb => hr.wf.lt b (hs b hb), h.apart⟩, hr.tape, hr.os, hr.output, hr.size, fun b hb => hr.block b (hs b hb), fun k hk => hr.shared k (h.tok ▸ hk)⟩
def zEG {P : Program} (M : Way P) (X : Sts) : Sts := fun g w γ => g.status = .running ∧ ∀ w₁, Rely γ w w₁ → ∃ g' w' es γ', stepG P M.main g w₁ = .go g' w' es ∧ Guar γ γ' w₁ w' es ∧ X g' w' γ'
def Run {P : Program} (M : Way P) (S : Sts) : Sts := fun g w γ => ∀ X : Sts,
 (∀ g w γ, S g w γ → X g w γ) → (∀ g w γ, zEG M X g w γ → X g w γ) → (∀ g w γ, (∀ w₁, Rely γ w w₁ → M.phase X g w₁ γ) → X g w γ) → (∀ g w γ γ', GhFrz γ γ' → X g w γ' → X g w γ) → X g w γ
section
variable {P : Program} {M : Way P} {S S' : Sts} {g : Goroutine} {w : World} {γ : Gh}
theorem Run.stop (h : S g w γ) : Run M S g w γ := fun _ h1 _ _ _ => h1 _ _ _ h
theorem Run.step (h : zEG M (Run M S) g w γ) : Run M S g w γ := fun X h1 h2 h3 h4 => h2 _ _ _ ⟨h.1, fun w₁ hr =>
 let ⟨g', w', es, γ', e, hg, hx⟩ := h.2 w₁ hr
 ⟨g', w', es, γ', e, hg, hx X h1 h2 h3 h4⟩⟩
theorem Run.phase (h : ∀ w₁, Rely γ w w₁ → M.phase (Run M S) g w₁ γ) : Run M S g w γ := fun X h1 h2 h3 h4 => h3 _ _ _ fun w₁ hr =>
 M.mono (fun _ _ _ hx => hx X h1 h2 h3 h4) _ _ _ (h w₁ hr)
theorem Run.frz {γ' : Gh} (hf : GhFrz γ γ') (h : Run M S g w γ') : Run M S g w γ := fun X h1 h2 h3 h4 => h4 _ _ _ _ hf (h X h1 h2 h3 h4)
theorem Run.bind (h : Run M S g w γ) (hn : ∀ g w γ, S g w γ → Run M S' g w γ) : Run M S' g w γ :=
 h (Run M S') hn (fun _ _ _ h => .step h) (fun _ _ _ h => .phase h) (fun _ _ _ _ hf h => .frz hf h)
theorem Run.mono (h : Run M S g w γ) (hn : ∀ g w γ, S g w γ → S' g w γ) : Run M S' g w γ := h.bind fun _ _ _ h => .stop (hn _ _ _ h)
theorem Run.of_wf (h : γ.Wf w → Run M S g w γ) : Run M S g w γ := by
 by_cases hw : γ.Wf w
 ·exact h hw
 ·exact .phase fun w₁ hr => (hw hr.wf).elim
theorem Run.rely (hS : ∀ g w w₁ γ, S g w γ → Rely γ w w₁ → S g w₁ γ) {w₁ : World} (h : Run M S g w γ) (hr : Rely γ w w₁) : Run M S g w₁ γ :=
 h (fun g w γ => ∀ w₁, Rely γ w w₁ → Run M S g w₁ γ) (fun _ _ _ h w₁ hr => .stop (hS _ _ _ _ h hr))
  (fun _ _ _ h w₁ hr => .step ⟨h.1, fun w₂ hr2 =>
   let ⟨g', w', es, γ', e, hg, hx⟩ := h.2 w₂ (hr.trans hr2)
   ⟨g', w', es, γ', e, hg, hx w' (.refl hg.wf)⟩⟩)
  (fun _ _ _ h w₁ hr => .phase fun w₂ hr2 => M.mono (fun _ w _ hx => .of_wf fun hw => hx w (.refl hw)) _ _ _ (h w₂ (hr.trans hr2))) (fun _ _ _ _ hf h w₁ hr => .frz hf (h w₁ (hf.rely hr))) w₁ hr
theorem Run.quiet {g' : Goroutine} (hs : g.status = .running) (h : ∀ w, stepG P M.main g w = .go g' w #[]) (hn : ∀ w₁, Rely γ w w₁ → Run M S g' w₁ γ) : Run M S g w γ :=
 .step ⟨hs, fun w₁ hr => ⟨g', w₁, #[], γ, h w₁, .refl hr.wf', hn w₁ hr⟩⟩
end
abbrev GR (b : Frame) (a : Act) (k : List Item) (cs : List Frame) : Goroutine := Conc.G (b.atR a k) cs
section moves
variable {P : Program} {main : Bool} {b : Frame} {a : Act} {k : List Item} {cs : List Frame} {w : World}
theorem zLX : stepG P main (GR b a (.code .skip :: k) cs) w = .go (GR b a k cs) w #[] := by simp [Conc.G, stepG, stepG.exec, Frame.atR]
theorem zLP {l : Nat} : stepG P main (GR b a (.code (.label l) :: k) cs) w = .go (GR b a k cs) w #[] := by simp [Conc.G, stepG, stepG.exec, Frame.atR]
theorem zLM {id : Nat} : stepG P main (GR b a (.inBlock id :: k) cs) w = .go (GR b a k cs) w #[] := by simp [Conc.G, stepG, stepG.exec, Frame.atR]
theorem zLO {c : Code} : stepG P main (GR b a (.inScope c :: k) cs) w = .go (GR b a k cs) w #[] := by simp [Conc.G, stepG, stepG.exec, Frame.atR]
theorem zFV {x y : Code} : stepG P main (GR b a (.code (.seq x y) :: k) cs) w = .go (GR b a (.code x :: .code y :: k) cs) w #[] := by simp [Conc.G, stepG, stepG.exec, Frame.atR]
theorem zLJ {c : Operand} {x y : Code} {t : Bool} (h : a.eval c = .bool t) :
  stepG P main (GR b a (.code (.cond c x y) :: k) cs) w = .go (GR b a (.code (if t then x else y) :: k) cs) w #[] := by
 have h' := Frame.eval_atR b a (.code (.cond c x y) :: k)
 simp only [Frame.atR] at h'
 simp [Conc.G, stepG, stepG.exec, Frame.atR, h', h]
theorem zLI {id : Nat} {c : Code} : stepG P main (GR b a (.code (.block id c) :: k) cs) w = .go (GR b a (.code c :: .inBlock id :: k) cs) w #[] := by simp [Conc.G, stepG, stepG.exec, Frame.atR]
theorem zLQ {c : Code} : stepG P main (GR b a (.code (.loop c) :: k) cs) w = .go (GR b a (.code c :: .inLoop c :: k) cs) w #[] := by simp [Conc.G, stepG, stepG.exec, Frame.atR]
theorem zLN {c : Code} : stepG P main (GR b a (.inLoop c :: k) cs) w = .go (GR b a (.code c :: .inLoop c :: k) cs) w #[] := by simp [Conc.G, stepG, stepG.exec, Frame.atR]
theorem zLW {c : Code} : stepG P main (GR b a (.code (.scope c) :: k) cs) w = .go (GR b a (.code c :: .inScope c :: k) cs) w #[] := by simp [Conc.G, stepG, stepG.exec, Frame.atR]
theorem zLL {id : Nat} {k' : List Item} (h : exitTo id k = some k') : stepG P main (GR b a (.code (.exit id) :: k) cs) w = .go (GR b a k' cs) w #[] := by simp [Conc.G, stepG, stepG.exec, Frame.atR, h]
theorem zFT {id : Nat} {ops : Array Oper} : stepG P main (GR b a (.code (.region id ops false) :: k) cs) w = .go (GR b a (.inRegion ops (List.range ops.size) :: k) cs) w #[] := by simp [Conc.G, stepG, stepG.exec, Frame.atR]
theorem zLU {id : Nat} {ops : Array Oper} : stepG P main (GR b a (.code (.region id ops true) :: k) cs) w =
  .go (GR b a (.inRegion ops (Region.schedule (P.follows .mixedOrders) ops (w.tape w.drawn (.order b.fn id))) :: k) cs) { w with drawn := w.drawn + 1 } #[] := by
 simp [Conc.G, stepG, stepG.exec, Frame.atR, choose, Sem.run, Question.forced, Question.cut]
theorem zLV {ops : Array Oper} : stepG P main (GR b a (.inRegion ops [] :: k) cs) w = .go (GR b a k cs) w #[] := by simp [Conc.G, stepG, stepG.exec, Frame.atR]
theorem zFQ (hb : b.roundOf = none) : stepG P main (GR b a [] cs) w = .go (Conc.G { b.atR a [] with mode := .returning } cs) w #[] := by simp [Conc.G, stepG, stepG.exec, Frame.atR, hb]
theorem zFU (hb : b.roundOf = none) : stepG P main (GR b a (.code .ret :: k) cs) w = .go (Conc.G { b.atR a (.code .ret :: k) with mode := .returning } cs) w #[] := by simp [Conc.G, stepG, stepG.exec, Frame.atR, hb]
theorem zLR {ops : Array Oper} {i : Nat} {rest : List Nat} (h : ((ops[i]?).map (Region.wanted · (yielded ops a.tmps))).getD false = false) :
  stepG P main (GR b a (.inRegion ops (i :: rest) :: k) cs) w = .go (GR b (a.put ((ops[i]?).bind (·.dst)) undef) (.inRegion ops rest :: k) cs) w #[] := by
 cases hd : (ops[i]?).bind (·.dst) <;> simp [Conc.G, stepG, stepG.exec, Frame.atR, Frame.finish, Act.put, h, hd]
theorem zE6 (ops : Array Oper) (i : Nat) (rest : List Nat) (v : Value) :
  (b.atR a (.inRegion ops (i :: rest) :: k)).finish v = b.atR (a.put ((ops[i]?).bind (·.dst)) v) (.inRegion ops rest :: k) := by
 cases h : (ops[i]?).bind (·.dst) <;> simp [Frame.finish, Frame.atR, Act.put, h]
theorem zBQ (fr : Frame) (a : Act) (h : fr.tmps = a.tmps) : fr.eval = a.eval := funext fun x => by cases x <;> simp [Frame.eval, Act.eval, h]
theorem zCq {ops : Array Oper} {i : Nat} {rest : List Nat} {o : Oper} (hd : b.roundOf = none ∨ ∀ c, o.op ≠ .defer c) (ho : ops[i]? = some o) (hw : Region.wanted o (yielded ops a.tmps) = true) :
  stepG P main (GR b a (.inRegion ops (i :: rest) :: k) cs) w = stepG.apply P true (b.atR a (.inRegion ops (i :: rest) :: k)) cs none (execOp a.eval o) w := by
 rcases hd with hd | hd
 ·simp [Conc.G, stepG, stepG.exec, stepG.oper, Frame.oper?, Frame.atR, ho, hw, hd, zBQ _ a]
 ·cases hr : b.roundOf with
  | none => simp [Conc.G, stepG, stepG.exec, stepG.oper, Frame.oper?, Frame.atR, ho, hw, hr, zBQ _ a]
  | some l =>
   simp only [Conc.G, stepG, stepG.exec, stepG.oper, Frame.oper?, Frame.atR, ho, hw, hr, Option.map_some, Option.getD_some, if_true]
   cases hop : o.op <;> first | exact (hd _ hop).elim | rw [zBQ _ a rfl]
end moves
def Dest (b : Frame) (k : List Item) (cs : List Frame) : Exit → Act → Goroutine → Prop
 | .normal, a, g => g = GR b a k cs
 | .exit id, a, g => ∃ k₁, exitTo id k₁ = exitTo id k ∧ g = GR b a (.code (.exit id) :: k₁) cs
 | .goto l, a, g => ∃ k₁, gotoIn l k₁ = gotoIn l k ∧ g = GR b a (.code (.goto l) :: k₁) cs
 | .ret, a, g => ∃ k₁, g = GR b a (.code .ret :: k₁) cs
 | .panic ch, a, g => ∃ todo, g = Conc.G { b.atR a todo with mode := .panicking ch } cs
 | .outgrown, _, _ => False
abbrev w6 := Exit → Act → World → Gh → Prop
abbrev Nx3 := Act → World → Gh → Prop
def Bx (q : World → Prop) (γ : Gh) (w : World) : Prop := ∀ w₁, Rely γ w w₁ → q w₁
theorem Bx.rely {q : World → Prop} {γ : Gh} {w w₁ : World} (h : Bx q γ w) (hr : Rely γ w w₁) : Bx q γ w₁ := fun w₂ h2 => h w₂ (hr.trans h2)
def Code.wpM {P : Program} (M : Way P) (ρ : Option Nat) (c : Code) (Q : w6) (a : Act) (w : World) (γ : Gh) : Prop :=
 ∀ (b : Frame) (k : List Item) (cs : List Frame), b.roundOf = ρ → Run M (fun g w γ => ∃ e a, Bx (Q e a · γ) γ w ∧ Dest b k cs e a g) (GR b a (.code c :: k) cs) w γ
theorem Dest.pass {b : Frame} {x : Item} {k : List Item} {cs : List Frame} {e : Exit} {a : Act} {g : Goroutine} (hx : x.plain = true) (he : e ≠ .normal) (h : Dest b (x :: k) cs e a g) : Dest b k cs e a g := by
 cases e with
 | normal => exact (he rfl).elim
 | exit id =>
  obtain ⟨k₁, h1, h2⟩ := h
  exact ⟨k₁, h1.trans (by cases x <;> simp_all [exitTo, Item.plain]), h2⟩
 | goto l =>
  obtain ⟨k₁, h1, h2⟩ := h
  exact ⟨k₁, h1.trans (by cases x <;> simp_all [gotoIn, Item.plain]), h2⟩
 | ret => exact h
 | panic ch => exact h
 | outgrown => exact h
section rules
variable {P : Program} {M : Way P} {ρ : Option Nat} {Q : w6} {a : Act} {w : World} {γ : Gh}
theorem zRa {c : Code} (h : γ.Wf w → Code.wpM M ρ c Q a w γ) : Code.wpM M ρ c Q a w γ := fun b k cs hb => .of_wf fun hw => h hw b k cs hb
theorem zB4 {c : Code} {w₁ : World} (h : Code.wpM M ρ c Q a w γ) (hr : Rely γ w w₁) : Code.wpM M ρ c Q a w₁ γ := fun b k cs hb =>
 (h b k cs hb).rely (fun _ _ _ _ ⟨e, a, h1, h2⟩ hr => ⟨e, a, h1.rely hr, h2⟩) hr
theorem M2 {c : Code} {Q' : w6} (h : Code.wpM M ρ c Q a w γ) (hq : ∀ e a w γ, Q e a w γ → Q' e a w γ) : Code.wpM M ρ c Q' a w γ :=
 fun b k cs hb => (h b k cs hb).mono fun _ _ _ ⟨e, a, h1, h2⟩ => ⟨e, a, fun w₁ hr => hq _ _ _ _ (h1 w₁ hr), h2⟩
theorem zRf (h : Bx (Q .normal a · γ) γ w) : Code.wpM M ρ .skip Q a w γ := fun _ _ _ _ => .quiet rfl (fun _ => zLX) fun _ hr => .stop ⟨.normal, a, h.rely hr, rfl⟩
theorem zRY {l : Nat} (h : Bx (Q .normal a · γ) γ w) : Code.wpM M ρ (.label l) Q a w γ := fun _ _ _ _ => .quiet rfl (fun _ => zLP) fun _ hr => .stop ⟨.normal, a, h.rely hr, rfl⟩
theorem zRX {id : Nat} (h : Bx (Q (.exit id) a · γ) γ w) : Code.wpM M ρ (.exit id) Q a w γ := fun _ k _ _ => .stop ⟨.exit id, a, h, k, rfl, rfl⟩
theorem zRd (h : Bx (Q .ret a · γ) γ w) : Code.wpM M ρ .ret Q a w γ := fun _ k _ _ => .stop ⟨.ret, a, h, k, rfl⟩
def zD1 (next : Nx3) (Q : w6) : w6
 | .normal, a, w, γ => next a w γ
 | e, a, w, γ => Q e a w γ
theorem zH9 {x : Code} {X : Item} {N : Nx3} {b : Frame} {k : List Item} {cs : List Frame} (hx : X.plain = true) (hb : b.roundOf = ρ) (h : Code.wpM M ρ x (zD1 N Q) a w γ)
  (hn : ∀ a w γ, Bx (N a · γ) γ w → Run M (fun g w γ => ∃ e a, Bx (Q e a · γ) γ w ∧ Dest b k cs e a g) (GR b a (X :: k) cs) w γ) :
  Run M (fun g w γ => ∃ e a, Bx (Q e a · γ) γ w ∧ Dest b k cs e a g) (GR b a (.code x :: X :: k) cs) w γ :=
 (h b (X :: k) cs hb).bind fun g w γ ⟨e, a, h1, h2⟩ => by
  cases e with
  | normal => simp only [Dest] at h2; subst h2; exact hn a w γ h1
  | _ => exact .stop ⟨_, a, h1, h2.pass hx (by simp)⟩
theorem zD7 {x y : Code} (h : Code.wpM M ρ x (zD1 (Code.wpM M ρ y Q) Q) a w γ) : Code.wpM M ρ (.seq x y) Q a w γ := fun b k cs hb =>
 .quiet rfl (fun _ => zFV) fun _ hr => zH9 rfl hb (zB4 h hr) fun _ w _ h1 => .of_wf fun hw => h1 w (.refl hw) b k cs hb
theorem zH8 {c : Operand} {x y : Code} {t : Bool} (hc : a.eval c = .bool t) (h : Code.wpM M ρ (if t then x else y) Q a w γ) : Code.wpM M ρ (.cond c x y) Q a w γ := fun b k cs hb =>
 .quiet rfl (fun _ => zLJ hc) fun _ hr => zB4 h hr b k cs hb
theorem zRW {c : Operand} {x y : Code} {t : Bool} (hc : a.eval c = .bool t) (ht : t = true → Code.wpM M ρ x Q a w γ) (hf : t = false → Code.wpM M ρ y Q a w γ) : Code.wpM M ρ (.cond c x y) Q a w γ := by
 cases t
 ·exact zH8 hc (hf rfl)
 ·exact zH8 hc (ht rfl)
def zBX (id : Nat) (Q : w6) : w6
 | .exit id', a, w, γ => if id' = id then Q .normal a w γ else Q (.exit id') a w γ
 | e, a, w, γ => Q e a w γ
theorem zRV {id : Nat} {c : Code} (h : Code.wpM M ρ c (zBX id Q) a w γ) : Code.wpM M ρ (.block id c) Q a w γ := fun b k cs hb =>
 .quiet rfl (fun _ => zLI) fun _ hr => ((zB4 h hr) b (.inBlock id :: k) cs hb).bind fun g w γ ⟨e, a, h1, h2⟩ => by
  cases e with
  | normal => simp only [Dest] at h2; subst h2; exact .quiet rfl (fun _ => zLM) fun _ hr => .stop ⟨.normal, a, h1.rely hr, rfl⟩
  | exit id' =>
   obtain ⟨k₁, h3, rfl⟩ := h2
   by_cases hid : id' = id
   ·subst hid
    simp only [zBX, if_true] at h1
    refine .quiet rfl (fun _ => zLL (h3.trans (by simp [exitTo]))) fun _ hr => .stop ⟨.normal, a, h1.rely hr, rfl⟩
   ·simp only [zBX, hid, if_false] at h1
    have : (id == id') = false := by simp; exact fun h => hid h.symm
    exact .stop ⟨.exit id', a, h1, k₁, h3.trans (by simp [exitTo, this]), rfl⟩
  | goto l =>
   obtain ⟨k₁, h3, rfl⟩ := h2
   exact .stop ⟨.goto l, a, h1, k₁, h3.trans (by simp [gotoIn]), rfl⟩
  | ret => exact .stop ⟨.ret, a, h1, h2⟩
  | panic ch => exact .stop ⟨.panic ch, a, h1, h2⟩
  | outgrown => exact h2.elim
def zM3 (Q : w6) : w6
 | .goto _, _, _, _ => False
 | e, a, w, γ => Q e a w γ
theorem zRe {c : Code} (h : Code.wpM M ρ c (zM3 Q) a w γ) : Code.wpM M ρ (.scope c) Q a w γ := fun b k cs hb =>
 .quiet rfl (fun _ => zLW) fun _ hr => ((zB4 h hr) b (.inScope c :: k) cs hb).bind fun g w γ ⟨e, a, h1, h2⟩ => by
  cases e with
  | normal => simp only [Dest] at h2; subst h2; exact .quiet rfl (fun _ => zLO) fun _ hr => .stop ⟨.normal, a, h1.rely hr, rfl⟩
  | exit id' =>
   obtain ⟨k₁, h3, rfl⟩ := h2
   exact .stop ⟨.exit id', a, h1, k₁, h3.trans (by simp [exitTo]), rfl⟩
  | goto l => exact .of_wf fun hw => (h1 w (.refl hw)).elim
  | ret => exact .stop ⟨.ret, a, h1, h2⟩
  | panic ch => exact .stop ⟨.panic ch, a, h1, h2⟩
  | outgrown => exact h2.elim
theorem zRZ {c : Code} (I : Nat → Nx3) (n : Nat) (h₀ : I n a w γ) (hI : ∀ n a w w₁ γ, I n a w γ → Rely γ w w₁ → I n a w₁ γ)
  (round : ∀ n a w γ, I n a w γ → Code.wpM M ρ c (zD1 (fun a' w' γ' => ∃ n', n' < n ∧ I n' a' w' γ') Q) a w γ) : Code.wpM M ρ (.loop c) Q a w γ := fun b k cs hb =>
 .quiet rfl (fun _ => zLQ) fun w₁ hr => by
  have key : ∀ n a w γ, I n a w γ → Run M (fun g w γ => ∃ e a, Bx (Q e a · γ) γ w ∧ Dest b k cs e a g) (GR b a (.code c :: .inLoop c :: k) cs) w γ := by
   intro n
   induction n using Nat.strongRecOn with
   | _ n ih =>
    intro a w γ h
    refine zH9 rfl hb (round n a w γ h) fun a w γ h1 => ?_
    exact .quiet rfl (fun _ => zLN) fun w₁ hr => by
     obtain ⟨n', hlt, h2⟩ := h1 w₁ hr
     exact ih n' hlt a w₁ γ h2
  exact key n a w₁ γ (hI _ _ _ _ _ h₀ hr)
end rules
end Go.Abs

namespace Go.Abs
open Go
section
variable {P : Program} {M : Way P} {ρ : Option Nat} {Q : w6} {a : Act} {w : World} {γ : Gh}
def zCX (b : Frame) (k : List Item) (cs : List Frame) (Q : w6) : Sts := fun g w γ => ∃ e a, Bx (Q e a · γ) γ w ∧ Dest b k cs e a g
theorem zJr {b : Frame} {k : List Item} {cs : List Frame} : ∀ g w w₁ γ, zCX b k cs Q g w γ → Rely γ w w₁ → zCX b k cs Q g w₁ γ := fun _ _ _ _ ⟨e, a, h1, h2⟩ hr => ⟨e, a, h1.rely hr, h2⟩
def zNC (b : Frame) (k : List Item) (cs : List Frame) (ops : Array Oper) (rest : List Nat) (next : Nx3) (Q : w6) : Sts := fun g w γ =>
 (∃ a, Bx (next a · γ) γ w ∧ g = GR b a (.inRegion ops rest :: k) cs) ∨ ∃ ch a, Bx (Q (.panic ch) a · γ) γ w ∧ ∃ todo, g = Conc.G { b.atR a todo with mode := .panicking ch } cs
def Z0 (M : Way P) (ρ : Option Nat) (o : Oper) (next : Nx3) (Q : w6) (a : Act) (w : World) (γ : Gh) : Prop :=
 ∀ (b : Frame) (k : List Item) (cs : List Frame) (ops : Array Oper) (i : Nat) (rest : List Nat), b.roundOf = ρ → ops[i]? = some o → Region.wanted o (yielded ops a.tmps) = true →
  Run M (zNC b k cs ops rest next Q) (GR b a (.inRegion ops (i :: rest) :: k) cs) w γ
def zUZ (M : Way P) (ρ : Option Nat) (ops : Array Oper) (Q : w6) (l : List Nat) (a : Act) (w : World) (γ : Gh) : Prop :=
 ∀ (b : Frame) (k : List Item) (cs : List Frame), b.roundOf = ρ → Run M (zCX b k cs Q) (GR b a (.inRegion ops l :: k) cs) w γ
theorem zGW {ops : Array Oper} {l : List Nat} {w₁ : World} (h : zUZ M ρ ops Q l a w γ) (hr : Rely γ w w₁) : zUZ M ρ ops Q l a w₁ γ := fun b k cs hb => (h b k cs hb).rely zJr hr
theorem H2 {ops : Array Oper} (h : Bx (Q .normal a · γ) γ w) : zUZ M ρ ops Q [] a w γ := fun _ _ _ _ => .quiet rfl (fun _ => zLV) fun _ hr => .stop ⟨.normal, a, h.rely hr, rfl⟩
theorem N2 {ops : Array Oper} {i : Nat} {rest : List Nat} {o : Oper} (ho : ops[i]? = some o) (hw : Region.wanted o (yielded ops a.tmps) = true) (h : Z0 M ρ o (zUZ M ρ ops Q rest) Q a w γ) : zUZ M ρ ops Q (i :: rest) a w γ := fun b k cs hb =>
 (h b k cs ops i rest hb ho hw).bind fun g w γ hS => by
  rcases hS with ⟨a, h1, rfl⟩ | ⟨ch, a, h1, todo, rfl⟩
  ·exact .of_wf fun hw => h1 w (.refl hw) b k cs hb
  ·exact .stop ⟨.panic ch, a, h1, todo, rfl⟩
theorem zAB {ops : Array Oper} {i : Nat} {rest : List Nat} (hw : ((ops[i]?).map (Region.wanted · (yielded ops a.tmps))).getD false = false) (h : zUZ M ρ ops Q rest (a.put ((ops[i]?).bind (·.dst)) undef) w γ) : zUZ M ρ ops Q (i :: rest) a w γ := fun b k cs hb =>
 .quiet rfl (fun _ => zLR hw) fun _ hr => zGW h hr b k cs hb
theorem D7 {id : Nat} {ops : Array Oper} (h : zUZ M ρ ops Q (List.range ops.size) a w γ) : Code.wpM M ρ (.region id ops false) Q a w γ := fun b k cs hb =>
 .quiet rfl (fun _ => zFT) fun _ hr => zGW h hr b k cs hb
theorem Guar.draw (h : γ.Wf w) : Guar γ γ w { w with drawn := w.drawn + 1 } #[] := ⟨⟨h.lt, h.apart⟩, rfl, rfl, rfl, Nat.le_refl _, fun _ _ _ => rfl, fun _ h => .inl h, fun _ h => .inl h, rfl, .nil⟩
theorem zRc {id : Nat} {ops : Array Oper} (h : Bx (fun w₁ => ∀ t, zUZ M ρ ops Q (Region.schedule (P.follows .mixedOrders) ops t) a { w₁ with drawn := w₁.drawn + 1 } γ) γ w) : Code.wpM M ρ (.region id ops true) Q a w γ := fun b k cs hb =>
 .step ⟨rfl, fun w₁ hr => ⟨_, _, _, γ, zLU, .draw hr.wf', h w₁ hr _ b k cs hb⟩⟩
theorem zGV {o : Oper} {N N' : Nx3} (h : Z0 M ρ o N Q a w γ) (hn : ∀ a w γ, N a w γ → N' a w γ) : Z0 M ρ o N' Q a w γ := fun b k cs ops i rest hb ho hw =>
 (h b k cs ops i rest hb ho hw).mono fun _ _ _ hS => hS.imp (fun ⟨a, h1, h2⟩ => ⟨a, fun w₁ hr => hn _ _ _ (h1 w₁ hr), h2⟩) id
def opM (M : Way P) (ρ : Option Nat) (ops : Array Oper) (Q : w6) (i : Nat) (K : Nx3) (a : Act) (w : World) (γ : Gh) : Prop := match ops[i]? with
 | none => K a w γ
 | some o => if Region.wanted o (yielded ops a.tmps) then Z0 M ρ o K Q a w γ else K (a.put o.dst undef) w γ
def zVO (M : Way P) (ρ : Option Nat) (ops : Array Oper) (Q : w6) : Nat → Array Bool → Act → World → Gh → Prop
 | 0, listed, a, w, γ => Region.ready .any ops listed = [] ∧ Bx (Q .normal a · γ) γ w
 | fuel + 1, listed, a, w, γ => (Region.ready .any ops listed = [] → Bx (Q .normal a · γ) γ w) ∧ ∀ i, i ∈ Region.ready .any ops listed → opM M ρ ops Q i (zVO M ρ ops Q fuel (listed.setIfInBounds i true)) a w γ
theorem zND {ops : Array Oper} {i : Nat} {rest : List Nat} (h : opM M ρ ops Q i (zUZ M ρ ops Q rest) a w γ) : zUZ M ρ ops Q (i :: rest) a w γ := by
 unfold opM at h
 cases ho : ops[i]? with
 | none =>
  rw [ho] at h
  have := zAB (ops := ops) (i := i) (rest := rest) (a := a) (w := w) (γ := γ) (M := M) (ρ := ρ) (Q := Q) (by simp [ho])
  rw [ho] at this
  exact this h
 | some o =>
  rw [ho] at h
  by_cases hw : Region.wanted o (yielded ops a.tmps) = true
  ·simp only [hw, if_true] at h; exact N2 ho hw h
  ·simp only [hw, Bool.false_eq_true, if_false] at h
   have := zAB (ops := ops) (i := i) (rest := rest) (a := a) (w := w) (γ := γ) (M := M) (ρ := ρ) (Q := Q) (by simp [ho, hw])
   rw [ho] at this
   exact this h
theorem zNA {ops : Array Oper} {i : Nat} {K K' : Nx3} (h : opM M ρ ops Q i K a w γ) (hk : ∀ a w γ, K a w γ → K' a w γ) : opM M ρ ops Q i K' a w γ := by
 unfold opM at *
 cases ho : ops[i]? with
 | none => rw [ho] at h; exact hk _ _ _ h
 | some o =>
  rw [ho] at h
  by_cases hw : Region.wanted o (yielded ops a.tmps) = true
  ·simp only [hw, if_true] at *; exact zGV h hk
  ·simp only [hw, Bool.false_eq_true, if_false] at *; exact hk _ _ _ h
theorem zEK {ops : Array Oper} : ∀ (fuel t : Nat) (listed : Array Bool) (a : Act) (w : World) (γ : Gh), zVO M ρ ops Q fuel listed a w γ → zUZ M ρ ops Q (Region.linearise.go .any ops fuel t listed []) a w γ
 | 0, t, listed, a, w, γ, h => by simp only [Region.linearise.go, List.reverse_nil]; exact H2 h.2
 | fuel + 1, t, listed, a, w, γ, h => by
  obtain ⟨h0, h1⟩ := h
  simp only [Region.linearise.go]
  change zUZ M ρ ops Q (match (Region.ready .any ops listed)[t % (Region.ready .any ops listed).length]? with
   | some i => Region.linearise.go .any ops fuel (t / (Region.ready .any ops listed).length) (listed.setIfInBounds i true) [i]
   | none => [].reverse) a w γ
  cases hi : (Region.ready .any ops listed)[t % (Region.ready .any ops listed).length]? with
  | none =>
   have hnil : Region.ready .any ops listed = [] := by
    cases hr : Region.ready .any ops listed with
    | nil => rfl
    | cons x xs =>
     rw [hr] at hi
     have hlt : t % (x :: xs).length < (x :: xs).length := Nat.mod_lt _ (by simp)
     rw [List.getElem?_eq_getElem hlt] at hi
     cases hi
   exact H2 (h0 hnil)
  | some i =>
   simp only []
   rw [linearise_go_acc, List.reverse_singleton, List.singleton_append]
   exact zND (zNA (h1 i (List.mem_of_getElem? hi)) fun a w γ => zEK fuel _ _ a w γ)
theorem zIA {id : Nat} {ops : Array Oper} (hm : P.follows .mixedOrders = true) (h : Bx (fun w₁ => zVO M ρ ops Q ops.size (Array.replicate ops.size false) a { w₁ with drawn := w₁.drawn + 1 } γ) γ w) : Code.wpM M ρ (.region id ops true) Q a w γ :=
 zRc fun w₁ hr t => by
  simp only [Region.schedule, hm, Bool.true_or, if_true]
  exact zEK ops.size t _ a _ γ (h w₁ hr)
theorem zEO {fr : Frame} {cs : List Frame} {s : Sem Next} {w' : World} {x : Next} (ht : ∀ d r sv k, fr.todo ≠ .call d true r sv :: k) (hr : s.run P w = .ok x w') :
    ∃ es, (∀ e, e ∈ es → e ∈ s.events P w #[]) ∧ (∀ v, x = .value v → stepG.apply P true fr cs none s w = .go (Conc.G (fr.finish v) cs) w' es) ∧ (x = .skip → stepG.apply P true fr cs none s w = .go (Conc.G (fr.finish undef) cs) w' es) ∧
      (∀ f args, x = .enter f args → stepG.apply P true fr cs none s w = .go (Conc.G (Frame.enter P f args .normal) (fr :: cs)) w' es) ∧
      (∀ l f tmps as body, x = .round l f tmps as body → stepG.apply P true fr cs none s w = .go (Conc.G (Frame.round l f tmps as body .normal) (fr :: cs)) w' es) ∧
      (∀ d, x = .defer d → stepG.apply P true fr cs none s w = .go (Conc.G ({ fr with defers := d :: fr.defers }.finish undef) cs) w' es) ∧
      (x = .recover → stepG.apply P true fr cs none s w = match (match fr.roundOf with
               | some l => if P.follows .rangeFuncRecover then tryRecover fr cs else tryRecoverLoop l cs
               | none => tryRecover fr cs) with
        | some (v, cs) => .go (Conc.G (fr.finish v) cs) w' es
        | none => .go (Conc.G (fr.finish .nilIface) cs) w' es) := by
  refine ⟨seen P fr.fn (if (fr.kind == .early) = true then #[] else s.events P w #[]), fun e he => ?_, ?_⟩
  · have := Conc.mem_seen he
    split at this
    · simp at this
    · exact this
  · have hk : (match fr.todo with | .call _ true _ _ :: _ => CallKind.wrapped | _ => .normal) = .normal := by
      split
      · rename_i h; exact (ht _ _ _ _ h).elim
      · rfl
    refine ⟨?_, ?_, ?_, ?_, ?_, ?_⟩
    all_goals intros; subst x; try simp [stepG.apply, hr, GStep.after, Conc.G, hk]; done
    cases hro : fr.roundOf with
    | none => cases htr : tryRecover fr cs <;> simp [stepG.apply, hr, GStep.after, Conc.G, hk, hro, htr]
    | some l =>
      by_cases hf : P.follows .rangeFuncRecover = true
      · cases htr : tryRecover fr cs <;> simp [stepG.apply, hr, GStep.after, Conc.G, hk, hro, htr, hf]
      · cases htr : tryRecoverLoop l cs <;> simp [stepG.apply, hr, GStep.after, Conc.G, hk, hro, htr, hf]
end
end Go.Abs

namespace Go.Abs
open Go
abbrev zUd := Ending → World → Gh → Prop
class Cur where
 way : (P : Program) → Way P
def zB6 (P : Program) (fn : Func) (tmps : Array Value) (R : zUd) (w : World) (γ : Gh) : Prop :=
 Bx (fun w₁ => ∃ v, (results fn tmps).run P w₁ = .ok v w₁ ∧ EvsOK γ w₁.heap.size ((results fn tmps).events P w₁ #[]) ∧ Bx (R (.returned v) · γ) γ w₁) γ w
def zEY (P : Program) (kd : CallKind) (f : FuncId) (cs : List Frame) (R : zUd) : Sts := fun g w γ =>
 ∃ fr fn, g = Conc.G fr cs ∧ fr.fn = f ∧ fr.kind = kd ∧ fr.defers = [] ∧ P.funcs[f]? = some fn ∧ ((fr.mode = .returning ∧ zB6 P fn fr.tmps R w γ) ∨ ∃ ch, fr.mode = .panicking ch ∧ Bx (R (.panicked ch) · γ) γ w)
def U6 {P : Program} (M : Way P) (kd : CallKind) (f : FuncId) (args : Array Value) (R : zUd) (w : World) (γ : Gh) : Prop :=
 ∀ cs : List Frame, Run M (zEY P kd f cs R) (Conc.G (Frame.enter P f args kd) cs) w γ
def zUh {P : Program} (M : Way P) (kd : CallKind) (f : FuncId) (R : zUd) (mode : FrameMode) (a : Act) (w : World) (γ : Gh) : Prop :=
 ∀ (cs : List Frame) (todo : List Item), Run M (zEY P kd f cs R) (Conc.G { fn := f, tmps := a.tmps, todo, defers := a.defers, mode, kind := kd } cs) w γ
section
variable {P : Program} {M : Way P} {ρ : Option Nat} {Q : w6} {R : zUd} {a : Act} {w : World} {γ : Gh} {kd : CallKind} {f : FuncId}
theorem R6 {args : Array Value} {R' : zUd} (h : U6 M kd f args R w γ) (hm : ∀ e w γ, R e w γ → R' e w γ) : U6 M kd f args R' w γ :=
 fun cs => (h cs).mono fun _ _ _ ⟨fr, fn, h1, h2, h3, h4, h5, h6⟩ => ⟨fr, fn, h1, h2, h3, h4, h5, h6.imp (fun h => ⟨h.1, fun w₁ hr => let ⟨v, k1, k2, k3⟩ := h.2 w₁ hr; ⟨v, k1, k2, fun w₂ hr2 => hm _ _ _ (k3 w₂ hr2)⟩⟩) (fun ⟨ch, h⟩ => ⟨ch, h.1, fun w₁ hr => hm _ _ _ (h.2 w₁ hr)⟩)⟩
theorem zH2 {fn : Func} (hf : P.funcs[f]? = some fn) (hd : a.defers = []) (h : zB6 P fn a.tmps R w γ) : zUh M kd f R .returning a w γ := fun _ _ => .stop ⟨_, fn, rfl, rfl, rfl, hd, hf, .inl ⟨rfl, h⟩⟩
theorem zRK {fn : Func} {ch : List PanicEntry} (hf : P.funcs[f]? = some fn) (hd : a.defers = []) (h : Bx (R (.panicked ch) · γ) γ w) : zUh M kd f R (.panicking ch) a w γ :=
 fun _ _ => .stop ⟨_, fn, rfl, rfl, rfl, hd, hf, .inr ⟨ch, rfl, h⟩⟩
theorem zRJ {mode : FrameMode} {r : Nat} {args : Array Value} {ds : List Deferred} (hm : mode ≠ .run) (hd : a.defers = { target := .collected r, args } :: ds)
    (h : Bx (fun w₁ => w₁.heap[r]? = some (.deferred (some [])) ∧ γ.O r ∧ ∃ γ', Guar γ γ' w₁ (w₁.putObj r (.deferred none)) #[] ∧ zUh M kd f R mode { a with defers := ds } (w₁.putObj r (.deferred none)) γ') γ w) : zUh M kd f R mode a w γ := fun cs todo =>
  .step ⟨rfl, fun w₁ hr => by
    obtain ⟨h1, hO, γ', hg, h2⟩ := h w₁ hr
    have hrun : (Instr.takeDeferred r).runT P w₁ #[] = (.ok [] (w₁.putObj r (.deferred none)), #[⟨.obj r, false, false⟩, ⟨.obj r, true, false⟩]) := by
      simp [Instr.takeDeferred, getObj, setObj, bind, Sem.bind, pure, h1, Sem.runT, Obj.isChan, World.putObj, -Sem.runT_eq]
    refine ⟨_, _, seen P f #[⟨.obj r, false, false⟩, ⟨.obj r, true, false⟩], γ', ?_, ⟨hg.wf, hg.tape, hg.os, hg.output, hg.size, hg.block, hg.own, hg.fro, hg.tok, EvsOK.seen fun e he => ?_⟩, h2 cs todo⟩
    · have hu : stepG P M.main (Conc.G { fn := f, tmps := a.tmps, todo, defers := a.defers, mode, kind := kd } cs) w₁ = unwind P M.main { fn := f, tmps := a.tmps, todo, defers := a.defers, mode, kind := kd } cs none w₁ := by
        cases mode with
        | run => exact (hm rfl).elim
        | _ => rfl
      rw [hu]
      simp only [unwind, hd, hrun, GStep.after, Conc.G, List.nil_append, Array.append_empty]
    · simp at he
      rcases he with rfl | rfl <;> exact ⟨rfl, .inl hO⟩⟩
theorem zCQ {fn : Func} {c : Code} {args : Array Value} (hf : P.funcs[f]? = some fn) (hb : fn.body = some c)
  (h : Code.wpM M none c (fun e a w γ => match e with | .normal | .ret => zUh M kd f R .returning a w γ | .panic ch => zUh M kd f R (.panicking ch) a w γ | _ => False) { tmps := args ++ Array.replicate (fn.ntmps - args.size) undef, defers := [] } w γ) :
  U6 M kd f args R w γ := fun cs => by
 have henter : Frame.enter P f args kd = Frame.atR { (default : Frame) with fn := f, kind := kd } { tmps := args ++ Array.replicate (fn.ntmps - args.size) undef, defers := [] } [.code c] := by
  simp [Frame.enter, Frame.atR, hf, hb]; rfl
 rw [henter]
 refine (h { (default : Frame) with fn := f, kind := kd } [] cs rfl).bind fun g w γ ⟨e, a, h1, h2⟩ => ?_
 cases e with
 | normal =>
  simp only [Dest] at h2; subst h2
  exact .quiet rfl (fun _ => zFQ rfl) fun w₁ hr => .of_wf fun _ => h1 w₁ hr cs _
 | ret =>
  obtain ⟨k₁, rfl⟩ := h2
  exact .quiet rfl (fun _ => zFU rfl) fun w₁ hr => .of_wf fun _ => h1 w₁ hr cs _
 | panic ch =>
  obtain ⟨todo, rfl⟩ := h2
  exact .of_wf fun hw => h1 w (.refl hw) cs _
 | exit id => exact .of_wf fun hw => (h1 w (.refl hw)).elim
 | goto l => exact .of_wf fun hw => (h1 w (.refl hw)).elim
 | outgrown => exact h2.elim
theorem zFS {fr c : Frame} {cs : List Frame} {v : Value} {main : Bool} {fn : Func} (hk : fr.kind = .normal) (hd : fr.defers = []) (hm : fr.mode = .returning) (hf : P.funcs[fr.fn]? = some fn) (h1 : (results fn fr.tmps).run P w = .ok v w) (h2 : EvsOK γ w.heap.size ((results fn fr.tmps).events P w #[])) :
  ∃ es, stepG P main (Conc.G fr (c :: cs)) w = .go (Conc.G (c.finish v) cs) w es ∧ EvsOK γ w.heap.size es := by
 refine ⟨seen P fr.fn ((results fn fr.tmps).events P w #[]), ?_, h2.seen⟩
 have : stepG P main (Conc.G fr (c :: cs)) w = unwind P main fr (c :: cs) none w := by
  simp only [Conc.G, stepG, hm]
 rw [this]
 simp [unwind, hd, hm, hf, h1, doReturn, hk, GStep.after, Conc.G]
theorem zFR {fr c : Frame} {cs : List Frame} {ch : List PanicEntry} {main : Bool} {fn : Func} (hd : fr.defers = []) (hm : fr.mode = .panicking ch) (hf : P.funcs[fr.fn]? = some fn) :
  stepG P main (Conc.G fr (c :: cs)) w = .go (Conc.G (c.raise ch) cs) w #[] := by
 have : stepG P main (Conc.G fr (c :: cs)) w = unwind P main fr (c :: cs) none w := by
  simp only [Conc.G, stepG, hm]
 rw [this]
 simp [unwind, hd, hm, Frame.catches, hf, Conc.G]
def zAu {P : Program} (M : Way P) (l : Nat) (fn : FuncId) (tmps : Array Value) (assign body : Code) (R : zUd) (w : World) (γ : Gh) : Prop :=
 ∀ (c : Frame) (cs : List Frame), Run M (fun g w γ => ∃ v, Bx (R (.returned v) · γ) γ w ∧ g = Conc.G (c.finish v) cs) (Conc.G (Frame.round l fn tmps assign body .normal) (c :: cs)) w γ
theorem zGl {l : Nat} {fn : FuncId} {tmps : Array Value} {assign body : Code} {R' : zUd} (h : zAu M l fn tmps assign body R w γ) (hm : ∀ e w γ, R e w γ → R' e w γ) : zAu M l fn tmps assign body R' w γ :=
 fun c cs => (h c cs).mono fun _ _ _ ⟨v, h1, h2⟩ => ⟨v, fun w₁ hr => hm _ _ _ (h1 w₁ hr), h2⟩
def zVr : Exit → Option (Option Code)
 | .normal => some none
 | .ret => some (some .ret)
 | .exit id => some (some (.exit id))
 | .goto t => some (some (.goto t))
 | _ => none
theorem Guar.put {γ : Gh} {w : World} {r : Nat} {o : Obj} {es : Array Event} (h : γ.Wf w) (hO : γ.O r) (he : EvsOK γ w.heap.size es) : Guar γ γ w (w.putObj r o) es :=
 ⟨⟨fun b hb => by rw [World.putObj_size]; exact h.lt b hb, h.apart⟩, rfl, rfl, rfl, by rw [World.putObj_size]; exact Nat.le_refl _, fun b _ hn => World.putObj_heap_other (fun e => hn (e ▸ hO)), fun _ h => .inl h, fun _ h => .inl h, rfl, he⟩
theorem zCd {r : Nat} {n : Nat} (hO : γ.O r) : EvsOK γ n #[⟨.obj r, false, false⟩, ⟨.obj r, true, false⟩] := fun e he => by
 simp at he
 rcases he with rfl | rfl <;> exact ⟨rfl, .inl hO⟩
def zWG (l : Nat) (R : zUd) : w6 := fun e _ w γ => ∃ j, zVr e = some j ∧ Bx (fun w₁ => ∃ r, w₁.heap[l]? = some (.loop r) ∧ γ.O l ∧ Bx (R (.returned (.bool j.isNone)) · γ) γ (w₁.putObj l (.loop { r with state := if j.isNone then .ready else .done, pending := j }))) γ w
theorem zNh {l : Nat} {fn : FuncId} {tmps : Array Value} {assign body : Code}
    (h : Code.wpM M (some l) assign (fun e a w γ => e = .normal ∧ Bx (fun w₁ => ∃ r, w₁.heap[l]? = some (.loop r) ∧ r.state = .ready ∧ γ.O l ∧ Code.wpM M (some l) body (zWG l R) a (w₁.putObj l (.loop { r with state := .busy })) γ) γ w) { tmps, defers := [] } w γ) :
    zAu M l fn tmps assign body R w γ := fun c cs => by
  refine (h { (default : Frame) with fn := fn, kind := .normal, roundOf := some l } [.beginRound, .code body] (c :: cs) rfl).bind fun g w γ ⟨e, a, h1, h2⟩ => .of_wf fun hw => ?_
  obtain ⟨he, hB⟩ := h1 w (.refl hw)
  subst he
  simp only [Dest] at h2
  subst h2
  refine .step ⟨rfl, fun w₁ hr => ?_⟩
  obtain ⟨r, k1, k2, k3, k4⟩ := hB w₁ hr
  have hrun : (Instr.beginRound l).run P w₁ = .ok () (w₁.putObj l (.loop { r with state := .busy })) := run_beginRound k1 k2
  have hevs : (Instr.beginRound l).events P w₁ #[] = #[⟨.obj l, false, false⟩, ⟨.obj l, true, false⟩] := by
    simp [Instr.beginRound, Instr.getLoop, getObj, setObj, bind, Sem.bind, pure, k1, k2, Sem.runT, Sem.events, Obj.isChan, -Sem.runT_eq]
  refine ⟨GR { (default : Frame) with fn := fn, kind := .normal, roundOf := some l } a [.code body] (c :: cs), w₁.putObj l (.loop { r with state := .busy }), seen P fn #[⟨.obj l, false, false⟩, ⟨.obj l, true, false⟩], γ, ?_, .put hr.wf' k3 (EvsOK.seen (zCd k3)), ?_⟩
  · simp [Conc.G, stepG, stepG.exec, Frame.atR, stepG.apply, hrun, hevs, Sem.run_bind, Sem.events_bind, GStep.after, Frame.finish]
  · refine (k4 { (default : Frame) with fn := fn, kind := .normal, roundOf := some l } [] (c :: cs) rfl).bind fun g w γ ⟨e, a, h1, h2⟩ => .of_wf fun hw => ?_
    have leave : ∀ (todo : List Item) (j : Option Code), zVr e = some j → (∀ w, stepG P M.main (GR { (default : Frame) with fn := fn, kind := .normal, roundOf := some l } a todo (c :: cs)) w = GStep.after (seen P fn ((Instr.endRound l j).runT P w #[]).2) (match ((Instr.endRound l j).runT P w #[]).1 with
        | .ok v w => doReturn P M.main (({ (default : Frame) with fn := fn, kind := .normal, roundOf := some l } : Frame).atR a todo) (c :: cs) none v w
        | .halt _ w => .ended (.stuck "range over a function: no such loop" ((({ (default : Frame) with fn := fn, kind := .normal, roundOf := some l } : Frame).atR a todo).pos P)) w)) →
        Run M (fun g w γ => ∃ v, Bx (R (.returned v) · γ) γ w ∧ g = Conc.G (c.finish v) cs) (GR { (default : Frame) with fn := fn, kind := .normal, roundOf := some l } a todo (c :: cs)) w γ := by
      intro todo j hj hst
      refine .step ⟨rfl, fun w₁ hr => ?_⟩
      obtain ⟨j', q1, q2⟩ := h1 w₁ hr
      rw [hj] at q1; cases q1
      obtain ⟨r, q3, q4, q5⟩ := q2 w₁ (.refl hr.wf')
      have hrun : (Instr.endRound l j).run P w₁ = .ok (.bool j.isNone) (w₁.putObj l (.loop { r with state := if j.isNone then .ready else .done, pending := j })) := run_endRound j q3
      have hevs : (Instr.endRound l j).events P w₁ #[] = #[⟨.obj l, false, false⟩, ⟨.obj l, true, false⟩] := by
        simp [Instr.endRound, Instr.getLoop, getObj, setObj, bind, Sem.bind, pure, q3, Sem.runT, Sem.events, Obj.isChan, -Sem.runT_eq]
      refine ⟨_, w₁.putObj l (.loop { r with state := if j.isNone then .ready else .done, pending := j }), seen P fn #[⟨.obj l, false, false⟩, ⟨.obj l, true, false⟩], γ, ?_, .put hr.wf' q4 (EvsOK.seen (zCd q4)), .stop ⟨_, q5, rfl⟩⟩
      rw [hst w₁]
      simp [hrun, hevs, doReturn, GStep.after, Conc.G, Frame.atR]
    cases e with
    | normal => simp only [Dest] at h2; subst h2; exact leave [] none rfl fun w => by simp [Conc.G, stepG, stepG.exec, Frame.atR]; rfl
    | ret => obtain ⟨k₁, rfl⟩ := h2; exact leave _ (some .ret) rfl fun w => by simp [Conc.G, stepG, stepG.exec, Frame.atR]; rfl
    | exit id => obtain ⟨k₁, h3, rfl⟩ := h2; exact leave _ (some (.exit id)) rfl fun w => by simp [Conc.G, stepG, stepG.exec, Frame.atR, h3, exitTo]; rfl
    | goto t => obtain ⟨k₁, h3, rfl⟩ := h2; exact leave _ (some (.goto t)) rfl fun w => by simp [Conc.G, stepG, stepG.exec, Frame.atR, h3, gotoIn]; rfl
    | panic ch => obtain ⟨j, q1, _⟩ := h1 w (.refl hw); cases q1
    | outgrown => exact h2.elim
def zB2 (M : Way P) (o : Oper) (next : Nx3) (Q : w6) (a : Act) (w' : World) (γ' : Gh) : Next → Prop
 | .value v => Bx (next (a.put o.dst v) · γ') γ' w'
 | .skip => Bx (next (a.put o.dst undef) · γ') γ' w'
 | .defer d => Bx (next ({ a with defers := d :: a.defers }.put o.dst undef) · γ') γ' w'
 | .round l f tmps assign body => zAu M l f tmps assign body (fun e w γ => match e with | .returned v => next (a.put o.dst v) w γ | _ => False) w' γ'
 | .enter f args => U6 M .normal f args (fun e w γ => match e with | .returned v => next (a.put o.dst v) w γ | .panicked ch => Q (.panic ch) a w γ | .outgrown => False) w' γ'
 | _ => False
theorem T1 {o : Oper} {next : Nx3} (hd : ρ = none ∨ ∀ c, o.op ≠ .defer c)
  (h : Bx (fun w₁ => ∃ x w' γ', (execOp a.eval o).run P w₁ = .ok x w' ∧ Guar γ γ' w₁ w' ((execOp a.eval o).events P w₁ #[]) ∧ zB2 M o next Q a w' γ' x) γ w) : Z0 M ρ o next Q a w γ := fun b k cs ops i rest hb ho hw =>
 .step ⟨rfl, fun w₁ hr => by
  obtain ⟨x, w', γ', hrun, hg, hx⟩ := h w₁ hr
  obtain ⟨es, h1, h2, h3, h4, h5, h6, _⟩ := zEO (P := P) (fr := b.atR a (.inRegion ops (i :: rest) :: k)) (cs := cs) (by simp [Frame.atR]) hrun
  have hG : Guar γ γ' w₁ w' es := ⟨hg.wf, hg.tape, hg.os, hg.output, hg.size, hg.block, hg.own, hg.fro, hg.tok, fun e he => hg.evs e (h1 e he)⟩
  have hfin : ∀ (a : Act) (v : Value), (b.atR a (.inRegion ops (i :: rest) :: k)).finish v = b.atR (a.put o.dst v) (.inRegion ops rest :: k) := fun a v => by rw [zE6, ho]; rfl
  rw [zCq (hd.imp (fun e => hb.trans e) id) ho hw]
  cases x with
  | value v => exact ⟨_, _, es, γ', h2 v rfl, hG, .stop (.inl ⟨_, hx, by rw [hfin]⟩)⟩
  | skip => exact ⟨_, _, es, γ', h3 rfl, hG, .stop (.inl ⟨_, hx, by rw [hfin]⟩)⟩
  | defer d =>
   refine ⟨_, _, es, γ', h6 d rfl, hG, .stop (.inl ⟨_, hx, ?_⟩)⟩
   exact congrArg (fun fr => Conc.G fr cs) (hfin { a with defers := d :: a.defers } undef)
  | round l f tmps as_ body =>
   refine ⟨_, _, es, γ', h5 l f tmps as_ body rfl, hG, (hx _ _).bind ?_⟩
   rintro g w γ ⟨v, k1, rfl⟩
   exact .stop (.inl ⟨_, k1, by rw [hfin]⟩)
  | enter f args =>
   refine ⟨_, _, es, γ', h4 f args rfl, hG, (hx _).bind ?_⟩
   rintro g w γ ⟨fr, fn, rfl, rfl, k2, k3, k4, ⟨k5, k6⟩ | ⟨ch, k5, k6⟩⟩
   ·refine .step ⟨rfl, fun w₁ hr => ?_⟩
    obtain ⟨v, q1, q2, q3⟩ := k6 w₁ hr
    obtain ⟨es, he, hes⟩ := zFS (main := M.main) (c := b.atR a (.inRegion ops (i :: rest) :: k)) (cs := cs) k2 k3 k5 k4 q1 q2
    have hg0 := Guar.refl hr.wf'
    exact ⟨_, _, es, γ, he, ⟨hg0.wf, hg0.tape, hg0.os, hg0.output, hg0.size, hg0.block, hg0.own, hg0.fro, hg0.tok, hes⟩, .stop (.inl ⟨_, q3, by rw [hfin]⟩)⟩
   ·exact .quiet rfl (fun w => zFR k3 k5 k4) fun w₁ hr => .stop (.inr ⟨ch, a, k6.rely hr, _, rfl⟩)
  | _ => exact hx.elim⟩
theorem zNB {o : Oper} {next : Nx3} {v : Value} (hd : ρ = none ∨ ∀ c, o.op ≠ .defer c)
  (h : Bx (fun w₁ => (execOp a.eval o).run P w₁ = .halt (.panic v) w₁ ∧ EvsOK γ w₁.heap.size ((execOp a.eval o).events P w₁ #[]) ∧ Bx (Q (.panic [{ v, recovered := false }]) a · γ) γ w₁) γ w) : Z0 M ρ o next Q a w γ := fun b k cs ops i rest hb ho hw =>
 .step ⟨rfl, fun w₁ hr => by
  obtain ⟨hrun, hev, hx⟩ := h w₁ hr
  rw [zCq (hd.imp (fun e => hb.trans e) id) ho hw]
  have hg0 := Guar.refl hr.wf'
  refine ⟨Conc.G { b.atR a (.inRegion ops (i :: rest) :: k) with mode := .panicking [{ v, recovered := false }] } cs, w₁, seen P b.fn (if (b.kind == .early) = true then #[] else (execOp a.eval o).events P w₁ #[]), γ, ?_, ⟨hg0.wf, hg0.tape, hg0.os, hg0.output, hg0.size, hg0.block, hg0.own, hg0.fro, hg0.tok, EvsOK.seen ?_⟩, .stop (.inr ⟨_, a, hx, _, rfl⟩)⟩
  ·simp [stepG.apply, hrun, GStep.after, Conc.G, Frame.atR, Frame.raise]
  ·split
   ·exact .nil
   ·exact hev⟩
end
end Go.Abs

namespace Go.Abs
open Go
inductive AV where
 | any
 | raw (v : Value)
 | list (xs : List AV)
 | agg (cs : List AV)
 | elt (x : AV)
 | tup (vs : List AV)
 | ptr (o off : Nat)
 | eptr (o sz i off : Nat)
 | own (o sz off len : Nat)
 | fn (f : FuncId) (caps : List AV)
 | mp (o : Nat)
 | fmap (ks : List Value) (xs : List AV)
 | yld (o : Nat)
 | ifp (t : TypeId) (o off : Nat)
 | ifc (t : TypeId) (x : AV)
 | clp (xs : List AV)
 deriving Inhabited
def AV.cells : AV → List AV
 | .agg cs => cs
 | a => [a]
def AV.one : AV → Bool
 | .any | .agg _ | .tup _ => false
 | _ => true
def AV.flat : AV → Bool
 | .agg _ | .tup _ => false
 | _ => true
def U2 (ks : List Value) (n : Nat) (es : List MapEntry) (clock : Nat) : Prop :=
 ks.length = n ∧ n = es.length ∧ ks.Nodup ∧ (es.map (·.key)).Nodup ∧ es.Pairwise (fun x y => x.born < y.born) ∧ ∀ e, e ∈ es → e.born < clock
def MapVals (R : AV → Value → Prop) (ks : List Value) (xs : List AV) (es : List MapEntry) : Prop :=
 ∀ i (h : i < ks.length) (h' : i < xs.length), ∃ e, e ∈ es ∧ e.key = ks[i] ∧ R xs[i] e.val
theorem MapVals.imp {R S : AV → Value → Prop} {ks : List Value} {xs : List AV} {es : List MapEntry} (hm : MapVals R ks xs es) (h : ∀ i (h : i < xs.length) v, R xs[i] v → S xs[i] v) : MapVals S ks xs es := fun i hi hi' =>
 let ⟨e, h1, h2, h3⟩ := hm i hi hi'
 ⟨e, h1, h2, h i hi' _ h3⟩
inductive PR (w : World) (I : Nat → Prop) : AV → Value → Prop
  | any (v : Value) : PR w I .any v
  | raw (v : Value) : v.oneCell' = true → PR w I (.raw v) v
  | nil (a : Option Addr) (cap : Nat) : PR w I (.list []) (.slice a 0 cap)
  | list (b off cap sz : Nat) (xs : List AV) (C : Nat → Nat → Value) : I b → 0 < sz → xs.length ≤ cap →
      (∀ i (h : i < xs.length), (xs[i]).cells.length = sz) →
      (∀ i j, i < xs.length → j < sz → w.cell? ⟨b, off + i * sz + j, none⟩ = some (C i j)) →
      (∀ i (h : i < xs.length) j (hj : j < (xs[i]).cells.length), PR w I ((xs[i]).cells[j]) (C i j)) →
      PR w I (.list xs) (.slice (some ⟨b, off, none⟩) xs.length cap)
  | agg (cs : List AV) (vs : Array Value) : cs.length = vs.size → (∀ i (h : i < cs.length) (h' : i < vs.size), PR w I cs[i] vs[i]) → PR w I (.agg cs) (.agg vs)
  | elt (b off : Nat) (x : AV) (C : Nat → Value) : I b → (∀ j, j < x.cells.length → w.cell? ⟨b, off + j, none⟩ = some (C j)) →
      (∀ j (hj : j < x.cells.length), PR w I (x.cells[j]) (C j)) → PR w I (.elt x) (.pointer (some ⟨b, off, none⟩))
  | nmap : PR w I (.fmap [] []) (.map none)
  | fmap (b : Nat) (es : Array MapEntry) (clock : Nat) (ks : List Value) (xs : List AV) (V : Nat → Value) : I b → w.heap[b]? = some (.map es clock) → U2 ks xs.length es.toList clock →
      (∀ i (h : i < ks.length), ∃ e, e ∈ es.toList ∧ e.key = ks[i] ∧ e.val = V i) → (∀ i (h : i < xs.length), PR w I xs[i] (V i)) → PR w I (.fmap ks xs) (.map (some b))
  | ifc (t : TypeId) (x : AV) (v : Value) : PR w I x v → PR w I (.ifc t x) (.iface t v)
  | clp (xs : List AV) (a : Option Addr) : PR w I (.list xs) (.slice a xs.length xs.length) → PR w I (.clp xs) (.slice a xs.length xs.length)
inductive Loc where
 | un
 | nil
 | blk (b c : Nat)
inductive VR (w : World) (I : Nat → Prop) (loc : Nat → Loc) : AV → Value → Prop
  | pure {a : AV} {v : Value} : PR w I a v → VR w I loc a v
  | agg (cs : List AV) (vs : Array Value) : cs.length = vs.size → (∀ i (h : i < cs.length) (h' : i < vs.size), VR w I loc cs[i] vs[i]) → VR w I loc (.agg cs) (.agg vs)
  | tup (cs : List AV) (vs : Array Value) : cs.length = vs.size → (∀ i (h : i < cs.length) (h' : i < vs.size), VR w I loc cs[i] vs[i]) → VR w I loc (.tup cs) (.tuple vs)
  | ptr (o off b c : Nat) : loc o = .blk b c → VR w I loc (.ptr o off) (.pointer (some ⟨b, off, none⟩))
  | eptr (o sz i off b c : Nat) : loc o = .blk b c → VR w I loc (.eptr o sz i off) (.pointer (some ⟨b, i * sz + off, none⟩))
  | ownN (o sz : Nat) : loc o = .nil → VR w I loc (.own o sz 0 0) (.slice none 0 0)
  | own (o sz off len b c : Nat) (a : Addr) (cap : Nat) : loc o = .blk b c → len ≤ cap → (off + cap) * sz ≤ c → (0 < cap → a = ⟨b, off * sz, none⟩) →
      VR w I loc (.own o sz off len) (.slice (some a) len cap)
  | fn (f : FuncId) (caps : List AV) (vs : Array Value) : caps.length = vs.size → (∀ i (h : i < caps.length) (h' : i < vs.size), VR w I loc caps[i] vs[i]) →
      VR w I loc (.fn f caps) (.func (.func f) #[] vs)
  | mp (o b c : Nat) : loc o = .blk b c → VR w I loc (.mp o) (.map (some b))
  | yld (o b c : Nat) : loc o = .blk b c → VR w I loc (.yld o) (.func (.yield b) #[] #[])
  | ifp (t : TypeId) (o off b c : Nat) : loc o = .blk b c → VR w I loc (.ifp t o off) (.iface t (.pointer (some ⟨b, off, none⟩)))
structure LoopK where
 fn : FuncId
 params : Array Tmp
 assign : Code
 body : Code
 n : Nat
inductive AObj where
 | unb
 | dead
 | box (cs : List AV)
 | row (sz : Nat) (xs : List AV)
 | mapo (ks : List Value) (xs : List AV)
 | iter (cur : Option (Value × AV)) (ks : List Value) (xs : List AV)
 | siter (s : ByteArray) (pos : Nat)
 | tbox (e : TypeId) (cs : List AV)
 | brow (e : TypeId) (l : List UInt8)
 | loopo (L : LoopK) (env : List (Nat × AV)) (pend : Option (Option Code))
 deriving Inhabited
def AObj.live : AObj → Bool
 | .unb | .dead => false
 | _ => true
def lkV : List (Nat × AV) → Nat → AV
 | [], _ => .any
 | (k, v) :: r, t => if k = t then v else lkV r t
def lkO : List (Nat × AObj) → Nat → AObj
 | [], _ => .unb
 | (k, v) :: r, t => if k = t then v else lkO r t
structure AS where
 n : Nat
 env : List (Nat × AV)
 objs : List (Nat × AObj)
def AS.get (σ : AS) (t : Nat) : AV := lkV σ.env t
def AS.obj (σ : AS) (o : Nat) : AObj := lkO σ.objs o
def AS.put (σ : AS) (t : Nat) (v : AV) : AS := { σ with env := (t, v) :: σ.env }
def AS.setO (σ : AS) (o : Nat) (A : AObj) : AS := { σ with objs := (o, A) :: σ.objs }
theorem AS.get_put (σ : AS) (t : Nat) (v : AV) (u : Nat) : (σ.put t v).get u = if t = u then v else σ.get u := rfl
theorem AS.obj_setO (σ : AS) (o : Nat) (A : AObj) (u : Nat) : (σ.setO o A).obj u = if o = u then A else σ.obj u := rfl
def OR (w : World) (I : Nat → Prop) (loc : Nat → Loc) (o : Nat) : AObj → Prop
  | .unb => loc o = .un
  | .dead => True
  | .box cs => (loc o = .nil ∧ cs = []) ∨ ∃ b C e, loc o = .blk b C.size ∧ w.heap[b]? = some (.cells C e (0, 0)) ∧ cs.length ≤ C.size ∧ ∀ i (h : i < cs.length) (h' : i < C.size), VR w I loc cs[i] C[i]
  | .row sz xs => 0 < sz ∧ (∀ i (h : i < xs.length), (xs[i]).cells.length = sz) ∧
      ((loc o = .nil ∧ xs = []) ∨ ∃ b C e, loc o = .blk b C.size ∧ w.heap[b]? = some (.cells C e (0, 0)) ∧ xs.length * sz ≤ C.size ∧
        ∀ i (h : i < xs.length) j (hj : j < (xs[i]).cells.length) (h' : i * sz + j < C.size), PR w I ((xs[i]).cells[j]) C[i * sz + j])
  | .mapo ks xs => ∃ b es clock, loc o = .blk b 0 ∧ w.heap[b]? = some (.map es clock) ∧ U2 ks xs.length es.toList clock ∧ MapVals (PR w I) ks xs es.toList
  | .iter cur ks xs => ∃ b, loc o = .blk b 0 ∧ ((∃ s seen l, w.heap[b]? = some (.mapIter none s seen l) ∧ cur = none ∧ ks = [] ∧ xs = []) ∨
      ∃ m es clock seen, w.heap[b]? = some (.mapIter (some m) clock seen clock) ∧ I m ∧ w.heap[m]? = some (.map es clock) ∧ U2 (es.toList.map (·.key)) es.size es.toList clock ∧
        U2 ks xs.length (es.toList.filter (fun e => !seen.contains e.born)) clock ∧ MapVals (PR w I) ks xs (es.toList.filter (fun e => !seen.contains e.born)) ∧
        ∀ p, cur = some p → ∃ e, e ∈ es.toList ∧ seen.back? = some e.born ∧ e.key = p.1 ∧ PR w I p.2 e.val)
  | .siter s pos => ∃ b, loc o = .blk b 0 ∧ w.heap[b]? = some (.stringIter s pos)
  | .brow e l => (loc o = .nil ∧ l = []) ∨ ∃ b C, loc o = .blk b C.size ∧ w.heap[b]? = some (.cells C e (0, 0)) ∧ C.toList.take l.length = l.map fun c => Value.int .u8 c.toNat
  | .tbox e cs => ∃ b C, loc o = .blk b C.size ∧ w.heap[b]? = some (.cells C e (0, 0)) ∧ (C[0]? = some (.pointer none) ∨ C[0]? = some (.pointer (some ⟨b, 0, none⟩))) ∧ cs.length = C.size ∧ ∀ i (h : i < cs.length) (h' : i < C.size), VR w I loc cs[i] C[i]
  | .loopo L env pend => ∃ b tmps ds, loc o = .blk b 0 ∧ w.heap[b]? = some (.loop { state := (match pend with | none => .busy | some none => .ready | some (some _) => .done), pending := pend.getD none, fn := L.fn, tmps := tmps, params := L.params, assign := L.assign, body := L.body, defers := ds }) ∧ tmps.size = L.n ∧ ∀ t, VR w I loc (lkV env t) (tmps.getD t undef)
structure Env where
 w0 : World
 I0 : Nat → Prop
 n : Nat
 loc0 : Nat → Loc
 fp : Nat → Prop
 γ0 : Gh
 ds : List Deferred
def Env.New (E : Env) (b : Nat) : Prop := E.w0.heap.size ≤ b ∨ ¬ E.γ0.O b
def D9 : Prop := False
def zB8 : List (Nat × Value) := [(0, Value.iface 257 (.agg #[.pointer (some ⟨8, 169, none⟩)]))]
abbrev BYT : TypeId := 243
abbrev MKN : FuncId := 182
abbrev MKE : TypeId := 5
def zEF (E : Env) : Prop := ∀ p, p ∈ zB8 → E.w0.cell? ⟨p.1, 0, none⟩ = some p.2 ∧ ¬ E.fp p.1 ∧ (E.γ0.O p.1 ∨ E.γ0.F p.1)
structure Fr (E : Env) (w : World) : Prop where
 os : w.os = E.w0.os
 tape : w.tape = E.w0.tape
 output : w.output = E.w0.output
 size : E.w0.heap.size ≤ w.heap.size
 block : ∀ b, b < E.w0.heap.size → E.γ0.O b ∨ E.γ0.F b → ¬ E.fp b → w.heap[b]? = E.w0.heap[b]?
 drawn : D9 → E.w0.drawn ≤ w.drawn
 laid : zEF E
def Marks (E : Env) (I : Nat → Prop) (loc : Nat → Loc) (σ : AS) (ds : List Deferred) (w : World) : Prop :=
 ∃ ms, ds = ms ++ E.ds ∧ (∀ d, d ∈ E.ds → ∀ r, d.target ≠ .collected r) ∧ (ms.map (·.target)).Nodup ∧ ∀ d, d ∈ ms → ∃ r, d = { target := .collected r, args := #[] } ∧ w.heap[r]? = some (.deferred (some [])) ∧ ¬ I r ∧ (r < E.w0.heap.size → E.fp r) ∧ ∀ o c, (σ.obj o).live = true → loc o ≠ .blk r c
theorem Marks.nil {E : Env} {I : Nat → Prop} {loc : Nat → Loc} {σ : AS} {w : World} (he : E.ds = [] := by rfl) : Marks E I loc σ [] w := ⟨[], by rw [he]; rfl, by rw [he]; intro d h; simp at h, List.nodup_nil, fun d h => by simp at h⟩
theorem Marks.imp {E E' : Env} {I I' : Nat → Prop} {loc loc' : Nat → Loc} {σ σ' : AS} {ds : List Deferred} {w w' : World} (h : Marks E I loc σ ds w)
  (hw : ∀ r, w.heap[r]? = some (.deferred (some [])) → ¬ I r → (r < E.w0.heap.size → E.fp r) → (∀ o c, (σ.obj o).live = true → loc o ≠ .blk r c) → w'.heap[r]? = some (.deferred (some [])) ∧ ¬ I' r ∧ (r < E'.w0.heap.size → E'.fp r) ∧ ∀ o c, (σ'.obj o).live = true → loc' o ≠ .blk r c) (he : E'.ds = E.ds := by rfl) : Marks E' I' loc' σ' ds w' := by
 obtain ⟨ms, h0, hE, hn, h⟩ := h
 refine ⟨ms, by rw [he]; exact h0, by rw [he]; exact hE, hn, fun d hd => ?_⟩
 obtain ⟨r, h1, h2, h3, h4, h5⟩ := h d hd
 exact ⟨r, h1, hw r h2 h3 h4 h5⟩
theorem Marks.imp2 {E E' : Env} {I I' : Nat → Prop} {loc loc' : Nat → Loc} {σ σ' : AS} {ds : List Deferred} {w w' : World} (h : Marks E I loc σ ds w)
  (hw : ∀ r, ({ target := .collected r, args := #[] } : Deferred) ∈ ds → w.heap[r]? = some (.deferred (some [])) → ¬ I r → (r < E.w0.heap.size → E.fp r) → (∀ o c, (σ.obj o).live = true → loc o ≠ .blk r c) → w'.heap[r]? = some (.deferred (some [])) ∧ ¬ I' r ∧ (r < E'.w0.heap.size → E'.fp r) ∧ ∀ o c, (σ'.obj o).live = true → loc' o ≠ .blk r c) (he : E'.ds = E.ds := by rfl) : Marks E' I' loc' σ' ds w' := by
 obtain ⟨ms, h0, hE, hn, h⟩ := h
 refine ⟨ms, by rw [he]; exact h0, by rw [he]; exact hE, hn, fun d hd => ?_⟩
 obtain ⟨r, rfl, h2, h3, h4, h5⟩ := h d hd
 exact ⟨r, rfl, hw r (by rw [h0]; exact List.mem_append_left _ hd) h2 h3 h4 h5⟩
theorem Marks.get {E : Env} {I : Nat → Prop} {loc : Nat → Loc} {σ : AS} {ds : List Deferred} {w : World} (h : Marks E I loc σ ds w) {d : Deferred} {r : Nat} (hd : d ∈ ds) (e : d.target = .collected r) :
  d = { target := .collected r, args := #[] } ∧ w.heap[r]? = some (.deferred (some [])) ∧ ¬ I r ∧ (r < E.w0.heap.size → E.fp r) ∧ ∀ o c, (σ.obj o).live = true → loc o ≠ .blk r c := by
 obtain ⟨ms, rfl, hE, hn, h⟩ := h
 rcases List.mem_append.1 hd with hd | hd
 ·obtain ⟨r', rfl, h1⟩ := h d hd
  simp only [Target.collected.injEq] at e
  subst e
  exact ⟨rfl, h1⟩
 ·exact (hE d hd r e).elim
structure SR (E : Env) (I : Nat → Prop) (loc : Nat → Loc) (σ : AS) (a : Act) (w : World) : Prop where
 defers : Marks E I loc σ a.defers w
 size : a.tmps.size = σ.n
 tmps : ∀ t, VR w I loc (σ.get t) (a.tmps.getD t undef)
 objs : ∀ o, OR w I loc o (σ.obj o)
 inj : ∀ o o' b c c', (σ.obj o).live = true → (σ.obj o').live = true → loc o = .blk b c → loc o' = .blk b c' → o = o'
 imm : ∀ b, I b → b < w.heap.size
 sep : ∀ o b c, (σ.obj o).live = true → loc o = .blk b c → ¬ I b ∧ (b < E.w0.heap.size → E.fp b)
 fr : Fr E w
 base : ∀ b, E.I0 b → I b
 top : ∀ b, I b → E.I0 b ∨ E.New b ∨ E.fp b
 keep : ∀ k, k < E.n → loc k = E.loc0 k ∧ loc k ≠ .un
structure OwnG (E : Env) (I : Nat → Prop) (γ : Gh) (loc : Nat → Loc) (σ : AS) (a : Act) (w : World) : Prop where
 wf : γ.Wf w
 rd : ∀ b, I b → γ.O b ∨ γ.F b
 live : ∀ o b c, (σ.obj o).live = true → loc o = .blk b c → γ.O b
 mark : ∀ d r, d ∈ a.defers → d.target = .collected r → γ.O r
 own : ∀ b, E.γ0.O b → γ.O b
 fro : ∀ b, E.γ0.F b → γ.F b
theorem OwnG.prot {E : Env} {I : Nat → Prop} {γ : Gh} {loc : Nat → Loc} {σ : AS} {a : Act} {w : World} (h : OwnG E I γ loc σ a w) {b : Nat} (hp : E.γ0.O b ∨ E.γ0.F b) : γ.O b ∨ γ.F b :=
 hp.imp (h.own b) (h.fro b)
structure SG (E : Env) (I : Nat → Prop) (γ : Gh) (loc : Nat → Loc) (σ : AS) (a : Act) (w : World) : Prop where
 sr : SR E I loc σ a w
 og : OwnG E I γ loc σ a w
def St (E : Env) (σ : AS) (a : Act) (w : World) (γ : Gh) : Prop := ∃ I loc, SG E I γ loc σ a w
theorem zAZ {w w' : World} {b : Nat} (h : w'.heap[b]? = w.heap[b]?) (off : Nat) : w'.cell? ⟨b, off, none⟩ = w.cell? ⟨b, off, none⟩ := by simp [World.cell?, h]
theorem PR.mono {w w' : World} {I I' : Nat → Prop} (hw : ∀ b, I b → w'.heap[b]? = w.heap[b]?) (hI : ∀ b, I b → I' b) {a : AV} {v : Value} (h : PR w I a v) : PR w' I' a v := by
 induction h with
 | any v => exact .any v
 | raw v h => exact .raw v h
 | nil a cap => exact .nil a cap
 | list b off cap sz xs C hb hs hc hl hcell _ ih =>
  exact .list b off cap sz xs C (hI _ hb) hs hc hl (fun i j hi hj => (zAZ (hw b hb) _).trans (hcell i j hi hj)) ih
 | agg cs vs hl _ ih => exact .agg cs vs hl ih
 | elt b off x C hb hcell _ ih => exact .elt b off x C (hI _ hb) (fun j hj => (zAZ (hw b hb) _).trans (hcell j hj)) ih
 | nmap => exact .nmap
 | fmap b es clock ks xs V hb hh hm hv _ ih => exact .fmap b es clock ks xs V (hI _ hb) ((hw b hb).trans hh) hm hv ih
 | ifc t x v _ ih => exact .ifc t x v ih
 | clp xs a _ ih => exact .clp xs a ih
theorem VR.mono {w w' : World} {I I' : Nat → Prop} {loc loc' : Nat → Loc} (hw : ∀ b, I b → w'.heap[b]? = w.heap[b]?) (hI : ∀ b, I b → I' b)
  (hl : ∀ o, loc o ≠ .un → loc' o = loc o) {a : AV} {v : Value} (h : VR w I loc a v) : VR w' I' loc' a v := by
 have hk : ∀ {o l}, loc o = l → l ≠ .un → loc' o = l := fun {o l} e hne => (hl o (e ▸ hne)).trans e
 induction h with
 | pure h => exact .pure (h.mono hw hI)
 | agg cs vs h _ ih => exact .agg cs vs h ih
 | tup cs vs h _ ih => exact .tup cs vs h ih
 | ptr o off b c h => exact .ptr o off b c (hk h (by simp))
 | eptr o sz i off b c h => exact .eptr o sz i off b c (hk h (by simp))
 | ownN o sz h => exact .ownN o sz (hk h (by simp))
 | own o sz off len b c a cap h h1 h2 h3 => exact .own o sz off len b c a cap (hk h (by simp)) h1 h2 h3
 | fn f caps vs h _ ih => exact .fn f caps vs h ih
 | mp o b c h => exact .mp o b c (hk h (by simp))
 | yld o b c h => exact .yld o b c (hk h (by simp))
 | ifp t o off b c h => exact .ifp t o off b c (hk h (by simp))
theorem OR.mono {w w' : World} {I I' : Nat → Prop} {loc loc' : Nat → Loc} {o : Nat} {A : AObj} (hw : ∀ b, I b → w'.heap[b]? = w.heap[b]?) (hI : ∀ b, I b → I' b)
    (hl : ∀ o, loc o ≠ .un → loc' o = loc o) (hun : A = .unb → loc' o = .un) (hb : A.live = true → ∀ b c, loc o = .blk b c → w'.heap[b]? = w.heap[b]?) (h : OR w I loc o A) : OR w' I' loc' o A := by
  cases A with
  | unb => exact hun rfl
  | dead => exact trivial
  | mapo ks xs =>
    obtain ⟨b, es, clock, h1, h2, h3, h4⟩ := h
    exact ⟨b, es, clock, (hl o (by simp [h1])).trans h1, (hb rfl b _ h1).trans h2, h3, h4.imp (fun i h v hv => hv.mono hw hI)⟩
  | iter cur ks xs =>
    obtain ⟨b, h1, h⟩ := h
    refine ⟨b, (hl o (by simp [h1])).trans h1, ?_⟩
    rcases h with ⟨s, seen, l, h2, h3⟩ | ⟨m, es, clock, seen, h2, h3, h4, h5, h6, h7, h8⟩
    · exact .inl ⟨s, seen, l, (hb rfl b _ h1).trans h2, h3⟩
    · exact .inr ⟨m, es, clock, seen, (hb rfl b _ h1).trans h2, hI _ h3, (hw m h3).trans h4, h5, h6, h7.imp (fun i h v hv => hv.mono hw hI), fun p hp => by
        obtain ⟨e, g1, g2, g3, g4⟩ := h8 p hp
        exact ⟨e, g1, g2, g3, g4.mono hw hI⟩⟩
  | siter s pos =>
    obtain ⟨b, h1, h2⟩ := h
    exact ⟨b, (hl o (by simp [h1])).trans h1, (hb rfl b _ h1).trans h2⟩
  | brow e l =>
    rcases h with ⟨h1, h2⟩ | ⟨b, C, h1, h2, h3⟩
    · exact .inl ⟨(hl o (by simp [h1])).trans h1, h2⟩
    · exact .inr ⟨b, C, (hl o (by simp [h1])).trans h1, (hb rfl b _ h1).trans h2, h3⟩
  | tbox e cs =>
    obtain ⟨b, C, h1, h2, h0, h3, h4⟩ := h
    exact ⟨b, C, (hl o (by simp [h1])).trans h1, (hb rfl b _ h1).trans h2, h0, h3, fun i h h' => (h4 i h h').mono hw hI hl⟩
  | loopo L env pend =>
    obtain ⟨b, tmps, ds, h1, h2, h3, h4⟩ := h
    exact ⟨b, tmps, ds, (hl o (by simp [h1])).trans h1, (hb rfl b _ h1).trans h2, h3, fun t => (h4 t).mono hw hI hl⟩
  | box cs =>
    rcases h with ⟨h1, h2⟩ | ⟨b, C, e, h1, h2, h3, h4⟩
    · exact .inl ⟨(hl o (by simp [h1])).trans h1, h2⟩
    · exact .inr ⟨b, C, e, (hl o (by simp [h1])).trans h1, (hb rfl b _ h1).trans h2, h3, fun i h h' => (h4 i h h').mono hw hI hl⟩
  | row sz xs =>
    obtain ⟨h0, hx, h⟩ := h
    refine ⟨h0, hx, ?_⟩
    rcases h with ⟨h1, h2⟩ | ⟨b, C, e, h1, h2, h3, h4⟩
    · exact .inl ⟨(hl o (by simp [h1])).trans h1, h2⟩
    · exact .inr ⟨b, C, e, (hl o (by simp [h1])).trans h1, (hb rfl b _ h1).trans h2, h3, fun i h j hj h' => (h4 i h j hj h').mono hw hI⟩
theorem Fr.of_same {E : Env} {w w' : World} (h : Fr E w) (h1 : w'.os = w.os) (h2 : w'.tape = w.tape) (h3 : w'.output = w.output) (h4 : w.heap.size ≤ w'.heap.size)
  (h5 : ∀ b, b < E.w0.heap.size → ¬ E.fp b → w'.heap[b]? = w.heap[b]?) (h6 : D9 → w.drawn ≤ w'.drawn := by first | exact fun _ => Nat.le_refl _ | exact fun _ => Nat.le_succ _) : Fr E w' :=
 ⟨h1.trans h.os, h2.trans h.tape, h3.trans h.output, Nat.le_trans h.size h4, fun b hb hp hf => (h5 b hb hf).trans (h.block b hb hp hf), fun m => Nat.le_trans (h.drawn m) (h6 m), h.laid⟩
theorem Fr.of_prot {E : Env} {w w' : World} (h : Fr E w) (h1 : w'.os = w.os) (h2 : w'.tape = w.tape) (h3 : w'.output = w.output) (h4 : w.heap.size ≤ w'.heap.size)
  (h5 : ∀ b, b < E.w0.heap.size → E.γ0.O b ∨ E.γ0.F b → ¬ E.fp b → w'.heap[b]? = w.heap[b]?) (h6 : D9 → w.drawn ≤ w'.drawn) : Fr E w' :=
 ⟨h1.trans h.os, h2.trans h.tape, h3.trans h.output, Nat.le_trans h.size h4, fun b hb hp hf => (h5 b hb hp hf).trans (h.block b hb hp hf), fun m => Nat.le_trans (h.drawn m) (h6 m), h.laid⟩
section
variable {E : Env} {I : Nat → Prop} {loc : Nat → Loc} {σ : AS} {a : Act} {w : World}
theorem SR.put (h : SR E I loc σ a w) {t : Nat} {v : AV} {x : Value} (hv : VR w I loc v x) (ht : t < σ.n) : SR E I loc (σ.put t v) (a.put (some t) x) w := by
 refine ⟨h.defers, by simpa [Act.put, AS.put] using h.size, fun u => ?_, h.objs, h.inj, h.imm, h.sep, h.fr, h.base, h.top, h.keep⟩
 rw [AS.get_put]
 by_cases e : t = u
 ·subst e
  rw [if_pos rfl]
  have : (a.put (some t) x).tmps.getD t undef = x := by
   have ht' : t < a.tmps.size := by rw [h.size]; exact ht
   simp [Act.put, ht']
  rw [this]; exact hv
 ·rw [if_neg e]
  have : (a.put (some t) x).tmps.getD u undef = a.tmps.getD u undef := by
   simp [Act.put, Array.getElem?_setIfInBounds, e]
  rw [this]; exact h.tmps u
theorem SR.heap {w' : World} (h : SR E I loc σ a w) (h1 : w'.os = w.os) (h2 : w'.tape = w.tape) (h3 : w'.output = w.output) (h4 : w'.heap = w.heap) (h5 : D9 → w.drawn ≤ w'.drawn := by first | exact fun _ => Nat.le_refl _ | exact fun _ => Nat.le_succ _) : SR E I loc σ a w' := by
 refine ⟨h.defers.imp (fun r g1 g2 g3 g4 => ⟨by rw [h4]; exact g1, g2, g3, g4⟩), h.size, fun t => (h.tmps t).mono (fun b _ => by rw [h4]) (fun _ hb => hb) (fun _ _ => rfl), fun o => (h.objs o).mono (fun b _ => by rw [h4]) (fun _ hb => hb) (fun _ _ => rfl) (fun e => by have := h.objs o; rw [e] at this; exact this) (fun _ b c _ => by rw [h4]), h.inj, fun b hb => by rw [h4]; exact h.imm b hb, h.sep, h.fr.of_same h1 h2 h3 (by rw [h4]; exact Nat.le_refl _) (fun b _ _ => by rw [h4]) h5, h.base, h.top, h.keep⟩
theorem SG.rely {γ : Gh} {w₁ : World} (h : SG E I γ loc σ a w) (hr : Rely γ w w₁) : SG E I γ loc σ a w₁ := by
 obtain ⟨h, og⟩ := h
 have hI : ∀ b, I b → w₁.heap[b]? = w.heap[b]? := fun b hb => hr.block b (og.rd b hb)
 have hlv : ∀ o b c, (σ.obj o).live = true → loc o = .blk b c → w₁.heap[b]? = w.heap[b]? := fun o b c hl e => hr.block b (.inl (og.live o b c hl e))
 refine ⟨⟨h.defers.imp2 (fun r hd h1 h2 h3 h4 => ⟨(hr.block r (.inl (og.mark _ r hd rfl))).trans h1, h2, h3, h4⟩), h.size, fun t => (h.tmps t).mono hI (fun _ x => x) (fun _ _ => rfl), fun o => (h.objs o).mono hI (fun _ x => x) (fun _ _ => rfl) (fun e => by have := h.objs o; rw [e] at this; exact this) (fun hl b c e => hlv o b c hl e), h.inj, fun b hb => Nat.lt_of_lt_of_le (h.imm b hb) hr.size, h.sep, ?_, h.base, h.top, h.keep⟩, ⟨hr.wf', og.rd, og.live, og.mark, og.own, og.fro⟩⟩
 ·exact ⟨hr.os.trans h.fr.os, hr.tape.trans h.fr.tape, hr.output.trans h.fr.output, Nat.le_trans h.fr.size hr.size, fun b hb hp hf => (hr.block b (og.prot hp)).trans (h.fr.block b hb hp hf), fun m => (show False from m).elim, h.fr.laid⟩
theorem St.rely {γ : Gh} {w₁ : World} (h : St E σ a w γ) (hr : Rely γ w w₁) : St E σ a w₁ γ := let ⟨I, loc, hs⟩ := h; ⟨I, loc, hs.rely hr⟩
def hereFp (loc : Nat → Loc) (σ : AS) (a : Act) (b : Nat) : Prop := (∃ o c, (σ.obj o).live = true ∧ loc o = .blk b c) ∨ ∃ d, d ∈ a.defers ∧ d.target = .collected b
def Env.here (E : Env) (I : Nat → Prop) (loc : Nat → Loc) (σ : AS) (a : Act) (w : World) : Env := ⟨w, I, E.n, loc, hereFp loc σ a, ⟨fun b => b < w.heap.size, fun _ => False, none⟩, E.ds⟩
theorem SR.here (h : SR E I loc σ a w) : SR (E.here I loc σ a w) I loc σ a w := by
 refine ⟨h.defers.imp2 (fun r hd h1 h2 _ h4 => ⟨h1, h2, fun _ => .inr ⟨_, hd, rfl⟩, h4⟩), h.size, h.tmps, h.objs, h.inj, h.imm, fun o b c hl e => ⟨(h.sep o b c hl e).1, fun _ => .inl ⟨o, c, hl, e⟩⟩, ⟨rfl, rfl, rfl, Nat.le_refl _, fun _ _ _ _ => rfl, fun _ => Nat.le_refl _, fun p hp => ?_⟩, fun _ hb => hb, fun _ hb => .inl hb, fun k hk => ⟨rfl, (h.keep k hk).2⟩⟩
 ·obtain ⟨l1, l2, l3⟩ := h.fr.laid p hp
  have hlt : p.1 < E.w0.heap.size := by
   rcases Nat.lt_or_ge p.1 E.w0.heap.size with h | h
   ·exact h
   ·simp [World.cell?, Array.getElem?_eq_none h] at l1
  refine ⟨(zAZ (h.fr.block p.1 hlt l3 l2) 0).trans l1, ?_, .inl (Nat.lt_of_lt_of_le hlt h.fr.size)⟩
  rintro (⟨o, c, hl, e⟩ | ⟨d, hd, e⟩)
  ·exact l2 ((h.sep o p.1 c hl e).2 hlt)
  ·obtain ⟨_, h1, h2, h3, h4⟩ := h.defers.get hd e
   exact l2 (h3 hlt)
theorem SR.back {I' : Nat → Prop} {loc' : Nat → Loc} {σ' : AS} {a' : Act} {w' : World} (h : SR E I loc σ a w) (h' : SR (E.here I loc σ a w) I' loc' σ' a' w') : SR E I' loc' σ' a' w' := by
 have hfp : ∀ b, b < E.w0.heap.size → hereFp loc σ a b → E.fp b := by
  rintro b hb (⟨o, c, hl, e⟩ | ⟨d, hd, e⟩)
  ·exact (h.sep o b c hl e).2 hb
  ·obtain ⟨_, h1, h2, h3, h4⟩ := h.defers.get hd e
   exact h3 hb
 have hsz : ∀ b, b < E.w0.heap.size → b < w.heap.size := fun b hb => Nat.lt_of_lt_of_le hb h.fr.size
 refine ⟨h'.defers.imp2 (fun r hd h1 h2 h3 h4 => ⟨h1, h2, fun hr => hfp r hr (h3 (hsz r hr)), h4⟩), h'.size, h'.tmps, h'.objs, h'.inj, h'.imm, fun o b c hl e => ⟨(h'.sep o b c hl e).1, fun hb => hfp b hb ((h'.sep o b c hl e).2 (hsz b hb))⟩, ?_, fun b hb => h'.base b (h.base b hb), fun b hb => ?_, fun k hk => ?_⟩
 ·exact ⟨h'.fr.os.trans h.fr.os, h'.fr.tape.trans h.fr.tape, h'.fr.output.trans h.fr.output, Nat.le_trans h.fr.size h'.fr.size, fun b hb hp hf => (h'.fr.block b (hsz b hb) (.inl (hsz b hb)) (fun e => hf (hfp b hb e))).trans (h.fr.block b hb hp hf), fun m => Nat.le_trans (h.fr.drawn m) (h'.fr.drawn m), h.fr.laid⟩
 ·rcases h'.top b hb with h1 | h1 | h1
  ·exact h.top b h1
  ·exact .inr (.inl (.inl (Nat.le_trans h.fr.size (h1.elim id Nat.le_of_not_lt))))
  ·rcases Nat.lt_or_ge b E.w0.heap.size with h2 | h2
   ·exact .inr (.inr (hfp b h2 h1))
   ·exact .inr (.inl (.inl h2))
 ·obtain ⟨h1, h2⟩ := h'.keep k hk
  have h3 : loc' k = loc k := h1
  exact ⟨h3.trans (h.keep k hk).1, h2⟩
end
end Go.Abs

namespace Go.Abs
open Go Go.RowKit
theorem OR.lt {w : World} {I : Nat → Prop} {loc : Nat → Loc} {o : Nat} {A : AObj} (h : OR w I loc o A) (hl : A.live = true) {b c : Nat} (e : loc o = .blk b c) : b < w.heap.size := by
 have hs : ∀ {b : Nat} {x : Obj}, w.heap[b]? = some x → b < w.heap.size := fun h => (Array.getElem?_eq_some_iff.1 h).1
 cases A with
 | unb => simp [AObj.live] at hl
 | dead => simp [AObj.live] at hl
 | mapo ks xs =>
  obtain ⟨b', C, t, h1, h2, _⟩ := h
  rw [h1] at e; cases e; exact hs h2
 | iter cur ks xs =>
  obtain ⟨b', h1, ⟨_, _, _, h2, _⟩ | ⟨_, _, _, _, h2, _⟩⟩ := h
  ·rw [h1] at e; cases e; exact hs h2
  ·rw [h1] at e; cases e; exact hs h2
 | siter s pos =>
  obtain ⟨b', h1, h2⟩ := h
  rw [h1] at e; cases e; exact hs h2
 | brow t l =>
  obtain h | ⟨b', C, h1, h2, _⟩ := h
  ·rw [h.1] at e; cases e
  ·rw [h1] at e; cases e; exact hs h2
 | tbox t cs =>
  obtain ⟨b', C, h1, h2, _⟩ := h
  rw [h1] at e; cases e; exact hs h2
 | loopo L env pend =>
  obtain ⟨b', _, _, h1, h2, _⟩ := h
  rw [h1] at e; cases e; exact hs h2
 | box cs =>
  obtain h | ⟨b', C, t, h1, h2, _⟩ := h
  ·rw [h.1] at e; cases e
  ·rw [h1] at e; cases e; exact hs h2
 | row sz xs =>
  obtain ⟨_, _, h | ⟨b', C, t, h1, h2, _⟩⟩ := h
  ·rw [h.1] at e; cases e
  ·rw [h1] at e; cases e; exact hs h2
theorem Z8 (w : World) (o : Obj) (b : Nat) (h : b < w.heap.size) : (w.alloc o).heap[b]? = w.heap[b]? := Below.heap_alloc w o b h
section
variable {E : Env} {I : Nat → Prop} {loc : Nat → Loc} {σ : AS} {a : Act} {w : World}
def y1 (loc : Nat → Loc) (k : Nat) (L : Loc) : Nat → Loc := fun o => if o = k then L else loc o
theorem SR.un (h : SR E I loc σ a w) {o : Nat} (ho : σ.obj o = .unb) : loc o = .un := by
 have := h.objs o; rw [ho] at this; exact this
theorem SR.born (h : SR E I loc σ a w) {nx : Nat} (hn : σ.obj nx = .unb) {A : AObj} (ob : Obj) {c : Nat}
  (hA : OR (w.alloc ob) I (y1 loc nx (.blk w.heap.size c)) nx A) : SR E I (y1 loc nx (.blk w.heap.size c)) (σ.setO nx A) a (w.alloc ob) := by
 have hun := h.un hn
 have hloc : ∀ o, loc o ≠ .un → y1 loc nx (.blk w.heap.size c) o = loc o := fun o ho => by
  unfold y1; rw [if_neg]; intro e; subst e; exact ho hun
 have hI : ∀ b, I b → (w.alloc ob).heap[b]? = w.heap[b]? := fun b hb => Z8 _ _ _ (h.imm b hb)
 have hmk : Marks E I (y1 loc nx (.blk w.heap.size c)) (σ.setO nx A) a.defers (w.alloc ob) := h.defers.imp (fun r g1 g2 g3 g4 => by
  have hr : r < w.heap.size := (Array.getElem?_eq_some_iff.1 g1).1
  refine ⟨by rw [Z8 _ _ _ hr]; exact g1, g2, g3, fun o c' hl e => ?_⟩
  rw [AS.obj_setO] at hl
  unfold y1 at e
  by_cases e' : nx = o
  ·rw [if_pos e'.symm] at e; cases e; omega
  ·rw [if_neg e'] at hl
   rw [if_neg (fun x => e' x.symm)] at e
   exact g4 o c' hl e)
 refine ⟨hmk, h.size, fun t => (h.tmps t).mono hI (fun _ hb => hb) hloc, fun o => ?_, ?_, fun b hb => by have := h.imm b hb; simp; omega, ?_, ?_, h.base, h.top, fun k hk => by rw [hloc k (h.keep k hk).2]; exact h.keep k hk⟩
 ·rw [AS.obj_setO]
  by_cases e : nx = o
  ·subst e; rw [if_pos rfl]; exact hA
  ·rw [if_neg e]
   refine (h.objs o).mono hI (fun _ hb => hb) hloc (fun e' => ?_) (fun hl b c' hb => Z8 _ _ _ ((h.objs o).lt hl hb))
   unfold y1; rw [if_neg (fun e' => e e'.symm)]; exact h.un e'
 ·intro o o' b c1 c2 hl hl' e1 e2
  rw [AS.obj_setO] at hl hl'
  by_cases e : nx = o
  ·by_cases e' : nx = o'
   ·rw [← e, ← e']
   ·rw [if_neg e'] at hl'
    subst e
    have hb : loc o' = .blk b c2 := by unfold y1 at e2; rwa [if_neg (fun x => e' x.symm)] at e2
    have := (h.objs o').lt hl' hb
    unfold y1 at e1; rw [if_pos rfl] at e1; cases e1; omega
  ·rw [if_neg e] at hl
   have hb : loc o = .blk b c1 := by unfold y1 at e1; rwa [if_neg (fun x => e x.symm)] at e1
   by_cases e' : nx = o'
   ·subst e'
    have := (h.objs o).lt hl hb
    unfold y1 at e2; rw [if_pos rfl] at e2; cases e2; omega
   ·rw [if_neg e'] at hl'
    have hb' : loc o' = .blk b c2 := by unfold y1 at e2; rwa [if_neg (fun x => e' x.symm)] at e2
    exact h.inj o o' b c1 c2 hl hl' hb hb'
 ·intro o b c1 hl e1
  rw [AS.obj_setO] at hl
  by_cases e : nx = o
  ·subst e
   unfold y1 at e1; rw [if_pos rfl] at e1; cases e1
   exact ⟨fun hi => by have := h.imm _ hi; omega, fun hlt => by have := h.fr.size; omega⟩
  ·rw [if_neg e] at hl
   have hb : loc o = .blk b c1 := by unfold y1 at e1; rwa [if_neg (fun x => e x.symm)] at e1
   exact h.sep o b c1 hl hb
 ·exact h.fr.of_same rfl rfl rfl (by simp) (fun b hb _ => Z8 _ _ _ (by have := h.fr.size; omega))
theorem SR.writeG (h : SR E I loc σ a w) {o b : Nat} {c : Nat} (hl : (σ.obj o).live = true) (hb : loc o = .blk b c) {w' : World} (ho : w'.os = w.os) (ht : w'.tape = w.tape) (hu : w'.output = w.output)
  (hz : w'.heap.size = w.heap.size) (hk : ∀ k, k ≠ b → w'.heap[k]? = w.heap[k]?) {A : AObj} (hA : OR w' I loc o A) (hA1 : A ≠ .unb) (hd : D9 → w.drawn ≤ w'.drawn := by first | exact fun _ => Nat.le_refl _ | exact fun _ => Nat.le_succ _) : SR E I loc (σ.setO o A) a w' := by
 have hsep := h.sep o b c hl hb
 have hI : ∀ k, I k → w'.heap[k]? = w.heap[k]? := fun k hk' => hk k (fun e => hsep.1 (e ▸ hk'))
 have hmk : Marks E I loc (σ.setO o A) a.defers w' := h.defers.imp (fun r g1 g2 g3 g4 => by
  refine ⟨by rw [hk r (fun e => g4 o c hl (e ▸ hb))]; exact g1, g2, g3, fun o' c' hl' e => ?_⟩
  rw [AS.obj_setO] at hl'
  by_cases e' : o = o'
  ·subst e'; exact g4 o c' hl e
  ·rw [if_neg e'] at hl'; exact g4 o' c' hl' e)
 refine ⟨hmk, h.size, fun u => (h.tmps u).mono hI (fun _ x => x) (fun _ _ => rfl), fun o' => ?_, ?_, fun k hk => by rw [hz]; exact h.imm k hk, ?_, ?_, h.base, h.top, h.keep⟩
 ·rw [AS.obj_setO]
  by_cases e : o = o'
  ·subst e; rw [if_pos rfl]; exact hA
  ·rw [if_neg e]
   refine (h.objs o').mono hI (fun _ x => x) (fun _ _ => rfl) (fun e' => h.un e') (fun hl' k c' hk' => hk k (fun e' => ?_))
   subst e'
   exact e (h.inj o o' k c c' hl hl' hb hk')
 ·intro o1 o2 k c1 c2 h1 h2 e1 e2
  rw [AS.obj_setO] at h1 h2
  refine h.inj o1 o2 k c1 c2 ?_ ?_ e1 e2
  ·by_cases e : o = o1
   ·subst e; exact hl
   ·rwa [if_neg e] at h1
  ·by_cases e : o = o2
   ·subst e; exact hl
   ·rwa [if_neg e] at h2
 ·intro o1 k c1 h1 e1
  rw [AS.obj_setO] at h1
  refine h.sep o1 k c1 ?_ e1
  by_cases e : o = o1
  ·subst e; exact hl
  ·rwa [if_neg e] at h1
 ·refine h.fr.of_same ho ht hu (by rw [hz]; exact Nat.le_refl _) (fun k hk' hf => hk k (fun e => ?_)) hd
  subst e
  exact hf (hsep.2 hk')
theorem SR.write (h : SR E I loc σ a w) {o b : Nat} {C : Array Value} {t : TypeId} (hl : (σ.obj o).live = true) {c : Nat} (hb : loc o = .blk b c) (hheap : w.heap[b]? = some (.cells C t (0, 0))) {C' : Array Value} {A : AObj}
  (hA : OR (w.setRow b C') I loc o A) (hA1 : A ≠ .unb) : SR E I loc (σ.setO o A) a (w.setRow b C') :=
 h.writeG (w' := w.setRow b C') hl hb rfl rfl rfl (by simp) (fun k hk => setRow_other w b k C' hk) hA hA1
theorem SR.kill (h : SR E I loc σ a w) (o : Nat) : SR E I loc (σ.setO o .dead) a w := by
 have hl : ∀ {o1}, ((σ.setO o .dead).obj o1).live = true → (σ.obj o1).live = true := fun {o1} h1 => by
  rw [AS.obj_setO] at h1
  by_cases e : o = o1
  ·rw [if_pos e] at h1; simp [AObj.live] at h1
  ·rwa [if_neg e] at h1
 refine ⟨h.defers.imp (fun r g1 g2 g3 g4 => ⟨g1, g2, g3, fun o c h1 => g4 o c (hl h1)⟩), h.size, h.tmps, fun o' => ?_, fun o1 o2 k c1 c2 h1 h2 => h.inj o1 o2 k c1 c2 (hl h1) (hl h2), h.imm, fun o1 k c1 h1 => h.sep o1 k c1 (hl h1), h.fr, h.base, h.top, h.keep⟩
 rw [AS.obj_setO]
 by_cases e : o = o'
 ·rw [if_pos e]; exact trivial
 ·rw [if_neg e]; exact h.objs o'
end
inductive Pure : AV → Prop
 | any : Pure .any
 | raw (v : Value) : Pure (.raw v)
 | list (xs : List AV) : Pure (.list xs)
 | elt (x : AV) : Pure (.elt x)
 | fmap (ks : List Value) (xs : List AV) : Pure (.fmap ks xs)
 | ifc (t : TypeId) (x : AV) : Pure (.ifc t x)
 | clp (xs : List AV) : Pure (.clp xs)
 | agg (cs : List AV) : (∀ c, c ∈ cs → Pure c) → Pure (.agg cs)
theorem VR.toPR {w : World} {I : Nat → Prop} {loc : Nat → Loc} {a : AV} {v : Value} (h : VR w I loc a v) (hp : Pure a) : PR w I a v := by
 induction h with
 | pure h => exact h
 | agg cs vs h _ ih =>
  cases hp with
  | agg _ hc => exact .agg cs vs h (fun i h1 h2 => ih i h1 h2 (hc _ (List.getElem_mem h1)))
 | tup => cases hp
 | ptr => cases hp
 | eptr => cases hp
 | ownN => cases hp
 | own => cases hp
 | fn => cases hp
 | mp => cases hp
 | yld => cases hp
 | ifp => cases hp
def MPerm (ks : List Value) (xs : List AV) (ks' : List Value) (xs' : List AV) : Prop := (ks = ks' ∧ xs = xs') ∨ (ks.length = xs.length ∧ ks'.length = xs'.length ∧ (ks.zip xs).Perm (ks'.zip xs'))
theorem MPerm.refl (ks : List Value) (xs : List AV) : MPerm ks xs ks xs := .inl ⟨rfl, rfl⟩
theorem zIK {ks : List Value} {xs : List AV} (h : ks.length = xs.length) : (ks.zip xs).map Prod.fst = ks := List.map_fst_zip (by omega)
theorem MPerm.mem {ks ks' : List Value} {xs xs' : List AV} (h : MPerm ks xs ks' xs') {i : Nat} (hi : i < ks.length) (hi' : i < xs.length) : ∃ j, ∃ (hj : j < ks'.length) (hj' : j < xs'.length), ks'[j] = ks[i] ∧ xs'[j] = xs[i] := by
  rcases h with ⟨rfl, rfl⟩ | ⟨h1, h2, h3⟩
  · exact ⟨i, hi, hi', rfl, rfl⟩
  · have hm : (ks[i], xs[i]) ∈ ks.zip xs := by
      rw [List.mem_iff_getElem]
      exact ⟨i, by simp; omega, by simp⟩
    obtain ⟨j, hj, e⟩ := List.getElem_of_mem (h3.mem_iff.1 hm)
    simp at hj e
    exact ⟨j, by omega, by omega, e.1, e.2⟩
theorem MPerm.shape {ks ks' : List Value} {xs xs' : List AV} (h : MPerm ks xs ks' xs') {es : List MapEntry} {clock : Nat} (hs : U2 ks' xs'.length es clock) : U2 ks xs.length es clock := by
 rcases h with ⟨rfl, rfl⟩ | ⟨h1, h2, h3⟩
 ·exact hs
 ·have hl := h3.length_eq
  simp at hl
  have hn := (h3.map Prod.fst).nodup_iff
  rw [zIK h1, zIK h2] at hn
  obtain ⟨g1, g2, g3, g4⟩ := hs
  exact ⟨h1, by omega, hn.2 g3, g4⟩
theorem MPerm.vals {R : AV → Value → Prop} {ks ks' : List Value} {xs xs' : List AV} (h : MPerm ks xs ks' xs') {es : List MapEntry} (hv : MapVals R ks' xs' es) : MapVals R ks xs es := fun i hi hi' => by
 obtain ⟨j, hj, hj', e1, e2⟩ := h.mem hi hi'
 obtain ⟨e, g1, g2, g3⟩ := hv j hj hj'
 exact ⟨e, g1, g2.trans e1, by rw [← e2]; exact g3⟩
theorem PR.fmap_of {w : World} {I : Nat → Prop} {b : Nat} {es : Array MapEntry} {clock : Nat} {ks : List Value} {xs : List AV} (hb : I b) (hh : w.heap[b]? = some (.map es clock)) (hs : U2 ks xs.length es.toList clock) (hv : MapVals (PR w I) ks xs es.toList) : PR w I (.fmap ks xs) (.map (some b)) := by
 have hl := hs.1
 refine .fmap b es clock ks xs (fun i => if h : i < ks.length then (hv i h (by omega)).choose.val else undef) hb hh hs (fun i hi => ?_) (fun i hi => ?_)
 ·have := (hv i hi (by omega)).choose_spec
  exact ⟨_, this.1, this.2.1, by rw [dif_pos hi]⟩
 ·have hi' : i < ks.length := by omega
  rw [dif_pos hi']
  exact (hv i hi' hi).choose_spec.2.2
theorem PR.fmap_vals {w : World} {I : Nat → Prop} {es : Array MapEntry} {ks : List Value} {xs : List AV} {V : Nat → Value} (hV : ∀ i (h : i < ks.length), ∃ e, e ∈ es.toList ∧ e.key = ks[i] ∧ e.val = V i) (hp : ∀ i (h : i < xs.length), PR w I xs[i] (V i)) : MapVals (PR w I) ks xs es.toList := fun i hi hi' => by
 obtain ⟨e, h1, h2, h3⟩ := hV i hi
 exact ⟨e, h1, h2, by rw [h3]; exact hp i hi'⟩
inductive Xp (H : Nat → AObj) (ρ : Nat → Option (Option Nat)) (F : Nat → Prop) : AV → AV → Prop
  | any (x : AV) : Xp H ρ F .any x
  | same (x : AV) : Pure x → Xp H ρ F x x
  | ptr (k o off : Nat) : ρ k = some (some o) → Xp H ρ F (.ptr k off) (.ptr o off)
  | eptr (k o sz i off : Nat) : ρ k = some (some o) → Xp H ρ F (.eptr k sz i off) (.eptr o sz i off)
  | own (k o sz off len : Nat) : ρ k = some (some o) → Xp H ρ F (.own k sz off len) (.own o sz off len)
  | mp (k o : Nat) : ρ k = some (some o) → Xp H ρ F (.mp k) (.mp o)
  | yld (k o : Nat) : ρ k = some (some o) → Xp H ρ F (.yld k) (.yld o)
  | ifp (t : TypeId) (k o off : Nat) : ρ k = some (some o) → Xp H ρ F (.ifp t k off) (.ifp t o off)
  | nil (k sz : Nat) : ρ k = some none → Xp H ρ F (.own k sz 0 0) (.raw (.slice none 0 0))
  | nill : Xp H ρ F (.list []) (.raw (.slice none 0 0))
  | clpl (xs : List AV) : Xp H ρ F (.list xs) (.clp xs)
  | nmapl : Xp H ρ F (.fmap [] []) (.raw (.map none))
  | frozm (o : Nat) (ks ks' : List Value) (xs xs' : List AV) : H o = .mapo ks' xs' → F o → MPerm ks xs ks' xs' → Xp H ρ F (.fmap ks xs) (.mp o)
  | frozb (o off len : Nat) (cs xs : List AV) : H o = .box cs → F o → off + len = cs.length → off = 0 → xs.length = cs.length → (∀ x, x ∈ xs → Pure x ∧ x.one = true) →
      (∀ i (h : i < xs.length) (h' : i < cs.length), Xp H ρ F xs[i] cs[i]) → Xp H ρ F (.list xs) (.own o 1 off len)
  | froz (o sz off len : Nat) (xs : List AV) : H o = .row sz xs → F o → off + len ≤ xs.length → Xp H ρ F (.list ((xs.drop off).take len)) (.own o sz off len)
  | agg (cs ds : List AV) : cs.length = ds.length → (∀ i (h : i < cs.length) (h' : i < ds.length), Xp H ρ F cs[i] ds[i]) → Xp H ρ F (.agg cs) (.agg ds)
  | tup (cs ds : List AV) : cs.length = ds.length → (∀ i (h : i < cs.length) (h' : i < ds.length), Xp H ρ F cs[i] ds[i]) → Xp H ρ F (.tup cs) (.tup ds)
  | fn (f : FuncId) (cs ds : List AV) : cs.length = ds.length → (∀ i (h : i < cs.length) (h' : i < ds.length), Xp H ρ F cs[i] ds[i]) → Xp H ρ F (.fn f cs) (.fn f ds)
def zUQ (ρ : Nat → Option (Option Nat)) (loc : Nat → Loc) : Nat → Loc := fun k => match ρ k with
 | none => .un
 | some none => .nil
 | some (some o) => loc o
def zUW (H : Nat → AObj) (F : Nat → Prop) (loc : Nat → Loc) (I : Nat → Prop) : Nat → Prop := fun b =>
 I b ∨ ∃ o c, (H o).live = true ∧ loc o = .blk b c ∧ F o
theorem zGc {w : World} {I I' : Nat → Prop} {loc : Nat → Loc} {o sz off len : Nat} {v : Value} {xs : List AV} (h : VR w I loc (.own o sz off len) v) (ho : OR w I loc o (.row sz xs))
  (hl : off + len ≤ xs.length) (hI : ∀ b, I b → I' b) (hb : ∀ b c, loc o = .blk b c → I' b) : PR w I' (.list ((xs.drop off).take len)) v := by
 cases h with
 | pure h => cases h
 | ownN _ _ h => simpa using PR.nil none 0
 | own _ _ _ _ b c a cap h1 h2 h3 h4 =>
  by_cases h0 : len = 0
  ·subst h0; simpa using PR.nil (some a) cap
  ·obtain ⟨hs, hx, ho⟩ := ho
   rcases ho with ⟨h5, _⟩ | ⟨b', C, e, h5, h6, h7, h8⟩
   ·rw [h1] at h5; cases h5
   ·rw [h1] at h5; cases h5
    have ha := h4 (by omega)
    subst ha
    have hlen : ((xs.drop off).take len).length = len := by simp; omega
    have hidx : ∀ i (hi : i < ((xs.drop off).take len).length), ((xs.drop off).take len)[i] = xs[off + i]'(by omega) := fun i hi => by simp
    have key := PR.list (w := w) (I := I') b (off * sz) cap sz ((xs.drop off).take len) (fun i j => C.getD (off * sz + i * sz + j) undef) (hb b _ h1) hs (by omega)
     (fun i hi => by rw [hidx i hi]; exact hx _ _)
     (fun i j hi hj => by
      have h9 : off * sz + i * sz + j < C.size := by
       have : (off + i + 1) * sz ≤ xs.length * sz := Nat.mul_le_mul_right _ (by omega)
       have e1 : (off + i + 1) * sz = off * sz + i * sz + sz := by rw [Nat.add_mul, Nat.add_mul]; omega
       omega
      simp [World.cell?, h6, h9])
     (fun i hi j hj => by
      have hxs : off + i < xs.length := by omega
      have hj' : j < (xs[off + i]).cells.length := by rw [← hidx i hi]; exact hj
      have hjs : j < sz := by rw [← hx _ hxs]; exact hj'
      have e2 : (off + i) * sz + j = off * sz + i * sz + j := by rw [Nat.add_mul]
      have h9 : (off + i) * sz + j < C.size := by
       have : (off + i + 1) * sz ≤ xs.length * sz := Nat.mul_le_mul_right _ (by omega)
       have e1 : (off + i + 1) * sz = (off + i) * sz + sz := by rw [Nat.add_mul]; omega
       omega
      have := h8 (off + i) hxs j hj' h9
      have e3 : C.getD (off * sz + i * sz + j) undef = C[(off + i) * sz + j] := by
       rw [← e2]; simp [h9]
      rw [e3]
      have e4 : (((xs.drop off).take len)[i]).cells[j] = (xs[off + i]).cells[j] := by congr 2; exact hidx i hi
      rw [e4]
      exact this.mono (fun _ _ => rfl) hI)
    rw [hlen] at key
    exact key
theorem Xp.sound {E : Env} {I : Nat → Prop} {loc : Nat → Loc} {σ : AS} {a : Act} {w : World} (hs : SR E I loc σ a w) {ρ : Nat → Option (Option Nat)} {F : Nat → Prop} {x y : AV} (h : Xp σ.obj ρ F x y) :
  ∀ {v : Value}, VR w I loc y v → VR w (zUW σ.obj F loc I) (zUQ ρ loc) x v := by
 have hk : ∀ {k o l}, ρ k = some (some o) → loc o = l → zUQ ρ loc k = l := fun {k o l} h1 h2 => by simp only [zUQ, h1, h2]
 induction h with
 | any x => exact fun _ => .pure (.any _)
 | same x hp => exact fun hv => .pure ((hv.toPR hp).mono (fun _ _ => rfl) (fun _ hb => .inl hb))
 | ptr k o off h =>
  intro v hv
  cases hv with
  | pure hv => cases hv
  | ptr _ _ b c e => exact .ptr _ _ b c (hk h e)
 | eptr k o sz i off h =>
  intro v hv
  cases hv with
  | pure hv => cases hv
  | eptr _ _ _ _ b c e => exact .eptr _ _ _ _ b c (hk h e)
 | own k o sz off len h =>
  intro v hv
  cases hv with
  | pure hv => cases hv
  | ownN _ _ e => exact .ownN _ _ (hk h e)
  | own _ _ _ _ b c a cap e h1 h2 h3 => exact .own _ _ _ _ b c a cap (hk h e) h1 h2 h3
 | mp k o h =>
  intro v hv
  cases hv with
  | pure hv => cases hv
  | mp _ b c e => exact .mp _ b c (hk h e)
 | yld k o h =>
  intro v hv
  cases hv with
  | pure hv => cases hv
  | yld _ b c e => exact .yld _ b c (hk h e)
 | ifp t k o off h =>
  intro v hv
  cases hv with
  | pure hv => cases hv
  | ifp _ _ _ b c e => exact .ifp _ _ _ b c (hk h e)
 | nil k sz h =>
  intro v hv
  cases hv with
  | pure hv => cases hv; exact .ownN _ _ (by simp only [zUQ, h])
 | nill =>
  intro v hv
  cases hv with
  | pure hv => cases hv; exact .pure (.nil _ _)
 | clpl xs =>
  intro v hv
  cases hv with
  | pure hv => cases hv with
   | clp _ a hp => exact .pure (hp.mono (fun _ _ => rfl) (fun _ hb => .inl hb))
 | nmapl =>
  intro v hv
  cases hv with
  | pure hv => cases hv; exact .pure .nmap
 | froz o sz off len xs h1 h2 h3 =>
  intro v hv
  have ho := hs.objs o
  rw [h1] at ho
  exact .pure (zGc hv ho h3 (fun _ hb => .inl hb) (fun b c e => .inr ⟨o, c, by rw [h1]; rfl, e, h2⟩))
 | frozm o ks ks' xs xs' h1 h2 hm =>
  intro v hv
  have ho := hs.objs o
  rw [h1] at ho
  obtain ⟨b, es, clock, g1, g2, g3, g4⟩ := ho
  cases hv with
  | pure hv => cases hv
  | mp _ b' c e =>
   rw [g1] at e; cases e
   exact .pure (PR.fmap_of (.inr ⟨o, 0, by rw [h1]; rfl, g1, h2⟩) g2 (hm.shape g3) ((hm.vals g4).imp (fun i hi v hv => hv.mono (fun _ _ => rfl) (fun _ hb => .inl hb))))
 | frozb o off len cs xs h1 h2 h3 h4 h5 h6 _ ih =>
  intro v hv
  have ho := hs.objs o
  rw [h1] at ho
  subst h4
  have hlen : len = xs.length := by omega
  cases hv with
  | pure hv => cases hv
  | ownN _ _ q =>
   have : xs = [] := List.eq_nil_of_length_eq_zero (by omega)
   subst this
   exact .pure (.nil none 0)
  | own _ _ _ _ b' c ad cap q q1 q2 q3 =>
   rcases ho with ⟨g1, _⟩ | ⟨b, C, e, g1, g2, g3, g4⟩
   ·rw [g1] at q; cases q
   rw [g1] at q; cases q
   by_cases h0 : len = 0
   ·have : xs = [] := List.eq_nil_of_length_eq_zero (by omega)
    subst this; rw [h0]
    exact .pure (.nil (some ad) cap)
   ·have had := q3 (by omega)
    subst had
    subst hlen
    have hone : ∀ i (hi : i < xs.length), (xs[i]).cells = [xs[i]] := fun i hi => by
     have := (h6 _ (List.getElem_mem hi)).2
     revert this
     cases xs[i] <;> simp [AV.one, AV.cells]
    refine .pure (.list b' (0 * 1) cap 1 xs (fun i _ => C.getD i undef) (.inr ⟨o, _, by rw [h1]; rfl, g1, h2⟩) (by omega) q1 (fun i hi => by rw [hone i hi]; rfl) (fun i j hi hj => ?_) (fun i hi j hj => ?_))
    ·have hic : i < C.size := by omega
     have : 0 * 1 + i * 1 + j = i := by omega
     rw [this]
     simp [World.cell?, g2, hic]
    ·have hic : i < C.size := by omega
     have hj0 : j = 0 := by rw [hone i hi] at hj; simpa using hj
     subst hj0
     have e1 : (xs[i]).cells[0] = xs[i] := by simp [hone i hi]
     have e2 : C.getD i undef = C[i] := by simp [hic]
     rw [e1, e2]
     exact (ih i hi (by omega) (g4 i (by omega) hic)).toPR (h6 _ (List.getElem_mem hi)).1
 | agg cs ds hl _ ih =>
  intro v hv
  cases hv with
  | pure hv =>
   cases hv with
   | agg _ vs h1 h2 => exact .agg cs vs (hl.trans h1) (fun i h h' => ih i h (by omega) (.pure (h2 i (by omega) h')))
  | agg _ vs h1 h2 => exact .agg cs vs (hl.trans h1) (fun i h h' => ih i h (by omega) (h2 i (by omega) h'))
 | tup cs ds hl _ ih =>
  intro v hv
  cases hv with
  | pure hv => cases hv
  | tup _ vs h1 h2 => exact .tup cs vs (hl.trans h1) (fun i h h' => ih i h (by omega) (h2 i (by omega) h'))
 | fn f cs ds hl _ ih =>
  intro v hv
  cases hv with
  | pure hv => cases hv
  | fn _ _ vs h1 h2 => exact .fn f cs vs (hl.trans h1) (fun i h h' => ih i h (by omega) (h2 i (by omega) h'))
def OXp (H : Nat → AObj) (ρ : Nat → Option (Option Nat)) (F : Nat → Prop) : AObj → AObj → Prop
 | .dead, _ => True
 | .box cs, .box ds => cs.length = ds.length ∧ ∀ i (h : i < cs.length) (h' : i < ds.length), Xp H ρ F cs[i] ds[i]
 | .row s xs, .row s' ys => s = s' ∧ xs = ys
 | .mapo ks xs, .mapo ks' xs' => ks = ks' ∧ xs = xs'
 | .iter c ks xs, .iter c' ks' xs' => c = c' ∧ ks = ks' ∧ xs = xs'
 | .siter s p, .siter s' p' => s = s' ∧ p = p'
 | .brow e l, .brow e' l' => e = e' ∧ l = l'
 | .tbox e cs, .tbox e' ds => e = e' ∧ cs.length = ds.length ∧ ∀ i (h : i < cs.length) (h' : i < ds.length), Xp H ρ F cs[i] ds[i]
 | .loopo L env p, .loopo L' env' p' => L = L' ∧ p = p' ∧ ∀ t, Xp H ρ F (lkV env t) (lkV env' t)
 | .unb, .unb => True
 | _, _ => False
theorem OXp.live {H : Nat → AObj} {ρ : Nat → Option (Option Nat)} {F : Nat → Prop} {A B : AObj} (h : OXp H ρ F A B) (hl : A.live = true) : B.live = true := by
 cases A <;> cases B <;> simp_all [OXp, AObj.live]
theorem OXp.sound {E : Env} {I : Nat → Prop} {loc : Nat → Loc} {σ : AS} {a : Act} {w : World} {ρ : Nat → Option (Option Nat)} {F : Nat → Prop} (hs : SR E I loc σ a w) {k o : Nat} (hr : ρ k = some (some o)) {A B : AObj}
    (ho : OXp σ.obj ρ F A B) (hB : σ.obj o = B) : OR w (zUW σ.obj F loc I) (zUQ ρ loc) k A := by
  have hk : ∀ l, loc o = l → zUQ ρ loc k = l := fun l e => by simp only [zUQ, hr, e]
  have hso := hs.objs o
  rw [hB] at hso
  cases A with
  | dead => exact trivial
  | unb =>
    cases B with
    | unb => exact hk _ hso
    | _ => exact ho.elim
  | mapo ks xs =>
    cases B with
    | mapo ks' xs' =>
      obtain ⟨rfl, rfl⟩ := ho
      obtain ⟨b, es, clock, h1, h2, h3, h4⟩ := hso
      exact ⟨b, es, clock, hk _ h1, h2, h3, h4.imp (fun i h v hv => hv.mono (fun _ _ => rfl) (fun _ hb => .inl hb))⟩
    | _ => exact ho.elim
  | iter c ks xs =>
    cases B with
    | iter c' ks' xs' =>
      obtain ⟨rfl, rfl, rfl⟩ := ho
      obtain ⟨b, h1, h⟩ := hso
      refine ⟨b, hk _ h1, ?_⟩
      rcases h with h | ⟨m, es, clock, seen, h2, h3, h4, h5, h6, h7, h8⟩
      · exact .inl h
      · exact .inr ⟨m, es, clock, seen, h2, .inl h3, h4, h5, h6, h7.imp (fun i h v hv => hv.mono (fun _ _ => rfl) (fun _ hb => .inl hb)), fun p hp => by
          obtain ⟨e, g1, g2, g3, g4⟩ := h8 p hp
          exact ⟨e, g1, g2, g3, g4.mono (fun _ _ => rfl) (fun _ hb => .inl hb)⟩⟩
    | _ => exact ho.elim
  | siter s pos =>
    cases B with
    | siter s' pos' =>
      obtain ⟨rfl, rfl⟩ := ho
      obtain ⟨b, h1, h2⟩ := hso
      exact ⟨b, hk _ h1, h2⟩
    | _ => exact ho.elim
  | brow e l =>
    cases B with
    | brow e' l' =>
      obtain ⟨rfl, rfl⟩ := ho
      rcases hso with ⟨h1, h2⟩ | ⟨b, C, h1, h2, h3⟩
      · exact .inl ⟨hk _ h1, h2⟩
      · exact .inr ⟨b, C, hk _ h1, h2, h3⟩
    | _ => exact ho.elim
  | tbox e cs =>
    cases B with
    | tbox e' ds =>
      obtain ⟨rfl, hl, hx⟩ := ho
      obtain ⟨b, C, h1, h2, h0, h3, h4⟩ := hso
      exact ⟨b, C, hk _ h1, h2, h0, by omega, fun i hi hi' => Xp.sound hs (hx i hi (by omega)) (h4 i (by omega) hi')⟩
    | _ => exact ho.elim
  | loopo L env p =>
    cases B with
    | loopo L' env' p' =>
      obtain ⟨rfl, rfl, he⟩ := ho
      obtain ⟨b, tmps, ds, h1, h2, h3, h4⟩ := hso
      exact ⟨b, tmps, ds, hk _ h1, h2, h3, fun t => Xp.sound hs (he t) (h4 t)⟩
    | _ => exact ho.elim
  | box cs =>
    cases B with
    | box ds =>
      have hl := ho.1
      rcases hso with ⟨h1, h2⟩ | ⟨b, C, e, h1, h2, h3, h4⟩
      · subst h2; exact .inl ⟨hk _ h1, List.eq_nil_of_length_eq_zero (by simpa using hl)⟩
      · exact .inr ⟨b, C, e, hk _ h1, h2, by omega, fun i hi hi' => Xp.sound hs (ho.2 i hi (by omega)) (h4 i (by omega) hi')⟩
    | _ => exact ho.elim
  | row s xs =>
    cases B with
    | row s' ys =>
      obtain ⟨rfl, rfl⟩ := ho
      obtain ⟨h0, hx, h1⟩ := hso
      refine ⟨h0, hx, ?_⟩
      rcases h1 with ⟨h1, h2⟩ | ⟨b, C, e, h1, h2, h3, h4⟩
      · exact .inl ⟨hk _ h1, h2⟩
      · exact .inr ⟨b, C, e, hk _ h1, h2, h3, fun i hi j hj h' => (h4 i hi j hj h').mono (fun _ _ => rfl) (fun _ hb => .inl hb)⟩
    | _ => exact ho.elim
structure WK (ρ : Nat → Option (Option Nat)) (F : Nat → Prop) (σ σ' : AS) : Prop where
 frz : ∀ o k, F o → ρ k = some (some o) → (σ'.obj k).live = false
 env : ∀ t, Xp σ.obj ρ F (σ'.get t) (σ.get t)
 objs : ∀ k, match ρ k with
  | none => σ'.obj k = .unb ∨ σ'.obj k = .dead
  | some none => σ'.obj k = .dead ∨ (∃ s, 0 < s ∧ σ'.obj k = .row s []) ∨ σ'.obj k = .box [] ∨ ∃ e, σ'.obj k = .brow e []
  | some (some o) => OXp σ.obj ρ F (σ'.obj k) (σ.obj o)
 inj : ∀ k k' o, (σ'.obj k).live = true → (σ'.obj k').live = true → ρ k = some (some o) → ρ k' = some (some o) → k = k'
theorem WK.core {E : Env} {I : Nat → Prop} {loc : Nat → Loc} {σ σ' : AS} {a : Act} {w : World} {ρ : Nat → Option (Option Nat)} {F : Nat → Prop} (hs : SR E I loc σ a w) (h : WK ρ F σ σ') :
  (∀ t, VR w (zUW σ.obj F loc I) (zUQ ρ loc) (σ'.get t) (a.tmps.getD t undef)) ∧ (∀ o, OR w (zUW σ.obj F loc I) (zUQ ρ loc) o (σ'.obj o)) ∧
  (∀ o o' b c c', (σ'.obj o).live = true → (σ'.obj o').live = true → zUQ ρ loc o = .blk b c → zUQ ρ loc o' = .blk b c' → o = o') ∧ (∀ b, zUW σ.obj F loc I b → b < w.heap.size) ∧
  (∀ o b c, (σ'.obj o).live = true → zUQ ρ loc o = .blk b c → ¬ zUW σ.obj F loc I b ∧ (b < E.w0.heap.size → E.fp b)) := by
 have hlive : ∀ k b c, (σ'.obj k).live = true → zUQ ρ loc k = .blk b c → ∃ o, ρ k = some (some o) ∧ (σ.obj o).live = true ∧ loc o = .blk b c := by
  intro k b c hl e
  have ho := h.objs k
  unfold zUQ at e
  cases hr : ρ k with
  | none => rw [hr] at e; cases e
  | some r =>
   cases r with
   | none => rw [hr] at e; cases e
   | some o =>
    rw [hr] at e ho
    exact ⟨o, rfl, ho.live hl, e⟩
 refine ⟨fun t => Xp.sound hs (h.env t) (hs.tmps t), fun k => ?_, ?_, ?_, ?_⟩
 ·have ho := h.objs k
  cases hr : ρ k with
  | none =>
   rw [hr] at ho
   rcases ho with e | e
   ·rw [e]; show zUQ ρ loc k = .un; simp only [zUQ, hr]
   ·rw [e]; exact trivial
  | some r =>
   cases r with
   | none =>
    rw [hr] at ho
    rcases ho with e | ⟨s, h0, e⟩ | e | ⟨t, e⟩
    ·rw [e]; exact trivial
    ·rw [e]; exact ⟨h0, fun i hi => by simp at hi, .inl ⟨by simp only [zUQ, hr], rfl⟩⟩
    ·rw [e]; exact .inl ⟨by simp only [zUQ, hr], rfl⟩
    ·rw [e]; exact .inl ⟨by simp only [zUQ, hr], rfl⟩
   | some o =>
    rw [hr] at ho
    exact OXp.sound hs hr ho rfl
 ·intro k k' b c c' hl hl' e e'
  obtain ⟨o, h1, h2, h3⟩ := hlive k b c hl e
  obtain ⟨o', h1', h2', h3'⟩ := hlive k' b c' hl' e'
  have := hs.inj o o' b c c' h2 h2' h3 h3'
  subst this
  exact h.inj k k' o hl hl' h1 h1'
 ·intro b hb
  rcases hb with hb | ⟨o, c, h1, h2, _⟩
  ·exact hs.imm b hb
  ·exact (hs.objs o).lt h1 h2
 ·intro k b c hl e
  obtain ⟨o, h1, h2, h3⟩ := hlive k b c hl e
  refine ⟨?_, (hs.sep o b c h2 h3).2⟩
  rintro (hb | ⟨o', c', h4, h5, h6⟩)
  ·exact (hs.sep o b c h2 h3).1 hb
  ·have := hs.inj o o' b c c' h2 h4 h3 h5
   subst this
   have := h.frz o k h6 h1
   rw [this] at hl; cases hl
theorem WK.sound {E : Env} {I : Nat → Prop} {loc : Nat → Loc} {σ σ' : AS} {a : Act} {w : World} {ρ : Nat → Option (Option Nat)} {F : Nat → Prop} (hs : SR E I loc σ a w) (h : WK ρ F σ σ') (hn : σ'.n = σ.n) (hfp : ∀ k, k < E.n → ρ k = some (some k)) :
  SR E (zUW σ.obj F loc I) (zUQ ρ loc) σ' a w := by
 obtain ⟨h1, h2, h3, h4, h5⟩ := WK.core hs h
 have hmk : Marks E (zUW σ.obj F loc I) (zUQ ρ loc) σ' a.defers w := hs.defers.imp (fun r g1 g2 g3 g4 => by
  refine ⟨g1, ?_, g3, fun k c hl e => ?_⟩
  ·rintro (hb | ⟨o, c, h1, h2, _⟩)
   ·exact g2 hb
   ·exact g4 o c h1 h2
  ·have ho := h.objs k
   unfold zUQ at e
   cases hr : ρ k with
   | none => rw [hr] at e; cases e
   | some x =>
    cases x with
    | none => rw [hr] at e; cases e
    | some o =>
     rw [hr] at e ho
     exact g4 o c (ho.live hl) e)
 refine ⟨hmk, hs.size.trans hn.symm, h1, h2, h3, h4, h5, hs.fr, fun b hb => .inl (hs.base b hb), fun b hb => ?_, fun k hk => by simp only [zUQ, hfp k hk]; exact hs.keep k hk⟩
 rcases hb with hb | ⟨o, c, h1, h2, h3⟩
 ·exact hs.top b hb
 ·rcases Nat.lt_or_ge b E.w0.heap.size with hlt | hge
  ·exact .inr (.inr ((hs.sep o b c h1 h2).2 hlt))
  ·exact .inr (.inl (.inl hge))
def idR : Nat → Option (Option Nat) := fun k => some (some k)
theorem zDD (loc : Nat → Loc) : zUQ idR loc = loc := rfl
theorem Xp.refl (H : Nat → AObj) (F : Nat → Prop) : ∀ x : AV, Xp H idR F x x
 | .any => .any _
 | .raw v => .same _ (.raw v)
 | .list xs => .same _ (.list xs)
 | .elt x => .same _ (.elt x)
 | .fmap ks xs => .same _ (.fmap ks xs)
 | .ptr o off => .ptr o o off rfl
 | .eptr o sz i off => .eptr o o sz i off rfl
 | .own o sz off len => .own o o sz off len rfl
 | .mp o => .mp o o rfl
 | .yld o => .yld o o rfl
 | .ifp t o off => .ifp t o o off rfl
 | .ifc t x => .same _ (.ifc t x)
 | .clp xs => .same _ (.clp xs)
 | .agg cs => .agg cs cs rfl (fun i h _ => have := List.sizeOf_lt_of_mem (List.getElem_mem h); Xp.refl H F cs[i])
 | .tup cs => .tup cs cs rfl (fun i h _ => have := List.sizeOf_lt_of_mem (List.getElem_mem h); Xp.refl H F cs[i])
 | .fn f cs => .fn f cs cs rfl (fun i h _ => have := List.sizeOf_lt_of_mem (List.getElem_mem h); Xp.refl H F cs[i])
termination_by x => SizeOf.sizeOf x
decreasing_by all_goals (simp; omega)
theorem OXp.refl (H : Nat → AObj) (F : Nat → Prop) (A : AObj) : OXp H idR F A A := by
 cases A <;> simp [OXp]
 ·exact fun i h _ => Xp.refl H F _
 ·exact fun i h _ => Xp.refl H F _
 ·exact fun t => Xp.refl H F _
def Y6 (σ : AS) : List Nat → AS
 | [] => σ
 | o :: r => (Y6 σ r).setO o .dead
theorem I5 (σ : AS) : ∀ (l : List Nat) (o : Nat), (Y6 σ l).obj o = if o ∈ l then .dead else σ.obj o
 | [], o => by simp [Y6]
 | k :: r, o => by
  simp only [Y6, AS.obj_setO, I5 σ r o, List.mem_cons]
  by_cases h : k = o
  ·subst h; simp
  ·have h' : ¬ o = k := fun e => h e.symm
   simp [h, h']
theorem E8 (σ : AS) : ∀ (l : List Nat), (Y6 σ l).n = σ.n ∧ ∀ t, (Y6 σ l).get t = σ.get t
 | [] => ⟨rfl, fun _ => rfl⟩
 | k :: r => ⟨(E8 σ r).1, fun t => (E8 σ r).2 t⟩
theorem WK.kill (σ : AS) (ex : List Nat) : WK idR (· ∈ ex) σ (Y6 σ ex) := by
 refine ⟨fun o k ho e => ?_, fun t => ?_, fun k => ?_, fun k k' o _ _ e e' => ?_⟩
 ·simp only [idR, Option.some.injEq] at e; subst e
  rw [I5, if_pos ho]; rfl
 ·rw [(E8 σ ex).2]; exact Xp.refl _ _ _
 ·show OXp σ.obj idR (· ∈ ex) ((Y6 σ ex).obj k) (σ.obj k)
  rw [I5]
  split
  ·exact trivial
  ·exact OXp.refl _ _ _
 ·simp only [idR, Option.some.injEq] at e e'; omega
theorem SR.freeze {E : Env} {I : Nat → Prop} {loc : Nat → Loc} {σ : AS} {a : Act} {w : World} (hs : SR E I loc σ a w) (ex : List Nat) : SR E (zUW σ.obj (· ∈ ex) loc I) loc (Y6 σ ex) a w := by
 have := WK.sound hs (WK.kill σ ex) (E8 σ ex).1 (fun k _ => rfl)
 rwa [zDD] at this
theorem SG.wk {E : Env} {I : Nat → Prop} {γ : Gh} {loc : Nat → Loc} {σ σ' : AS} {a : Act} {w : World} {ρ : Nat → Option (Option Nat)} {F : Nat → Prop} (h : WK ρ F σ σ') (hn : σ'.n = σ.n) (hfp : ∀ k, k < E.n → ρ k = some (some k)) (hs : SG E I γ loc σ a w) :
  SG E (zUW σ.obj F loc I) γ (zUQ ρ loc) σ' a w := by
 obtain ⟨hs, og⟩ := hs
 refine ⟨WK.sound hs h hn hfp, ⟨og.wf, ?_, fun o b c hl e => ?_, og.mark, og.own, og.fro⟩⟩
 ·rintro b (hb | ⟨o, c, hl, e, _⟩)
  ·exact og.rd b hb
  ·exact .inl (og.live o b c hl e)
 ·have ho := h.objs o
  unfold zUQ at e
  cases hr : ρ o with
  | none => rw [hr] at e; cases e
  | some x =>
   cases x with
   | none => rw [hr] at e; cases e
   | some k =>
    rw [hr] at e ho
    exact og.live k b c (ho.live hl) e
theorem SG.freeze {E : Env} {I : Nat → Prop} {γ : Gh} {loc : Nat → Loc} {σ : AS} {a : Act} {w : World} (hs : SG E I γ loc σ a w) (ex : List Nat) : SG E (zUW σ.obj (· ∈ ex) loc I) γ loc (Y6 σ ex) a w := by
 have := hs.wk (WK.kill σ ex) (E8 σ ex).1 (fun k _ => rfl)
 rwa [zDD] at this
theorem St.wk {E : Env} {σ σ' : AS} {a : Act} {w : World} {γ : Gh} {ρ : Nat → Option (Option Nat)} {F : Nat → Prop} (h : WK ρ F σ σ') (hn : σ'.n = σ.n) (hfp : ∀ k, k < E.n → ρ k = some (some k)) (hs : St E σ a w γ) : St E σ' a w γ :=
 let ⟨_, _, hs⟩ := hs
 ⟨_, _, hs.wk h hn hfp⟩
section
variable {E : Env} {I : Nat → Prop} {loc : Nat → Loc} {σ : AS} {a : Act} {w : World}
theorem hereFp.own {γ : Gh} (og : OwnG E I γ loc σ a w) {b : Nat} : hereFp loc σ a b → γ.O b := by
 rintro (⟨o, c, hl, e⟩ | ⟨d, hd, e⟩)
 ·exact og.live o b c hl e
 ·exact og.mark d b hd e
theorem EvOK.mono {γ γ' : Gh} {n : Nat} {e : Event} (h1 : ∀ b, γ.O b → γ'.O b) (h2 : ∀ b, γ.F b → γ'.O b ∨ γ'.F b) (h : EvOK γ n e) : EvOK γ' n e := by
 unfold EvOK at *
 cases hl : e.loc with
 | cell x => rw [hl] at h; exact ⟨h.1, h.2.elim (fun k => .inl (h1 _ k)) (fun k => (h2 _ k.2).elim (fun q => .inl q) (fun q => .inr ⟨k.1, q⟩))⟩
 | obj x => rw [hl] at h; exact ⟨h.1, h.2.elim (fun k => .inl (h1 _ k)) (fun k => (h2 _ k.2).elim (fun q => .inl q) (fun q => .inr ⟨k.1, q⟩))⟩
 | mark m => rw [hl] at h; revert h; cases m <;> exact id
 | output => rw [hl] at h; exact h
 | goroutines => rw [hl] at h; exact h
theorem SG.next {γ : Gh} {I' : Nat → Prop} {loc' : Nat → Loc} {σ' : AS} {a' : Act} {w' : World} {es : Array Event} (h : SG E I γ loc σ a w) (h' : SR (E.here I loc σ a w) I' loc' σ' a' w') (hsub : ∀ d, d ∈ a'.defers → d ∈ a.defers ∨ ∃ r, d.target = .collected r ∧ w.heap.size ≤ r)
  (he : EvsOK ⟨hereFp loc σ a, I, none⟩ w.heap.size es) : ∃ γ', Guar γ γ' w w' es ∧ SG E I' γ' loc' σ' a' w' := by
 obtain ⟨hs, og⟩ := h
 have hfo : ∀ b, hereFp loc σ a b → γ.O b := fun b => hereFp.own og
 refine ⟨⟨fun b => γ.O b ∨ (w.heap.size ≤ b ∧ b < w'.heap.size), γ.F, γ.tok⟩, ⟨⟨?_, ?_⟩, h'.fr.tape, h'.fr.os, h'.fr.output, h'.fr.size, fun b hb ho => h'.fr.block b hb (.inl hb) (fun e => ho (hfo b e)), fun b hb => hb.imp id (·.1), fun b hb => .inl hb, rfl, fun e hm => (he e hm).mono hfo og.rd⟩, ⟨hs.back h', ⟨⟨?_, ?_⟩, fun b hb => ?_, fun o b c hl e => ?_, fun d r hd e => ?_, fun b hb => .inl (og.own b hb), og.fro⟩⟩⟩
 case refine_2 | refine_4 =>
  rintro b (hb | hb) hf
  ·exact og.wf.apart b hb hf
  ·have := og.wf.lt b (.inr hf); omega
 case refine_1 | refine_3 =>
  rintro b ((h1 | h1) | h1)
  ·exact Nat.lt_of_lt_of_le (og.wf.lt b (.inl h1)) h'.fr.size
  ·exact h1.2
  ·exact Nat.lt_of_lt_of_le (og.wf.lt b (.inr h1)) h'.fr.size
 ·rcases h'.top b hb with h1 | h1 | h1
  ·exact (og.rd b h1).imp .inl id
  ·exact .inl (.inr ⟨h1.elim id Nat.le_of_not_lt, h'.imm b hb⟩)
  ·exact .inl (.inl (hfo b h1))
 ·rcases Nat.lt_or_ge b w.heap.size with hb | hb
  ·exact .inl (hfo b ((h'.sep o b c hl e).2 hb))
  ·exact .inr ⟨hb, (h'.objs o).lt hl e⟩
 ·rcases hsub d hd with h1 | ⟨r', h1, h2⟩
  ·exact .inl (og.mark d r h1 e)
  ·rw [h1] at e
   simp only [Target.collected.injEq] at e
   subst e
   obtain ⟨_, k1, k2⟩ := h'.defers.get hd h1
   exact .inr ⟨h2, (Array.getElem?_eq_some_iff.1 k1).1⟩
end
end Go.Abs

namespace Go.Abs
open Go
def s9 (P : Program) (t : TypeId) : Option Bool := match P.underlying t with
 | some (.struct _) => some true
 | some (.array _ _) => some true
 | some _ => some false
 | none => none
def sizeT (P : Program) (t : TypeId) : Option Nat := (P.info? t).map (·.size)
def bytesT (P : Program) (t : TypeId) : Option Nat := (P.info? t).map (·.bytes)
def zeroT (P : Program) (t : TypeId) : Option Value := (P.info? t).bind (·.zero)
def sliceT (P : Program) (t : TypeId) : Option TypeId := match P.underlying t with
 | some (.slice e) => some e
 | _ => none
def G8 (P : Program) (t : TypeId) : Option (Nat × TypeId) := match P.underlying t with
 | some (.array n e) => some (n, e)
 | _ => none
def w8 (P : Program) (s : TypeId) (f : Nat) : Option (TypeId × Nat) := match P.underlying s with
 | some (.struct fs) => (fs[f]?).map fun x => (x.type, x.offset)
 | _ => none
def U0 (P : Program) (t : TypeId) : Bool := match P.underlying t with
 | some .string => true
 | _ => false
def zVK (P : Program) (t : TypeId) : Option IntKind := match P.underlying t with
 | some (.int k) => some k
 | _ => none
def zVQ (P : Program) (t : TypeId) : Option (TypeId × TypeId) := match P.underlying t with
 | some (.map k e) => some (k, e)
 | _ => none
def zU8 : Value → Bool
 | .slice none 0 0 => true
 | .map none => true
 | .pointer none => true
 | _ => false
def i5 : Value → AV
 | .agg cs => if cs.all (·.oneCell') then .agg (cs.toList.map .raw) else .any
 | .tuple _ => .any
 | v => .raw v
def AS.ev (σ : AS) : Operand → AV
 | .tmp t => σ.get t
 | .const v => i5 v
 | .global g => .raw (.pointer (some ⟨g, 0, none⟩))
 | .func f => .raw (.func (.func f) #[] #[])
abbrev Cont := AV → List Nat → List (Nat × AObj) → Prop
def zAG (c a b : AV) (K : Cont) : Prop := match c with
 | .raw (.bool t) => K (if t = true then a else b) [] []
 | _ => False
def C4 (P : Program) (t : TypeId) (H : Nat → AObj) (nx : Nat) (K : Cont) : Prop := match zeroT P t with
 | some z => z.cells.all (·.oneCell') = true ∧ H nx = .unb ∧ K (.ptr nx 0) [nx] [(nx, .box (z.cells.toList.map .raw))]
 | none => False
def AV.sized : AV → Bool
 | .any | .tup _ => false
 | _ => true
def zVk (x : AV) (H : Nat → AObj) (nx : Nat) (K : Cont) : Prop := x.sized = true ∧ H nx = .unb ∧ K (.ptr nx 0) [nx] [(nx, .box x.cells)]
def splice (cs : List AV) (off : Nat) (ds : List AV) : List AV := cs.take off ++ ds ++ cs.drop (off + ds.length)
def P0 (P : Program) (t : TypeId) (x : AV) (H : Nat → AObj) (K : Cont) : Prop := match x with
 | .ptr o off => match H o with
  | .box cs => match s9 P t, sizeT P t with
   | some true, some n => off + n ≤ cs.length ∧ K (.agg ((cs.drop off).take n)) [o] []
   | some false, some _ => off < cs.length ∧ K (cs.getD off .any) [o] []
   | _, _ => False
  | .tbox _ cs => match s9 P t, sizeT P t with
   | some false, some _ => off < cs.length ∧ K (cs.getD off .any) [o] []
   | _, _ => False
  | _ => False
 | .eptr o sz i off => match H o with
  | .row sz' xs => sz = sz' ∧ i < xs.length ∧ (match s9 P t, sizeT P t with
   | some true, some n => off + n ≤ sz ∧ K (.agg (((xs.getD i .any).cells.drop off).take n)) [o] []
   | some false, some _ => off < sz ∧ K ((xs.getD i .any).cells.getD off .any) [o] []
   | _, _ => False)
  | .box cs => match s9 P t, sizeT P t with
   | some true, some n => i * sz + off + n ≤ cs.length ∧ K (.agg ((cs.drop (i * sz + off)).take n)) [o] []
   | some false, some _ => i * sz + off < cs.length ∧ K (cs.getD (i * sz + off) .any) [o] []
   | _, _ => False
  | _ => False
 | .elt x => match s9 P t, sizeT P t with
  | some true, some n => x.cells.length = n ∧ K (.agg x.cells) [] []
  | some false, some _ => x.cells.length = 1 ∧ K (x.cells.getD 0 .any) [] []
  | _, _ => False
 | _ => False
def H8 (P : Program) (t : TypeId) (a x : AV) (H : Nat → AObj) (K : Cont) : Prop := match a with
  | .ptr o off => match H o with
    | .box cs => sizeT P t = some x.cells.length ∧ x.cells.all AV.one = true ∧ off + x.cells.length ≤ cs.length ∧ K (.tup []) [o] [(o, .box (splice cs off x.cells))]
    | .tbox e cs => (0 < off ∨ off = 0 ∧ x = .ptr o 0) ∧ sizeT P t = some x.cells.length ∧ x.cells.all AV.one = true ∧ off + x.cells.length ≤ cs.length ∧ K (.tup []) [o] [(o, .tbox e (splice cs off x.cells))]
    | _ => False
  | .eptr o sz i off => match H o with
    | .row sz' xs => sz = sz' ∧ i < xs.length ∧ sizeT P t = some x.cells.length ∧ x.cells.all AV.one = true ∧ Pure x ∧
        (if off = 0 ∧ x.cells.length = sz then K (.tup []) [o] [(o, .row sz (xs.set i x))]
         else off + x.cells.length ≤ sz ∧ K (.tup []) [o] [(o, .row sz (xs.set i (.agg (splice (xs.getD i .any).cells off x.cells))))])
    | .box cs => sizeT P t = some x.cells.length ∧ x.cells.all AV.one = true ∧ i * sz + off + x.cells.length ≤ cs.length ∧ K (.tup []) [o] [(o, .box (splice cs (i * sz + off) x.cells))]
    | _ => False
  | _ => False
def D8 (P : Program) (t : TypeId) (v : Value) (name : String) : Prop :=
 ∀ w, (nilAhead (P.types.size + Made.depth) t v name).run P w = .ok (some false) w ∧ ∀ es, (nilAhead (P.types.size + Made.depth) t v name).events P w es = es
def zVY (P : Program) (x : AV) (K : Cont) : Prop := match x with
 | .raw (.func (.method name) first caps) => (match first.toList with
  | [.iface t v] => D8 P t v name ∧ K x [] []
  | _ => False)
 | .ptr _ _ => K x [] []
 | .eptr _ _ _ _ => K x [] []
 | .elt _ => K x [] []
 | .fn _ _ => K x [] []
 | _ => False
def zVq (op : BinOp) (a b : Int) : Option Bool := match op with
 | .eql => some (a == b)
 | .neq => some (a != b)
 | .lss => some (decide (a < b))
 | .leq => some (decide (a ≤ b))
 | .gtr => some (decide (a > b))
 | .geq => some (decide (a ≥ b))
 | _ => none
def zVI (op : BinOp) (k : IntKind) (a b : Int) (K : Cont) : Prop := match op with
 | .add => K (.raw (.int k (k.wrap (a + b)))) [] []
 | .sub => K (.raw (.int k (k.wrap (a - b)))) [] []
 | .mul => K (.raw (.int k (k.wrap (a * b)))) [] []
 | .quo => b ≠ 0 ∧ K (.raw (.int k (k.wrap (a.tdiv b)))) [] []
 | .rem => b ≠ 0 ∧ K (.raw (.int k (a.tmod b))) [] []
 | .and => K (.raw (.int k (k.wrap (BitVec.ofInt k.bits a &&& BitVec.ofInt k.bits b).toNat))) [] []
 | .or => K (.raw (.int k (k.wrap (BitVec.ofInt k.bits a ||| BitVec.ofInt k.bits b).toNat))) [] []
 | .xor => K (.raw (.int k (k.wrap (BitVec.ofInt k.bits a ^^^ BitVec.ofInt k.bits b).toNat))) [] []
 | .andNot => K (.raw (.int k (k.wrap (BitVec.ofInt k.bits a &&& ~~~BitVec.ofInt k.bits b).toNat))) [] []
 | op => match zVq op a b with
  | some r => K (.raw (.bool r)) [] []
  | none => False
def zVd (op : BinOp) (x y : ByteArray) (K : Cont) : Prop := match op with
 | .add => x.size + y.size ≤ 9223372036854775807 ∧ K (.raw (.string (x ++ y))) [] []
 | .eql => K (.raw (.bool (x.toList == y.toList))) [] []
 | .neq => K (.raw (.bool !(x.toList == y.toList))) [] []
 | .lss => K (.raw (.bool (Op.bytesLess x.toList y.toList))) [] []
 | .leq => K (.raw (.bool (Op.bytesLess x.toList y.toList || x.toList == y.toList))) [] []
 | .gtr => K (.raw (.bool !(Op.bytesLess x.toList y.toList || x.toList == y.toList))) [] []
 | .geq => K (.raw (.bool !(Op.bytesLess x.toList y.toList))) [] []
 | _ => False
def J8 : Value → Bool
 | .int _ _ | .bool _ | .string _ => true
 | _ => false
def zIM (P : Program) (t : TypeId) (xs ys : List Value) (r : Bool) : Prop :=
 ∀ (x y : Operand) (w : World), (do eqGuard .eql t x y (.agg xs.toArray) (.agg ys.toArray); binOp .eql t (.agg xs.toArray) (.agg ys.toArray) : Sem Value).run P w = .ok (.bool r) w ∧
  (do eqGuard .neq t x y (.agg xs.toArray) (.agg ys.toArray); binOp .neq t (.agg xs.toArray) (.agg ys.toArray) : Sem Value).run P w = .ok (.bool !r) w
def zV3 (P : Program) (t : TypeId) (xs ys : List Value) (r : Bool) : Prop := (xs.all J8 = true ∧ ys.all J8 = true) ∧ zIM P t xs ys r
def Q1 : List AV → Option (List Value)
 | [] => some []
 | .raw v :: r => (Q1 r).map (v :: ·)
 | _ :: _ => none
open Classical in
noncomputable def eqC (P : Program) (t : TypeId) (xs ys : List Value) : Option Bool := if h : ∃ r, zV3 P t xs ys r then some (Classical.choose h) else none
def zAS (P : Program) (op : BinOp) (t : TypeId) (xs ys : List AV) (K : Cont) : Prop := match Q1 xs, Q1 ys with
 | some xs, some ys => match eqC P t xs ys with
  | some r => (match op with
   | .eql => K (.raw (.bool r)) [] []
   | .neq => K (.raw (.bool !r)) [] []
   | _ => False)
  | none => False
 | _, _ => False
def N8 (op : BinOp) (k : IntKind) (a b : Int) (K : Cont) : Prop := match op with
 | .shl => 0 ≤ b ∧ K (.raw (.int k (k.wrap (a * 2 ^ (min b.toNat k.bits))))) [] []
 | .shr => 0 ≤ b ∧ K (.raw (.int k (a.fdiv (2 ^ (min b.toNat k.bits))))) [] []
 | _ => False
def zBh : AV → Option Bool
 | .list (_ :: _) => some false
 | .own _ _ _ (_ + 1) => some false
 | .raw (.slice a _ _) => some a.isNone
 | _ => none
def zAp (P : Program) (op : BinOp) (t : TypeId) (x : AV) (K : Cont) : Prop := match zBh x, P.underlying t with
 | some r, some (.slice _) => (match op with
  | .eql => K (.raw (.bool r)) [] []
  | .neq => K (.raw (.bool !r)) [] []
  | _ => False)
 | _, _ => False
def zVP (P : Program) (op : BinOp) (t : TypeId) (x y : AV) (K : Cont) : Prop := match x, y with
 | .raw (.int k a), .raw (.int k' b) => (match op with
  | .shl => N8 .shl k a b K
  | .shr => N8 .shr k a b K
  | op => k = k' ∧ zVI op k a b K)
 | .raw (.string a), .raw (.string b) => zVd op a b K
 | .raw (.bool a), .raw (.bool b) => (match P.underlying t with
  | some .bool => (match op with
   | .eql => K (.raw (.bool (a == b))) [] []
   | .neq => K (.raw (.bool !(a == b))) [] []
   | _ => False)
  | _ => False)
 | .agg xs, .agg ys => zAS P op t xs ys K
 | x, .raw (.slice none 0 0) => zAp P op t x K
 | .raw (.iface _ _), .raw .nilIface => (match P.underlying t with
  | some (.interface _) => (match op with
   | .eql => K (.raw (.bool false)) [] []
   | .neq => K (.raw (.bool true)) [] []
   | _ => False)
  | _ => False)
 | .raw .nilIface, .raw .nilIface => (match P.underlying t with
  | some (.interface ms) => ms = #[] ∧ (match op with
   | .eql => K (.raw (.bool true)) [] []
   | .neq => K (.raw (.bool false)) [] []
   | _ => False)
  | _ => False)
 | _, _ => False
def unA (op : UnOp) (x : AV) (K : Cont) : Prop := match op, x with
 | .not, .raw (.bool b) => K (.raw (.bool !b)) [] []
 | .neg, .raw (.int k n) => K (.raw (.int k (k.wrap (0 - n)))) [] []
 | _, _ => False
def E5 (P : Program) (s : TypeId) (x : AV) (f : Nat) (K : Cont) : Prop := match w8 P s f with
 | some (u, off) => (match sizeT P u, s9 P u with
  | some n, some ag => n ≠ 0 ∧ (match x with
   | .ptr o p => K (.ptr o (p + off)) [] []
   | .eptr o sz i p => K (.eptr o sz i (p + off)) [] []
   | .elt (.agg cs) => off + n ≤ cs.length ∧ (if ag = true then K (.elt (.agg ((cs.drop off).take n))) [] [] else n = 1 ∧ (cs.getD off .any).cells.length = 1 ∧ (match cs.getD off .any with | .agg _ => False | _ => True) ∧ K (.elt (cs.getD off .any)) [] [])
   | _ => False)
  | _, _ => False)
 | none => False
def D0 (P : Program) (u : TypeId) (cs : List AV) (off : Nat) (K : Cont) : Prop := match s9 P u, sizeT P u with
 | some true, some n => K (.agg ((cs.drop off).take n)) [] []
 | some false, some _ => off < cs.length ∧ K (cs.getD off .any) [] []
 | _, _ => False
def B3 (P : Program) (s : TypeId) (x : AV) (f : Nat) (K : Cont) : Prop := match w8 P s f, x with
 | some (u, off), .agg cs => D0 P u cs off K
 | _, _ => False
def A2 (P : Program) (t : TypeId) (x i : AV) (K : Cont) : Prop := match i with
 | .raw (.int _ n) => (match sliceT P t, x with
  | some e, .list xs => (0 ≤ n ∧ n < xs.length) ∧ sizeT P e = some (xs.getD n.toNat .any).cells.length ∧ K (.elt (xs.getD n.toNat .any)) [] []
  | some e, .own o sz off len => (0 ≤ n ∧ n < len) ∧ sizeT P e = some sz ∧ K (.eptr o sz (off + n.toNat) 0) [] []
  | none, .ptr o off => (match G8 P t with
   | some (len, e) => (match sizeT P e with
    | some sz => (0 ≤ n ∧ n < len) ∧ K (.ptr o (off + n.toNat * sz)) [] []
    | none => False)
   | none => False)
  | _, _ => False)
 | _ => False
def A1 (P : Program) (t : TypeId) (x i : AV) (K : Cont) : Prop := match i, x with
 | .raw (.int _ n), .raw (.string s) => U0 P t = true ∧ (0 ≤ n ∧ n < s.size) ∧ K (.raw (.int .u8 ((s.data.toList.getD n.toNat 0).toNat : Nat))) [] []
 | .raw (.int _ n), .agg cs => (match G8 P t with
  | some (len, e) => (match sizeT P e with
   | some sz => (0 ≤ n ∧ n < len) ∧ D0 P e cs (n.toNat * sz) K
   | none => False)
  | none => False)
 | _, _ => False
def loA : Option AV → Option Int
 | none => some 0
 | some (.raw (.int _ n)) => some n
 | _ => none
def hiA (len : Nat) : Option AV → Option Int
 | none => some len
 | some (.raw (.int _ n)) => some n
 | _ => none
def zAN (P : Program) (t : TypeId) (x : AV) (lo hi mx : Option AV) (K : Cont) : Prop := match mx with
 | some m => (match x with
  | .list xs => (match sliceT P t, loA lo, hi, m with
   | some e, some l, some (.raw (.int _ h)), .raw (.int _ k) => (match sizeT P e with
    | some sz => (0 ≤ l ∧ l ≤ h ∧ h ≤ xs.length) ∧ k = h ∧ (∀ y, y ∈ xs → y.cells.length = sz) ∧ K (.clp ((xs.drop l.toNat).take (h.toNat - l.toNat))) [] []
    | none => False)
   | _, _, _, _ => False)
  | .own o sz off len => (match sliceT P t, loA lo, hi, m with
   | some e, some l, some (.raw (.int _ h)), .raw (.int _ k) => (0 ≤ l ∧ l ≤ h ∧ h ≤ len) ∧ k = h ∧ sizeT P e = some sz ∧ K (.own o sz (off + l.toNat) (h.toNat - l.toNat)) [] []
   | _, _, _, _ => False)
  | _ => False)
 | none => (match x with
  | .raw (.string s) => U0 P t = true ∧ (match loA lo, hiA s.size hi with
   | some l, some h => (0 ≤ l ∧ l ≤ h ∧ h ≤ s.size) ∧ K (.raw (.string (s.extract l.toNat h.toNat))) [] []
   | _, _ => False)
  | .list xs => (match sliceT P t, loA lo, hiA xs.length hi with
   | some e, some l, some h => (match sizeT P e with
    | some sz => (0 ≤ l ∧ l ≤ h ∧ h ≤ xs.length) ∧ (∀ y, y ∈ xs → y.cells.length = sz) ∧ K (.list ((xs.drop l.toNat).take (h.toNat - l.toNat))) [] []
    | none => False)
   | _, _, _ => False)
  | .own o sz off len => (match sliceT P t, loA lo, hiA len hi with
   | some e, some l, some h => (0 ≤ l ∧ l ≤ h ∧ h ≤ len) ∧ sizeT P e = some sz ∧ K (.own o sz (off + l.toNat) (h.toNat - l.toNat)) [] []
   | _, _, _ => False)
  | _ => False)
def B2 (x : AV) (i : Nat) (K : Cont) : Prop := match x with
 | .tup vs => i < vs.length ∧ K (vs.getD i .any) [] []
 | _ => False
def M9 (P : Program) (t : TypeId) (x : AV) : Option Nat := match P.underlying t, x with
 | some .string, .raw (.string s) => some s.size
 | some (.slice _), .list xs => some xs.length
 | some (.slice _), .clp xs => some xs.length
 | some (.slice _), .own _ _ _ len => some len
 | some (.slice _), .raw (.slice _ n _) => some n
 | some (.map _ _), .fmap ks _ => some ks.length
 | some (.array n _), _ => some n
 | _, _ => none
def l6 (H : Nat → AObj) (sz : Nat) : AV → Option (List AV × List Nat)
 | .list xs => some (xs, [])
 | .own o sz' off len => match H o with
  | .row sz'' xs => if sz' = sz ∧ sz'' = sz ∧ off + len ≤ xs.length then some ((xs.drop off).take len, [o]) else none
  | .box cs => if sz' = 1 ∧ sz = 1 ∧ off + len ≤ cs.length ∧ ((cs.drop off).take len).all AV.one = true then some ((cs.drop off).take len, [o]) else none
  | _ => none
 | .raw (.slice _ 0 _) => some ([], [])
 | _ => none
def M4 : List AV → (List UInt8 → Prop) → Prop
 | [], k => k []
 | .raw (.int .u8 n) :: r, k => (0 ≤ n ∧ n < 256) ∧ M4 r (fun l => k (UInt8.ofNat n.toNat :: l))
 | _, _ => False
def F7 (P : Program) (s d : TypeId) (x : AV) (H : Nat → AObj) (K : Cont) : Prop := match zVK P d, x with
 | some k, .raw (.int _ n) => K (.raw (.int k (k.wrap n))) [] []
 | none, .raw (.int _ n) => U0 P d = true ∧ K (.raw (.string (Utf8.encode n))) [] []
 | none, .raw (.string b) => U0 P d = true ∧ K (.raw (.string b)) [] []
 | none, .own o z off len => U0 P d = true ∧ (match sliceT P s, l6 H 1 (.own o z off len) with
  | some e, some (ys, rd) => zVK P e = some .u8 ∧ ys ≠ [] ∧ M4 ys (fun l => K (.raw (.string ⟨l.toArray⟩)) rd [])
  | _, _ => False)
 | _, _ => False
def appendA (P : Program) (t : TypeId) (s x : AV) (H : Nat → AObj) (nx : Nat) (K : Cont) : Prop := match sliceT P t with
  | some e => (match sizeT P e, bytesT P e, zeroT P e, l6 H ((sizeT P e).getD 0) x with
    | some sz, some by_, some z, some (ys, rd) => 0 < sz ∧ z.cells.size = sz ∧ (∀ y, y ∈ ys → y.cells.length = sz ∧ y.cells.all AV.one = true) ∧ (if zU8 z = true then (match s with
      | .own o sz' 0 len => (match H o with
        | .box cs => sz' = 1 ∧ sz = 1 ∧ len = cs.length ∧ (∀ y, y ∈ ys → y.one = true) ∧ H nx = .unb ∧ (len + ys.length) * by_ ≤ 140737488355328 ∧ len + ys.length ≤ 9223372036854775807 ∧
            K (.own nx 1 0 (len + ys.length)) (o :: nx :: rd) [(o, .dead), (nx, .box (cs ++ ys))]
        | _ => False)
      | .raw (.slice none 0 0) => sz = 1 ∧ (∀ y, y ∈ ys → y.one = true) ∧ H nx = .unb ∧ ys.length * by_ ≤ 140737488355328 ∧ ys.length ≤ 9223372036854775807 ∧ K (.own nx 1 0 ys.length) (nx :: rd) [(nx, .box ys)]
      | _ => False) else (∀ y, y ∈ ys → Pure y) ∧ (match s with
      | .own o sz' 0 len => (match H o with
        | .row sz'' xs => sz' = sz ∧ sz'' = sz ∧ len = xs.length ∧ H nx = .unb ∧ (len + ys.length) * by_ ≤ 140737488355328 ∧ len + ys.length ≤ 9223372036854775807 ∧
            K (.own nx sz 0 (len + ys.length)) (o :: nx :: rd) [(o, .dead), (nx, .row sz (xs ++ ys))]
        | _ => False)
      | .raw (.slice none 0 0) => H nx = .unb ∧ ys.length * by_ ≤ 140737488355328 ∧ ys.length ≤ 9223372036854775807 ∧ K (.own nx sz 0 ys.length) (nx :: rd) [(nx, .row sz ys)]
      | .clp xs => (∀ y, y ∈ xs → y.cells.length = sz) ∧ ys ≠ [] ∧ H nx = .unb ∧ (xs.length + ys.length) * by_ ≤ 140737488355328 ∧ xs.length + ys.length ≤ 9223372036854775807 ∧ K (.own nx sz 0 (xs.length + ys.length)) (nx :: rd) [(nx, .row sz (xs ++ ys))]
      | _ => False))
    | _, _, _, _ => False)
  | none => False
def zU9 (b : ByteArray) : List AV := b.data.toList.map fun c => .raw (.int .u8 (c.toNat : Int))
def zVi (P : Program) (t u : TypeId) (x : AV) (H : Nat → AObj) (F : List UInt8 → List Nat → Prop) : Prop := match x with
 | .raw (.string b) => U0 P u = true ∧ F b.data.toList []
 | .own o z off len => u = t ∧ (match l6 H 1 (.own o z off len) with
  | some (ys, rd) => ys ≠ [] ∧ M4 ys (fun l => F l rd)
  | none => False)
 | _ => False
def zVE (e : TypeId) (s : AV) (l2 : List UInt8) (rd : List Nat) (H : Nat → AObj) (nx : Nat) (K : Cont) : Prop := match s with
 | .own o sz' 0 len => (match H o with
  | .brow e' l => sz' = 1 ∧ e' = e ∧ len = l.length ∧ len + l2.length ≤ 140737488355328 ∧ K (.own nx 1 0 (len + l2.length)) (o :: nx :: rd) [(o, .dead), (nx, .brow e (l ++ l2))]
  | _ => False)
 | .raw (.slice none 0 0) => l2.length ≤ 140737488355328 ∧ K (.own nx 1 0 l2.length) (nx :: rd) [(nx, .brow e l2)]
 | _ => False
def K7 (P : Program) (t u : TypeId) (s x : AV) (H : Nat → AObj) (nx : Nat) (K : Cont) : Prop := match sliceT P t with
 | some e => (sizeT P e = some 1 ∧ bytesT P e = some 1 ∧ zeroT P e = some (.int .u8 0)) ∧ H nx = .unb ∧ zVi P t u x H (fun l2 rd => l2 ≠ [] ∧ zVE e s l2 rd H nx K)
 | none => False
def K9 (P : Program) (s d : TypeId) (x : AV) (H : Nat → AObj) (K : Cont) : Prop := match sliceT P d, x with
 | some e, .raw (.string b) => U0 P s = true ∧ zVK P e = some .u8 ∧ K (.list (zU9 b)) [] []
 | _, _ => F7 P s d x H K
def zAb (P : Program) (t : TypeId) : Bool := match P.underlying t with
 | some (.interface _) => false
 | some _ => true
 | none => false
def zAk (P : Program) (t : TypeId) (x : AV) (K : Cont) : Prop := zAb P t = true ∧ (match x with
 | .raw v => K (.raw (.iface t v)) [] []
 | .ptr o off => K (.ifp t o off) [] []
 | .agg cs => (match Q1 cs with
  | some l => K (.raw (.iface t (.agg l.toArray))) [] []
  | none => Pure (.agg cs) ∧ K (.ifc t (.agg cs)) [] [])
 | _ => False)
def zVH : AV → Option (TypeId × AV)
 | .raw (.iface t v) => some (t, i5 v)
 | .ifc t x => some (t, x)
 | .ifp t o off => some (t, .ptr o off)
 | _ => none
def zAW (P : Program) (u : TypeId) (ok : Bool) (x : AV) (K : Cont) : Prop := zAb P u = true ∧ (match zVH x with
 | some (t, y) => if t = u then K (if ok = true then .tup [y, .raw (.bool true)] else y) [] [] else ok = true ∧ (match zeroT P u with
  | some z => K (.tup [i5 z, .raw (.bool false)]) [] []
  | none => False)
 | none => x = .raw .nilIface ∧ ok = true ∧ (match zeroT P u with
  | some z => K (.tup [i5 z, .raw (.bool false)]) [] []
  | none => False))
def S6 (P : Program) (t : TypeId) (name : String) : Option FuncId := match P.info? t, P.underlying t with
 | some i, some d => (match i.methods.find? (·.name == name) with
  | some m => if m.path.toList = [] then (match m.func, d with
   | some (f, true), .pointer _ => some f
   | some (_, true), _ => none
   | some (_, false), .pointer _ => none
   | some (f, false), _ => some f
   | none, _ => none) else none
  | none => none)
 | _, _ => none
def zWA (a b : Int) : Int := if b > a then b else a
def zVl (a b : Int) : Int := if b < a then b else a
def C8 (P : Program) (b : Builtin) (ts : Array TypeId) (xs : List AV) (H : Nat → AObj) (nx : Nat) (K : Cont) : Prop := match b, xs with
 | .len, [x] => 0 < ts.size ∧ (match M9 P (ts.getD 0 0) x with
  | some n => K (.raw (.int .i64 n)) [] []
  | none => False)
 | .append, [s, x] => if ts.getD 0 0 = BYT then ts = #[ts.getD 0 0, ts.getD 1 0] ∧ K7 P (ts.getD 0 0) (ts.getD 1 0) s x H nx K else ts = #[ts.getD 0 0, ts.getD 0 0] ∧ appendA P (ts.getD 0 0) s x H nx K
 | .unsafeSliceData, [.own o sz 0 (len + 1)] => sz = 1 ∧ K (.eptr o 1 0 0) [o] []
 | .unsafeString, [.eptr o sz 0 0, .raw (.int k n)] => (match H o with
  | .brow e l => k = .i64 ∧ sz = 1 ∧ n = (l.length : Int) ∧ l ≠ [] ∧ l.length ≤ 9223372036854775807 ∧ P.cellsOf e = 1 ∧ (match P.underlying (ts.getD 0 0) with | some (.pointer e') => e' = e ∧ 0 < ts.size | _ => False) ∧ K (.raw (.string ⟨l.toArray⟩)) [o] [(o, .dead)]
  | _ => False)
 | .cap, [.raw (.slice none 0 0)] => 0 < ts.size ∧ (match P.underlying (ts.getD 0 0) with | some (.slice _) => True | _ => False) ∧ K (.raw (.int .i64 0)) [] []
 | .max, [.raw (.int k a), .raw (.int _ b)] => K (.raw (.int k (zWA a b))) [] []
 | .min, [.raw (.int k a), .raw (.int _ b)] => K (.raw (.int k (zVl a b))) [] []
 | _, _ => False
def J6 (P : Program) (t : TypeId) (cs : List AV) : List (Nat × AV) → Option (List AV)
 | [] => some cs
 | (i, x) :: r => match w8 P t i with
  | some (u, off) => if sizeT P u = some x.cells.length ∧ off + x.cells.length ≤ cs.length then J6 P t (splice cs off x.cells) r else none
  | none => none
def J7 (sz : Nat) (cs : List AV) : List (Nat × AV) → Option (List AV)
 | [] => some cs
 | (i, x) :: r => if x.cells.length = sz ∧ i * sz + sz ≤ cs.length then J7 sz (splice cs (i * sz) x.cells) r else none
def buildA (P : Program) (t : TypeId) (ps : List (Nat × AV)) (K : Cont) : Prop := match zeroT P t, P.underlying t with
 | some z, some (.struct fs) => z.cells.all (·.oneCell') = true ∧ (∀ f, f ∈ fs → (sizeT P f.type).isSome = true) ∧ (∀ p, p ∈ ps → p.2.sized = true) ∧ (match J6 P t (z.cells.toList.map .raw) ps with
  | some cs => K (.agg cs) [] []
  | none => False)
 | some z, some (.array _ e) => z.cells.all (·.oneCell') = true ∧ (∀ p, p ∈ ps → p.2.sized = true) ∧ (match sizeT P e with
  | some sz => (match J7 sz (z.cells.toList.map .raw) ps with
   | some cs => K (.agg cs) [] []
   | none => False)
  | none => False)
 | _, _ => False
def R7 : AV → Bool
 | .raw _ | .list _ | .elt _ | .fmap _ _ | .ifc _ _ => true
 | _ => false
def zUO (H : Nat → AObj) : Nat → AV → AV × List Nat
 | 0, x => (x, [])
 | n + 1, x => match x with
  | .own o sz off len => (match H o with
   | .row sz' xs => if sz' = sz ∧ off + len ≤ xs.length then (.list ((xs.drop off).take len), [o]) else (x, [])
   | .box cs => if sz = 1 ∧ off = 0 ∧ len = cs.length ∧ cs.all (fun c => R7 (zUO H n c).1) = true then (.list (cs.map fun c => (zUO H n c).1), o :: (cs.map fun c => (zUO H n c).2).flatten) else (x, [])
   | _ => (x, []))
  | .mp o => (match H o with
   | .mapo ks xs => (.fmap ks xs, [o])
   | _ => (x, []))
  | .agg cs => (.agg (cs.map fun c => (zUO H n c).1), (cs.map fun c => (zUO H n c).2).flatten)
  | .raw (.slice none 0 0) => (.list [], [])
  | x => (x, [])
def w5 (fs : List Nat) : List (Nat × AObj) := fs.map fun o => (o, .dead)
def buildSliceA (P : Program) (t : TypeId) (n : Nat) (ps : List (Nat × AV)) (H : Nat → AObj) (nx : Nat) (K : Cont) : Prop := match sliceT P t with
  | some e => (match sizeT P e, zeroT P e with
    | some sz, some z => 0 < sz ∧ n * sz ≤ 16777216 ∧ z.cells.size = sz ∧ ps.map (·.1) = List.range n ∧ H nx = .unb ∧ (if zU8 z = true then sz = 1 ∧ (∀ p, p ∈ ps → p.2.one = true) ∧
        K (.own nx 1 0 n) [nx] [(nx, .box (ps.map (·.2)))]
      else (∀ p, p ∈ ps → Pure (zUO H 3 p.2).1 ∧ (zUO H 3 p.2).1.sized = true ∧ (zUO H 3 p.2).1.cells.length = sz) ∧
        K (.own nx sz 0 n) ((ps.map fun p => (zUO H 3 p.2).2).flatten ++ [nx]) (w5 (ps.map fun p => (zUO H 3 p.2).2).flatten ++ [(nx, .row sz (ps.map fun p => (zUO H 3 p.2).1))]))
    | _, _ => False)
  | none => False
def A8 (P : Program) (t : TypeId) (l c : AV) (H : Nat → AObj) (nx : Nat) (K : Cont) : Prop := match sliceT P t, l, c with
  | some e, .raw (.int _ n), .raw (.int _ m) => (match sizeT P e, bytesT P e, zeroT P e with
    | some sz, some by_, some z => 0 < sz ∧ z.cells.size = sz ∧ z.cells.all (·.oneCell') = true ∧ (i5 z).sized = true ∧ m = n ∧ (0 ≤ n ∧ n ≤ 9223372036854775807 ∧ by_ * n ≤ 140737488355328) ∧ H nx = .unb ∧
        (if zU8 z = true then sz = 1 ∧ K (.own nx 1 0 n.toNat) [nx] [(nx, .box (List.replicate n.toNat (.raw z)))] else K (.own nx sz 0 n.toNat) [nx] [(nx, .row sz (List.replicate n.toNat (i5 z)))])
    | _, _, _ => False)
  | _, _, _ => False
def zLB : Value → Bool
 | .agg cs => cs.all J8
 | v => J8 v
def zVA (P : Program) (k : TypeId) (v : Value) : Prop := zLB v = true ∧ ∃ l, keyOf P k v = some l
def zVR : AV → Option Value
 | .raw v => some v
 | .agg cs => (Q1 cs).map fun l => .agg l.toArray
 | _ => none
open Classical in
noncomputable def zUo (k : Value) : List Value → Option Nat
 | [] => none
 | x :: r => if x = k then some 0 else (zUo k r).map (· + 1)
noncomputable def zVb (ks : List Value) (k : Value) : List Value := match zUo k ks with
 | some _ => ks
 | none => ks ++ [k]
noncomputable def zVc (ks : List Value) (xs : List AV) (k : Value) (x : AV) : List AV := match zUo k ks with
 | some i => xs.set i x
 | none => xs ++ [x]
def zAV : Value → AV
 | .slice none 0 0 => .list []
 | .map none => .fmap [] []
 | v => i5 v
noncomputable def P1 (ks : List Value) (xs : List AV) (k : Value) (z : AV) : AV := match zUo k ks with
 | some i => xs.getD i .any
 | none => z
noncomputable def zVV (ks : List Value) (k : Value) : Bool := (zUo k ks).isSome
def A7 (P : Program) (t : TypeId) (r : Option AV) (H : Nat → AObj) (nx : Nat) (K : Cont) : Prop := match r with
 | none => H nx = .unb ∧ K (.mp nx) [nx] [(nx, .mapo [] [])]
 | some (.raw (.int _ _)) => (zVQ P t).isSome = true ∧ H nx = .unb ∧ K (.mp nx) [nx] [(nx, .mapo [] [])]
 | _ => False
def N1 (P : Program) (t : TypeId) (m k x : AV) (H : Nat → AObj) (K : Cont) : Prop := match zVQ P t, m, zVR k with
  | some (kt, _), .mp o, some kv => (match H o with
    | .mapo ks xs => Maps.Keyed P kt ∧ zVA P kt kv ∧ (∀ q, q ∈ ks → zVA P kt q) ∧ Pure (zUO H 3 x).1 ∧ (zUO H 3 x).2.contains o = false ∧
        K (.tup []) (o :: (zUO H 3 x).2) (w5 (zUO H 3 x).2 ++ [(o, .mapo (zVb ks kv) (zVc ks xs kv (zUO H 3 x).1))])
    | _ => False)
  | _, _, _ => False
def I8 (P : Program) (t : TypeId) (m k : AV) (ok : Bool) (H : Nat → AObj) (K : Cont) : Prop := match zVQ P t, zVR k with
 | some (kt, et), some kv => (match zeroT P et with
  | some z => Maps.Keyed P kt ∧ zVA P kt kv ∧ z.cells.all (·.oneCell') = true ∧ (match m with
   | .fmap ks xs => (∀ q, q ∈ ks → zVA P kt q) ∧ K (if ok = true then .tup [P1 ks xs kv (zAV z), .raw (.bool (zVV ks kv))] else P1 ks xs kv (zAV z)) [] []
   | .mp o => (match H o with
    | .mapo ks xs => (∀ q, q ∈ ks → zVA P kt q) ∧ K (if ok = true then .tup [P1 ks xs kv (zAV z), .raw (.bool (zVV ks kv))] else P1 ks xs kv (zAV z)) [o] []
    | _ => False)
   | _ => False)
  | none => False)
 | _, _ => False
def D1 (P : Program) (t : TypeId) (x : AV) (H : Nat → AObj) (nx : Nat) (K : Cont) : Prop := match x with
 | .fmap ks xs => (zVQ P t).isSome = true ∧ H nx = .unb ∧ K (.ptr nx 0) [nx] [(nx, .iter none ks xs)]
 | .raw (.string s) => U0 P t = true ∧ H nx = .unb ∧ K (.ptr nx 0) [nx] [(nx, .siter s 0)]
 | _ => False
def E9 (x : AV) (H : Nat → AObj) (K : Cont) : Prop := match x with
  | .ptr o 0 => (match H o with
    | .siter s pos => (pos < s.size → K (.tup [.raw (.bool true), .raw (.int .i64 pos), .raw (.int .i32 (Utf8.decode s pos).1)]) [o] [(o, .siter s (pos + (Utf8.decode s pos).2))]) ∧
        (¬ pos < s.size → K (.tup [.raw (.bool false)]) [o] [(o, .siter s pos)])
    | _ => False)
  | _ => False
def E3 (x : AV) (H : Nat → AObj) (K : Cont) : Prop := match x with
 | .ptr o 0 => (match H o with
  | .iter (some (k, x)) _ _ => K (.tup [i5 k, x]) [o] []
  | _ => False)
 | _ => False
end Go.Abs

namespace Go.Abs
open Go
def zUS : Nat → List AObj → List (Nat × AObj)
 | _, [] => []
 | k, A :: r => (k, A) :: zUS (k + 1) r
def hs (fp : List AObj) : AS := ⟨0, [], zUS 0 fp⟩
def P2 : Act := ⟨#[], []⟩
def o6 (w : World) (I : Nat → Prop) (γ : Gh) (n : Nat) (loc : Nat → Loc) : Env := ⟨w, I, n, loc, fun b => ∃ k c, k < n ∧ loc k = .blk b c, γ, []⟩
structure Post (w : World) (I : Nat → Prop) (γ : Gh) (loc : Nat → Loc) (n : Nat) (r : AV) (out : List AObj) (v : Value) (w' : World) (I' : Nat → Prop) (γ' : Gh) (loc' : Nat → Loc) : Prop where
 sg : SG (o6 w I γ n loc) I' γ' loc' (hs out) P2 w'
 val : VR w' I' loc' r v
 len : n ≤ out.length
abbrev G4 := (Nat → Loc) → Array Value → World → Gh → zUd → Prop
def zAR (C : G4) (args : List AV) (fp : List AObj) (r : AV) (out : List AObj) : Prop :=
 ∀ (w : World) (I : Nat → Prop) (γ : Gh) (loc : Nat → Loc) (vs : Array Value), SG (o6 w I γ fp.length loc) I γ loc (hs fp) P2 w → vs.size = args.length →
  (∀ i (h : i < args.length) (h' : i < vs.size), VR w I loc args[i] vs[i]) →
  C loc vs w γ fun e w' γ' => ∃ v I' loc', e = .returned v ∧ Post w I γ loc fp.length r out v w' I' γ' loc'
abbrev zCO [Cur] (P : Program) (f : FuncId) : G4 := fun _ vs w γ R => U6 (Cur.way P) .normal f vs R w γ
def zUL [Cur] (P : Program) (f : FuncId) (args : List AV) (fp : List AObj) (r : AV) (out : List AObj) : Prop := zAR (zCO P f) args fp r out
inductive Scal : AV → Prop
 | any : Scal .any
 | raw (v : Value) : Scal (.raw v)
 | ptr (o off : Nat) : Scal (.ptr o off)
 | eptr (o sz i off : Nat) : Scal (.eptr o sz i off)
 | own (o sz off len : Nat) : Scal (.own o sz off len)
 | mp (o : Nat) : Scal (.mp o)
 | yld (o : Nat) : Scal (.yld o)
 | ifp (t : TypeId) (o off : Nat) : Scal (.ifp t o off)
 | agg (cs : List AV) : (∀ c, c ∈ cs → Scal c) → Scal (.agg cs)
 | tup (cs : List AV) : (∀ c, c ∈ cs → Scal c) → Scal (.tup cs)
 | fn (f : FuncId) (cs : List AV) : (∀ c, c ∈ cs → Scal c) → Scal (.fn f cs)
def C1 : AObj → Prop
 | .box cs => ∀ c, c ∈ cs → Scal c
 | .row _ xs => ∀ x, x ∈ xs → ∀ c, c ∈ x.cells → Scal c
 | .mapo _ xs => ∀ x, x ∈ xs → Scal x
 | .iter _ _ _ => False
 | .tbox _ cs => ∀ c, c ∈ cs → Scal c
 | .loopo _ env _ => ∀ t, Scal (lkV env t)
 | _ => True
mutual
def AV.ren (f : Nat → Nat) : AV → AV
 | .ptr o off => .ptr (f o) off
 | .eptr o sz i off => .eptr (f o) sz i off
 | .own o sz off len => .own (f o) sz off len
 | .mp o => .mp (f o)
 | .yld o => .yld (f o)
 | .ifp t o off => .ifp t (f o) off
 | .agg cs => .agg (zVM f cs)
 | .tup cs => .tup (zVM f cs)
 | .fn g cs => .fn g (zVM f cs)
 | x => x
def zVM (f : Nat → Nat) : List AV → List AV
 | [] => []
 | c :: r => c.ren f :: zVM f r
end
theorem X9 (f : Nat → Nat) : ∀ cs, zVM f cs = cs.map (AV.ren f)
 | [] => rfl
 | c :: r => by simp only [zVM, List.map_cons, X9 f r]
def AObj.ren (f : Nat → Nat) : AObj → AObj
 | .box cs => .box (zVM f cs)
 | .tbox e cs => .tbox e (zVM f cs)
 | .loopo L env p => .loopo L (env.map fun q => (q.1, q.2.ren f)) p
 | A => A
def x9 (ids : List Nat) (nx : Nat) (k : Nat) : Nat := if k < ids.length then ids.getD k 0 else nx + (k - ids.length)
def r9 (ids : List Nat) (k : Nat) : Option (Option Nat) := if k < ids.length then some (some (ids.getD k 0)) else none
def u7 (ids : List Nat) (nx : Nat) (out : List AObj) : List (Nat × AObj) := (zUS 0 out).map fun p => (x9 ids nx p.1, p.2.ren (x9 ids nx))
def W9 (ids : List Nat) (nx : Nat) (out : List AObj) : List Nat := (List.range (out.length - ids.length)).map (nx + ·)
inductive All2 (R : AV → AV → Prop) : List AV → List AV → Prop
 | nil : All2 R [] []
 | cons {x y xs ys} : R x y → All2 R xs ys → All2 R (x :: xs) (y :: ys)
structure MetX (C : G4) (avs : List AV) (H : Nat → AObj) (nx : Nat) (ids ex : List Nat) (args : List AV) (fp : List AObj) (r : AV) (out : List AObj) : Prop where
 spec : zAR C args fp r out
 nodup : ids.Nodup
 apart : ∀ o, o ∈ ex → o ∉ ids
 args : All2 (Xp H (r9 ids) (· ∈ ex)) args avs
 fpl : fp.length = ids.length
 fps : ∀ k (h : k < fp.length), fp[k].live = true ∧ OXp H (r9 ids) (· ∈ ex) fp[k] (H (ids.getD k 0))
 scal : ex = [] ∨ (Scal r ∧ ∀ A, A ∈ out → C1 A)
 fresh : ∀ j, j < out.length - ids.length → H (nx + j) = .unb
 unb : ∀ A, A ∈ out → A ≠ .unb
abbrev Met [Cur] (P : Program) (f : FuncId) (avs : List AV) (H : Nat → AObj) (nx : Nat) (ids ex : List Nat) (args : List AV) (fp : List AObj) (r : AV) (out : List AObj) : Prop :=
 MetX (zCO P f) avs H nx ids ex args fp r out
def zBJ [Cur] (P : Program) (f : FuncId) (avs : List AV) (H : Nat → AObj) (nx : Nat) (K : Cont) : Prop :=
 ∃ ids ex args fp r out, Met P f avs H nx ids ex args fp r out ∧ K (r.ren (x9 ids nx)) (ids ++ ex ++ W9 ids nx out) (u7 ids nx out)
def y2 [Cur] (P : Program) (f : FuncId) (avs : List AV) (H : Nat → AObj) (nx : Nat) (K : Cont) : Prop :=
 ∃ gone as', All2 (Xp H idR (· ∈ gone)) as' avs ∧ zBJ P f as' (fun o => if o ∈ gone then .dead else H o) nx (fun v rd wr => K v (gone ++ rd) (w5 gone ++ wr))
def y9 (P : Program) (f : FuncId) : Bool := (P.funcs[f]?).any fun fn => fn.body.isSome && !(fn.name == "runtime.NumGoroutine")
def zVz (P : Program) (e : TypeId) : Prop := ∃ fn ps t, P.funcs[MKN]? = some fn ∧ (fn.name == "runtime.NumGoroutine") = false ∧ fn.body.isNone = true ∧ Extern.findNext fn = none ∧
 Extern.find fn = some (Extern.BytealgMakeNoZero.makeNoZero ps #[t]) ∧ P.underlying t = some (.slice e)
def zVX (P : Program) (avs : List AV) (H : Nat → AObj) (nx : Nat) (K : Cont) : Prop := match avs with
 | [.raw (.int .i64 n)] => zVz P MKE ∧ 0 ≤ n ∧ n ≤ 1000000 ∧ H nx = .unb ∧ K (.own nx 1 0 n.toNat) [nx] [(nx, .brow MKE [])]
 | _ => False
def C9 [Cur] (P : Program) (x : AV) (avs : List AV) (H : Nat → AObj) (nx : Nat) (K : Cont) : Prop := match x with
 | .raw (.func (.func f) fs caps) => if y9 P f = true then fs = #[] ∧ caps = #[] ∧ y2 P f avs H nx K else f = MKN ∧ fs = #[] ∧ caps = #[] ∧ zVX P avs H nx K
 | .fn f caps => y9 P f = true ∧ y2 P f (avs ++ caps) H nx K
 | _ => False
def zBf (fn : Fn) (first cs : List AV) (K : Cont) : Prop := match fn with
 | .func f => first = [] ∧ K (.fn f cs) [] []
 | .method name => (match first, cs with
  | [.raw (.iface t v)], [] => K (.raw (.func (.method name) #[.iface t v] #[])) [] []
  | _, _ => False)
 | _ => False
def R3 [Cur] (P : Program) (c : Callee) (ts : Array TypeId) (xs : List AV) (ev : Operand → AV) (H : Nat → AObj) (nx : Nat) (K : Cont) : Prop := match c with
 | .builtin b => C8 P b ts xs H nx K
 | .value f => C9 P (ev f) xs H nx K
 | .invoke r name => (match zVH (ev r) with
  | some (t, y) => (match S6 P t name with
   | some f => y9 P f = true ∧ y2 P f (y :: xs) H nx K
   | none => False)
  | none => False)
def zUV [Cur] (P : Program) (o : Oper) (ev : Operand → AV) (H : Nat → AObj) (nx : Nat) (K : Cont) : Prop := match o.op with
 | .move x => K (ev x) [] []
 | .assign x => K (ev x) [] []
 | .pick c a b => zAG (ev c) (ev a) (ev b) K
 | .alloc t => C4 P t H nx K
 | .box _ x => zVk (ev x) H nx K
 | .build t ps => buildA P t (ps.toList.map fun p => (p.1, ev p.2)) K
 | .buildSlice t n ps => buildSliceA P t n (ps.toList.map fun p => (p.1, ev p.2)) H nx K
 | .load t a => P0 P t (ev a) H K
 | .store t a x => H8 P t (ev a) (ev x) H K
 | .nilCheck x => zVY P (ev x) K
 | .binOp op t x y _ => zVP P op t (ev x) (ev y) K
 | .unOp op _ x => unA op (ev x) K
 | .convert s d x => (P.underlying s).isSome = true ∧ K9 P s d (ev x) H K
 | .makeFunc fn first cs => zBf fn (first.toList.map ev) (cs.toList.map ev) K
 | .makeSlice t l c => A8 P t (ev l) (ev c) H nx K
 | .slice t x lo hi mx => zAN P t (ev x) (lo.map ev) (hi.map ev) (mx.map ev) K
 | .fieldAddr s x f => E5 P s (ev x) f K
 | .field s x f => B3 P s (ev x) f K
 | .indexAddr t x i => A2 P t (ev x) (ev i) K
 | .index t x i => A1 P t (ev x) (ev i) K
 | .extract x i => B2 (ev x) i K
 | .makeMap t r => A7 P t (r.map ev) H nx K
 | .mapUpdate t m k x => N1 P t (ev m) (ev k) (ev x) H K
 | .insert t m k x => N1 P t (ev m) (ev k) (ev x) H K
 | .lookup t m k ok => I8 P t (ev m) (ev k) ok H K
 | .range t x => D1 P t (ev x) H nx K
 | .next x b => b = true ∧ E9 (ev x) H K
 | .entry x => E3 (ev x) H K
 | .makeInterface t x => zAk P t (ev x) K
 | .typeAssert x _ u ok => zAW P u ok (ev x) K
 | .call c => R3 P c.callee c.argTypes (c.args.toList.map ev) ev H nx K
 | _ => False
def AS.writes (σ : AS) (wr : List (Nat × AObj)) : AS := wr.foldl (fun s p => s.setO p.1 p.2) σ
def AS.putD (σ : AS) (d : Option Tmp) (v : AV) : AS := match d with
 | some d => σ.put d v
 | none => σ
end Go.Abs

namespace Go.Abs
open Go
section
variable {P : Program} {w : World} {t : TypeId}
theorem zDZ {b : Bool} (h : s9 P t = some b) : (isAgg t).run P w = .ok b w := by
 unfold s9 at h
 cases hu : P.underlying t with
 | none => rw [hu] at h; cases h
 | some d =>
  simp only [isAgg, Sem.run_bind, run_underlying hu, Result.andThen_ok]
  rw [hu] at h
  cases d <;> simp at h <;> subst h <;> rfl
theorem f9 {n : Nat} (h : sizeT P t = some n) : (sizeOf t).run P w = .ok n w := by
 unfold sizeT at h
 cases hi : P.info? t with
 | none => rw [hi] at h; cases h
 | some i => rw [hi] at h; simp at h; subst h; simp [sizeOf, typeInfo, hi]
theorem L8 {z : Value} (h : zeroT P t = some z) : (zeroValue t).run P w = .ok z w := by
 unfold zeroT at h
 cases hi : P.info? t with
 | none => rw [hi] at h; cases h
 | some i => rw [hi] at h; simp at h; simp [zeroValue, typeInfo, hi, h]
theorem Q5 (b off j : Nat) : (⟨b, off, none⟩ : Addr).add j = ⟨b, off + j, none⟩ := by unfold Addr.add; split <;> simp_all
theorem zBq {n b off : Nat} {f : Nat → Value} (h1 : s9 P t = some true) (h2 : sizeT P t = some n) (hc : ∀ j, j < n → w.cell? ⟨b, off + j, none⟩ = some (f j)) :
  (loadVar t ⟨b, off, none⟩).run P w = .ok (.agg ((List.range n).map f).toArray) w := by
 have hl := run_loadCells (P := P) w ⟨b, off, none⟩ n f (fun j hj => by rw [Q5]; exact hc j hj)
 simp only [loadVar, Sem.run_bind, zDZ h1, Result.andThen_ok, if_true, f9 h2, hl, Sem.run_pure]
theorem zAx {b off : Nat} {v : Value} (h1 : s9 P t = some false) (hc : w.cell? ⟨b, off, none⟩ = some v) : (loadVar t ⟨b, off, none⟩).run P w = .ok v w := by
 simp only [loadVar, Sem.run_bind, zDZ h1, Result.andThen_ok, Bool.false_eq_true, if_false]
 simp [hc]
theorem U7 {b i : Nat} {C : Array Value} {e : TypeId} {fr : Nat × Nat} (h : w.heap[b]? = some (.cells C e fr)) (hi : i < C.size) : w.cell? ⟨b, i, none⟩ = some C[i] := by
 simp [World.cell?, h, hi]
end
section
variable {P : Program} {E : Env} {I : Nat → Prop} {loc : Nat → Loc} {σ : AS} {a : Act} {w : World}
theorem PR.one {x : AV} {v : Value} (h : PR w I x v) (hx : x.one = true) : v.oneCell' = true := by
 cases h with
 | raw _ h => exact h
 | any => simp [AV.one] at hx
 | agg => simp [AV.one] at hx
 | _ => rfl
theorem VR.one {x : AV} {v : Value} (h : VR w I loc x v) (hx : x.one = true) : v.oneCell' = true := by
 cases h with
 | pure h => exact h.one hx
 | agg => simp [AV.one] at hx
 | tup => simp [AV.one] at hx
 | _ => rfl
theorem cells_of_one {v : Value} (h : v.oneCell' = true) : v.cells = #[v] := by cases v <;> simp_all [Value.oneCell', Value.cells]
theorem AV.cells_of_one {x : AV} (h : x.one = true) : x.cells = [x] := by cases x <;> simp_all [AV.one, AV.cells]
theorem AV.sized_cases {x : AV} (h : x.sized = true) : x.one = true ∨ ∃ cs, x = .agg cs := by
 cases x <;> simp_all [AV.one, AV.sized]
theorem VR.cells {x : AV} {v : Value} (h : VR w I loc x v) (hx : x.sized = true) :
  v.cells.size = x.cells.length ∧ ∀ i (h1 : i < x.cells.length) (h2 : i < v.cells.size), VR w I loc x.cells[i] v.cells[i] := by
 rcases AV.sized_cases hx with h1 | ⟨cs, rfl⟩
 ·have e1 := AV.cells_of_one h1
  have e2 := cells_of_one (h.one h1)
  refine ⟨by rw [e1, e2]; rfl, fun i hi hi' => ?_⟩
  have hi0 : i = 0 := by rw [e1] at hi; simp at hi; exact hi
  subst hi0
  simp only [e1, e2]
  exact h
 ·cases h with
  | pure h => cases h with
   | agg _ vs h1 h2 => exact ⟨h1.symm, fun i hi hi' => .pure (h2 i hi hi')⟩
  | agg _ vs h1 h2 => exact ⟨h1.symm, h2⟩
theorem PR.cells {x : AV} {v : Value} (h : PR w I x v) (hx : x.sized = true) :
  v.cells.size = x.cells.length ∧ ∀ i (h1 : i < x.cells.length) (h2 : i < v.cells.size), PR w I x.cells[i] v.cells[i] := by
 rcases AV.sized_cases hx with h1 | ⟨cs, rfl⟩
 ·have e1 := AV.cells_of_one h1
  have e2 := cells_of_one (h.one h1)
  refine ⟨by rw [e1, e2]; rfl, fun i hi hi' => ?_⟩
  have hi0 : i = 0 := by rw [e1] at hi; simp at hi; exact hi
  subst hi0
  simp only [e1, e2]
  exact h
 ·cases h with
  | agg _ vs h1 h2 => exact ⟨h1.symm, h2⟩
theorem H1 (v : Value) : VR w I loc (i5 v) v := by
 cases v with
 | agg cs =>
  unfold i5
  by_cases h : cs.all (·.oneCell') = true
  ·simp only [h, if_true]
   refine .pure (.agg _ _ (by simp) (fun i h1 h2 => ?_))
   simp only [List.getElem_map, Array.getElem_toList]
   exact .raw _ (Array.all_eq_true.1 h i h2)
  ·simp only [h]
   exact .pure (.any _)
 | tuple vs => exact .pure (.any _)
 | _ => exact .pure (.raw _ rfl)
theorem SR.ev (hs : SR E I loc σ a w) (x : Operand) : VR w I loc (σ.ev x) (a.eval x) := by
 cases x with
 | tmp t => exact hs.tmps t
 | const v => exact H1 v
 | global g => exact .pure (.raw _ rfl)
 | func f => exact .pure (.raw _ rfl)
theorem VR.aggSlice {cs : List AV} {off n : Nat} {f : Nat → Value} (hn : off + n ≤ cs.length) (h : ∀ j (hj : off + j < cs.length), j < n → VR w I loc cs[off + j] (f j)) :
  VR w I loc (.agg ((cs.drop off).take n)) (.agg ((List.range n).map f).toArray) := by
 refine .agg _ _ (by simp; omega) (fun i h1 h2 => ?_)
 simp at h1 h2
 simp only [List.getElem_take, List.getElem_drop, List.getElem_toArray, List.getElem_map, List.getElem_range]
 exact h i (by omega) (by omega)
theorem w4 {α : Type} {l : List α} {i : Nat} {d : α} (h : i < l.length) : l.getD i d = l[i] := by simp [List.getD, h]
theorem zF7 (hs : SR E I loc σ a w) {t : TypeId} {x : AV} {vx : Value} (hx : VR w I loc x vx) {K : Cont} (h : P0 P t x σ.obj K) :
  ∃ v rd y, K v rd [] ∧ (Instr.loadAt t vx).run P w = .ok y w ∧ VR w I loc v y := by
 unfold P0 at h
 cases x with
 | ptr o off =>
  cases hx with
  | pure hx => cases hx
  | ptr _ _ b c hl =>
   have ho := hs.objs o
   cases hA : σ.obj o with
   | box cs =>
    simp only [hA] at h ho
    rcases ho with ⟨h1, _⟩ | ⟨b', C, e, h1, h2, h3, h4⟩
    ·rw [hl] at h1; cases h1
    rw [hl] at h1; cases h1
    cases hag : s9 P t with
    | none => simp only [hag] at h
    | some ag =>
     cases hsz : sizeT P t with
     | none => cases ag <;> simp only [hag, hsz] at h
     | some n =>
      cases ag with
      | true =>
       simp only [hag, hsz] at h
       refine ⟨_, _, _, h.2, ?_, VR.aggSlice (f := fun j => C.getD (off + j) undef) h.1 (fun j hj hjn => ?_)⟩
       ·show (loadVar t _).run P w = _
        exact zBq hag hsz (fun j hj => by rw [U7 h2 (by omega)]; simp [show off + j < C.size by omega])
       ·have := h4 (off + j) hj (by omega)
        simpa [show off + j < C.size by omega] using this
      | false =>
       simp only [hag, hsz] at h
       refine ⟨_, _, C[off]'(by omega), h.2, ?_, ?_⟩
       ·show (loadVar t _).run P w = _
        exact zAx hag (U7 h2 (by omega))
       ·rw [w4 h.1]; exact h4 off h.1 (by omega)
   | tbox e0 cs =>
    simp only [hA] at h ho
    obtain ⟨b', C, h1, h2, h0, h3, h4⟩ := ho
    rw [hl] at h1; cases h1
    cases hag : s9 P t with
    | none => simp only [hag] at h
    | some ag =>
     cases hsz : sizeT P t with
     | none => cases ag <;> simp only [hag, hsz] at h
     | some n =>
      cases ag with
      | true => simp only [hag, hsz] at h
      | false =>
       simp only [hag, hsz] at h
       refine ⟨_, _, C.getD off undef, h.2, ?_, ?_⟩
       ·show (loadVar t _).run P w = _
        exact zAx hag (by rw [U7 h2 (by omega)]; simp [show off < C.size by omega])
       ·have := h4 off h.1 (by omega)
        rw [w4 h.1]
        simpa [show off < C.size by omega] using this
   | _ => simp only [hA] at h
 | eptr o sz i off =>
  cases hx with
  | pure hx => cases hx
  | eptr _ _ _ _ b c hl =>
   have ho := hs.objs o
   cases hA : σ.obj o with
   | row sz' xs =>
    simp only [hA] at h ho
    obtain ⟨rfl, hi, h⟩ := h
    obtain ⟨h0, hcl, ho⟩ := ho
    rcases ho with ⟨h1, _⟩ | ⟨b', C, e, h1, h2, h3, h4⟩
    ·rw [hl] at h1; cases h1
    ·rw [hl] at h1; cases h1
     have hlen : (xs[i]).cells.length = sz := hcl i hi
     have hgd : xs.getD i .any = xs[i] := w4 hi
     have hfit : i * sz + sz ≤ C.size := by
      have : (i + 1) * sz ≤ xs.length * sz := Nat.mul_le_mul_right _ hi
      rw [Nat.add_mul] at this; omega
     rw [hgd] at h
     cases hag : s9 P t with
     | none => simp only [hag] at h
     | some ag =>
      cases hsz : sizeT P t with
      | none => cases ag <;> simp only [hag, hsz] at h
      | some n =>
       cases ag with
       | true =>
        simp only [hag, hsz] at h
        refine ⟨_, _, _, h.2, ?_, VR.aggSlice (f := fun j => C.getD (i * sz + off + j) undef) (by omega) (fun j hj hjn => ?_)⟩
        ·show (loadVar t _).run P w = _
         exact zBq hag hsz (fun j hj => by rw [U7 h2 (by omega)]; simp [show i * sz + off + j < C.size by omega])
        ·have := h4 i hi (off + j) hj (by omega)
         refine .pure ?_
         have e1 : C.getD (i * sz + off + j) undef = C[i * sz + (off + j)]'(by omega) := by
          rw [Nat.add_assoc]; simp [show i * sz + (off + j) < C.size by omega]
         rw [e1]; exact this
       | false =>
        simp only [hag, hsz] at h
        refine ⟨_, _, C[i * sz + off]'(by omega), h.2, ?_, ?_⟩
        ·show (loadVar t _).run P w = _
         exact zAx hag (U7 h2 (by omega))
        ·rw [w4 (by omega)]; exact .pure (h4 i hi off (by omega) (by omega))
   | box cs =>
    simp only [hA] at h ho
    rcases ho with ⟨h1, _⟩ | ⟨b', C, e, h1, h2, h3, h4⟩
    ·rw [hl] at h1; cases h1
    rw [hl] at h1; cases h1
    cases hag : s9 P t with
    | none => simp only [hag] at h
    | some ag =>
     cases hsz : sizeT P t with
     | none => cases ag <;> simp only [hag, hsz] at h
     | some n =>
      cases ag with
      | true =>
       simp only [hag, hsz] at h
       refine ⟨_, _, _, h.2, ?_, VR.aggSlice (f := fun j => C.getD (i * sz + off + j) undef) h.1 (fun j hj hjn => ?_)⟩
       ·show (loadVar t _).run P w = _
        exact zBq hag hsz (fun j hj => by rw [U7 h2 (by omega)]; simp [show i * sz + off + j < C.size by omega])
       ·have := h4 (i * sz + off + j) hj (by omega)
        simpa [show i * sz + off + j < C.size by omega] using this
      | false =>
       simp only [hag, hsz] at h
       refine ⟨_, _, C[i * sz + off]'(by omega), h.2, ?_, ?_⟩
       ·show (loadVar t _).run P w = _
        exact zAx hag (U7 h2 (by omega))
       ·rw [w4 h.1]; exact h4 (i * sz + off) h.1 (by omega)
   | _ => simp only [hA] at h
 | elt x =>
  cases hx with
  | pure hx =>
   cases hx with
   | elt b off _ C hb hc hr =>
    simp only at h
    cases hag : s9 P t with
    | none => simp only [hag] at h
    | some ag =>
     cases hsz : sizeT P t with
     | none => cases ag <;> simp only [hag, hsz] at h
     | some n =>
      cases ag with
      | true =>
       simp only [hag, hsz] at h
       refine ⟨_, _, _, h.2, zBq hag hsz (f := C) (fun j hj => hc j (by omega)), .pure ?_⟩
       refine .agg _ _ (by simp; omega) (fun i h1 h2 => ?_)
       simp only [List.getElem_toArray, List.getElem_map, List.getElem_range]
       exact hr i h1
      | false =>
       simp only [hag, hsz] at h
       refine ⟨_, _, C 0, h.2, zAx hag (by have := hc 0 (by omega); simpa using this), .pure ?_⟩
       rw [w4 (by omega)]; exact hr 0 (by omega)
 | any => exact h.elim
 | raw _ => exact h.elim
 | list _ => exact h.elim
 | agg _ => exact h.elim
 | tup _ => exact h.elim
 | own _ _ _ _ => exact h.elim
 | fn _ _ => exact h.elim
 | mp _ => exact h.elim
 | yld _ => exact h.elim
 | ifp _ _ _ => exact h.elim
 | ifc _ _ => exact h.elim
 | clp _ => exact h.elim
 | fmap _ _ => exact h.elim
theorem VR.raw_eq {v x : Value} (h : VR w I loc (.raw v) x) : x = v := by
 cases h with
 | pure h => cases h; rfl
theorem VR.agg_inv {cs : List AV} {x : Value} (h : VR w I loc (.agg cs) x) : ∃ vs : Array Value, x = .agg vs ∧ cs.length = vs.size ∧ ∀ i (h : i < cs.length) (h' : i < vs.size), VR w I loc cs[i] vs[i] := by
 cases h with
 | pure h => cases h with
  | agg _ vs h1 h2 => exact ⟨vs, rfl, h1, fun i h h' => .pure (h2 i h h')⟩
 | agg _ vs h1 h2 => exact ⟨vs, rfl, h1, h2⟩
theorem zMC {op : BinOp} {k : IntKind} {x y : Int} {K : Cont} (h : zVI op k x y K) {t : TypeId} (hop : op ≠ .shl ∧ op ≠ .shr) :
  ∃ v r, K v [] [] ∧ v = .raw r ∧ r.oneCell' = true ∧ (binOp op t (.int k x) (.int k y)).run P w = .ok r w := by
 unfold zVI at h
 cases op <;> simp only [zVq] at h
 case quo => exact ⟨_, _, h.2, rfl, rfl, by simp [binOp, Op.intDiv, h.1]⟩
 case rem => exact ⟨_, _, h.2, rfl, rfl, by simp [binOp, Op.intDiv, h.1]⟩
 all_goals exact ⟨_, _, h, rfl, rfl, by simp [binOp, Op.intArith, Op.intBits, Op.intCmp]⟩
theorem zQS {op : BinOp} {x y : ByteArray} {K : Cont} (h : zVd op x y K) {t : TypeId} :
  ∃ v r, K v [] [] ∧ v = .raw r ∧ r.oneCell' = true ∧ (binOp op t (.string x) (.string y)).run P w = .ok r w := by
 unfold zVd at h
 cases op <;> simp only at h
 case add =>
  have h1 : ¬ ((x.size + y.size : Nat) : Int) > IntKind.i64.max := by
   have : IntKind.i64.max = 9223372036854775807 := by decide
   rw [this]; omega
  exact ⟨_, _, h.2, rfl, rfl, by simp only [binOp, Op.stringOp, h1, if_false, Sem.run_pure]⟩
 all_goals exact ⟨_, _, h, rfl, rfl, by simp [binOp, Op.stringOp]⟩
theorem H4 : ∀ {xs : List AV} {vs : List Value}, Q1 xs = some vs → ∀ (us : List Value), xs.length = us.length → (∀ i (h : i < xs.length) (h' : i < us.length), VR w I loc xs[i] us[i]) → us = vs
 | [], vs, h, us, hl, _ => by
  simp only [Q1, Option.some.injEq] at h; subst h
  exact List.eq_nil_of_length_eq_zero (by simpa using hl.symm)
 | x :: r, vs, h, us, hl, hv => by
  cases x with
  | raw v =>
   simp only [Q1] at h
   cases hr : Q1 r with
   | none => rw [hr] at h; cases h
   | some ws =>
    rw [hr] at h; simp at h; subst h
    cases us with
    | nil => simp at hl
    | cons u us =>
     have h0 := (hv 0 (by simp) (by simp)).raw_eq
     have ih := H4 hr us (by simpa using hl) (fun i h1 h2 => by have := hv (i + 1) (by simpa using h1) (by simpa using h2); simpa using this)
     simp at h0
     rw [h0, ih]
  | _ => simp [Q1] at h
theorem zEu {t : TypeId} {xs ys : List Value} {r : Bool} (h : eqC P t xs ys = some r) : zV3 P t xs ys r := by
 unfold eqC at h
 split at h
 ·rename_i hx
  simp at h; subst h
  exact Classical.choose_spec hx
 ·cases h
theorem zKH (op : BinOp) (t : TypeId) (x y : Operand) (u v : Value) (hu : ∀ cs, u ≠ .agg cs) (hu' : u ≠ .nilIface) : (eqGuard op t x y u v).run P w = .ok () w := by
 cases u with
 | agg cs => exact absurd rfl (hu cs)
 | nilIface => exact absurd rfl hu'
 | _ => cases op <;> cases v <;> rfl
theorem zNs (d : Nat) {t : TypeId} (hu : P.underlying t = some .bool) (x y : Bool) : (Op.equalIn (d + 1) t (.bool x) (.bool y)).run P w = .ok (x == y) w := by
 simp only [Op.equalIn, Sem.run_bind, run_underlying hu, Result.andThen_ok, Sem.run_pure]
theorem zGq {t : TypeId} (hu : P.underlying t = some .bool) (x y : Bool) : (Op.equal t (.bool x) (.bool y)).run P w = .ok (x == y) w := by
 unfold Op.equal Op.maxDepth
 exact zNs 9999 hu x y
theorem zNv (d : Nat) {t e : TypeId} (hu : P.underlying t = some (.slice e)) (a : Option Addr) (n c : Nat) : (Op.equalIn (d + 1) t (.slice a n c) (.slice none 0 0)).run P w = .ok a.isNone w := by
 cases a <;> simp only [Op.equalIn, Sem.run_bind, run_underlying hu, Result.andThen_ok, Sem.run_pure] <;> rfl
theorem zGt {t e : TypeId} (hu : P.underlying t = some (.slice e)) (a : Option Addr) (n c : Nat) : (Op.equal t (.slice a n c) (.slice none 0 0)).run P w = .ok a.isNone w := by
 unfold Op.equal Op.maxDepth
 exact zNv 9999 hu a n c
theorem zNt (d : Nat) {t : TypeId} {ms : Array (String × TypeId)} (hu : P.underlying t = some (.interface ms)) (t' : TypeId) (v : Value) : (Op.equalIn (d + 1) t (.iface t' v) .nilIface).run P w = .ok false w := by
 simp only [Op.equalIn, Sem.run_bind, run_underlying hu, Result.andThen_ok, Sem.run_pure]
theorem zGr {t : TypeId} {ms : Array (String × TypeId)} (hu : P.underlying t = some (.interface ms)) (t' : TypeId) (v : Value) : (Op.equal t (.iface t' v) .nilIface).run P w = .ok false w := by
 unfold Op.equal Op.maxDepth
 exact zNt 9999 hu t' v
theorem zNu (d : Nat) {t : TypeId} {ms : Array (String × TypeId)} (hu : P.underlying t = some (.interface ms)) : (Op.equalIn (d + 1) t .nilIface .nilIface).run P w = .ok true w := by
 simp only [Op.equalIn, Sem.run_bind, run_underlying hu, Result.andThen_ok, Sem.run_pure]
theorem zGs {t : TypeId} {ms : Array (String × TypeId)} (hu : P.underlying t = some (.interface ms)) : (Op.equal t .nilIface .nilIface).run P w = .ok true w := by
 unfold Op.equal Op.maxDepth
 exact zNu 9999 hu
theorem zNw (d : Nat) {t : TypeId} (hu : P.underlying t = some (.interface #[])) : (Op.eqGuardIn (d + 1) t .nilIface .nilIface).run P w = .ok false w := by
 simp only [Op.eqGuardIn, Sem.run_bind, run_underlying hu, Result.andThen_ok, Sem.run_pure]
 rfl
theorem zEv (op : BinOp) {t : TypeId} (hu : P.underlying t = some (.interface #[])) (x y : Operand) : (eqGuard op t x y .nilIface .nilIface).run P w = .ok () w := by
 have h : (Op.eqGuardIn Op.maxDepth t .nilIface .nilIface).run P w = .ok false w := by
  unfold Op.maxDepth
  exact zNw 9999 hu
 cases op <;> first | rfl | (cases x <;> cases y <;> first | rfl | (show (Op.eqGuardIn Op.maxDepth t .nilIface .nilIface >>= fun b => if b = true then unsupported _ else pure ()).run P w = _; rw [Sem.run_bind, h]; rfl))
theorem zGS {x : AV} {u : Value} {r : Bool} (hx : VR w I loc x u) (h : zBh x = some r) : ∃ a n c, u = .slice a n c ∧ a.isNone = r := by
 unfold zBh at h
 split at h
 ·cases h
  cases hx with
  | pure hx => cases hx with
   | list b off cap sz xs C => exact ⟨_, _, _, rfl, rfl⟩
 ·cases h
  cases hx with
  | pure hx => cases hx
  | own => exact ⟨_, _, _, rfl, rfl⟩
 ·cases h
  exact ⟨_, _, _, hx.raw_eq, rfl⟩
 ·cases h
def C6 (op : BinOp) (t : TypeId) (x y : Operand) (u v : Value) : Sem Value := do eqGuard op t x y u v; binOp op t u v
theorem zJB {op : BinOp} {t : TypeId} {x y : AV} {ox oy : Operand} {u v : Value} (hx : VR w I loc x u) (hy : VR w I loc y v) {K : Cont} (h : zVP P op t x y K) :
  ∃ z r, K z [] [] ∧ z = .raw r ∧ r.oneCell' = true ∧ (C6 op t ox oy u v).run P w = .ok r w := by
 have plain : ∀ {u v : Value}, (∀ cs, u ≠ .agg cs) → u ≠ .nilIface → (C6 op t ox oy u v).run P w = (binOp op t u v).run P w := fun {u v} h1 h2 => by
  unfold C6; rw [Sem.run_bind, zKH op t ox oy u v h1 h2]; rfl
 unfold zVP at h
 split at h
 ·rename_i k a k' b
  have e1 := hx.raw_eq; have e2 := hy.raw_eq
  subst e1; subst e2
  rw [plain (by simp) (by simp)]
  split at h
  ·simp only [N8] at h
   refine ⟨_, _, h.2, rfl, rfl, ?_⟩
   simp [binOp, Op.shift, show ¬ b < 0 by omega]
  ·simp only [N8] at h
   refine ⟨_, _, h.2, rfl, rfl, ?_⟩
   simp [binOp, Op.shift, show ¬ b < 0 by omega]
  ·rename_i h1 h2
   obtain ⟨rfl, h⟩ := h
   exact zMC h ⟨h1, h2⟩
 ·have e1 := hx.raw_eq; have e2 := hy.raw_eq
  subst e1; subst e2
  rw [plain (by simp) (by simp)]
  exact zQS h
 ·have e1 := hx.raw_eq; have e2 := hy.raw_eq
  subst e1; subst e2
  rw [plain (by simp) (by simp)]
  split at h
  ·rename_i hu
   split at h
   ·exact ⟨_, _, h, rfl, rfl, by simp only [binOp, Sem.run_bind, zGq hu, Result.andThen_ok, Sem.run_pure]⟩
   ·exact ⟨_, _, h, rfl, rfl, by simp only [binOp, Sem.run_bind, zGq hu, Result.andThen_ok, Sem.run_pure]⟩
   ·exact h.elim
  ·exact h.elim
 ·rename_i xs ys
  unfold zAS at h
  obtain ⟨us, rfl, hl1, hv1⟩ := hx.agg_inv
  obtain ⟨vs, rfl, hl2, hv2⟩ := hy.agg_inv
  cases hr1 : Q1 xs with
  | none => simp only [hr1] at h
  | some xs' =>
   cases hr2 : Q1 ys with
   | none => simp only [hr1, hr2] at h
   | some ys' =>
    simp only [hr1, hr2] at h
    have e1 : us.toList = xs' := H4 hr1 us.toList (by simpa using hl1) (fun i h h' => by have := hv1 i h (by simpa using h'); simpa using this)
    have e2 : vs.toList = ys' := H4 hr2 vs.toList (by simpa using hl2) (fun i h h' => by have := hv2 i h (by simpa using h'); simpa using this)
    cases hq : eqC P t xs' ys' with
    | none => simp only [hq] at h
    | some r =>
     simp only [hq] at h
     have hrun := (zEu hq).2 ox oy w
     have e3 : us = xs'.toArray := by rw [← e1]
     have e4 : vs = ys'.toArray := by rw [← e2]
     subst e3; subst e4
     split at h
     ·exact ⟨_, _, h, rfl, rfl, hrun.1⟩
     ·exact ⟨_, _, h, rfl, rfl, hrun.2⟩
     ·exact h.elim
 ·have e2 := hy.raw_eq
  subst e2
  unfold zAp at h
  split at h
  ·rename_i r e hr hu
   obtain ⟨a, n, c, rfl, rfl⟩ := zGS hx hr
   rw [plain (by simp) (by simp)]
   split at h
   ·exact ⟨_, _, h, rfl, rfl, by simp only [binOp, Sem.run_bind, zGt hu, Result.andThen_ok, Sem.run_pure]⟩
   ·exact ⟨_, _, h, rfl, rfl, by simp only [binOp, Sem.run_bind, zGt hu, Result.andThen_ok, Sem.run_pure]⟩
   ·exact h.elim
  ·exact h.elim
 ·rename_i t' v'
  have e1 := hx.raw_eq; have e2 := hy.raw_eq
  subst e1; subst e2
  rw [plain (by simp) (by simp)]
  split at h
  ·rename_i ms hu
   split at h
   ·exact ⟨_, _, h, rfl, rfl, by simp only [binOp, Sem.run_bind, zGr hu, Result.andThen_ok, Sem.run_pure]⟩
   ·exact ⟨_, _, h, rfl, rfl, by simp only [binOp, Sem.run_bind, zGr hu, Result.andThen_ok, Sem.run_pure]; rfl⟩
   ·exact h.elim
  ·exact h.elim
 ·have e1 := hx.raw_eq; have e2 := hy.raw_eq
  subst e1; subst e2
  split at h
  ·rename_i ms hu
   obtain ⟨rfl, h⟩ := h
   split at h
   ·exact ⟨_, _, h, rfl, rfl, by unfold C6; rw [Sem.run_bind, zEv _ hu, Result.andThen_ok]; simp only [binOp, Sem.run_bind, zGs hu, Result.andThen_ok, Sem.run_pure]⟩
   ·exact ⟨_, _, h, rfl, rfl, by unfold C6; rw [Sem.run_bind, zEv _ hu, Result.andThen_ok]; simp only [binOp, Sem.run_bind, zGs hu, Result.andThen_ok, Sem.run_pure]; rfl⟩
   ·exact h.elim
  ·exact h.elim
 ·exact h.elim
end
end Go.Abs

namespace Go.Abs
open Go
section
variable {P : Program} {E : Env} {I : Nat → Prop} {loc : Nat → Loc} {σ : AS} {a : Act} {w : World}
theorem zNQ {c x y : AV} {vc vx vy : Value} (hc : VR w I loc c vc) (hx : VR w I loc x vx) (hy : VR w I loc y vy) {K : Cont} (h : zAG c x y K) :
  ∃ v z, K v [] [] ∧ (do pure (Next.value (if ← asBool vc then vx else vy)) : Sem Next).run P w = .ok (.value z) w ∧ VR w I loc v z := by
 unfold zAG at h
 split at h
 ·rename_i t
  have e := hc.raw_eq; subst e
  refine ⟨_, if t = true then vx else vy, h, by simp [asBool], ?_⟩
  cases t <;> simp <;> assumption
 ·exact h.elim
def zIN : Value → Prop
 | .pointer none => False
 | .nilIface => False
 | .nilFunc => False
 | .func (.method _) _ _ => False
 | _ => True
theorem zGR {x : AV} {v : Value} (hx : VR w I loc x v) {K : Cont} (h : zVY P x K) : K x [] [] ∧ (zIN v ∨ ∃ name t u caps, v = .func (.method name) #[.iface t u] caps ∧ D8 P t u name) := by
 unfold zVY at h
 cases x with
 | raw r =>
  have e := hx.raw_eq
  subst e
  cases v with
  | func fn first caps =>
   cases fn with
   | method name =>
    simp only at h
    split at h
    ·rename_i t u hf
     have : first = #[.iface t u] := by
      apply Array.ext'
      exact hf
     subst this
     exact ⟨h.2, .inr ⟨_, _, _, _, rfl, h.1⟩⟩
    ·exact h.elim
   | _ => exact h.elim
  | _ => exact h.elim
 | ptr => cases hx with
  | pure hx => cases hx
  | ptr => exact ⟨h, .inl trivial⟩
 | eptr => cases hx with
  | pure hx => cases hx
  | eptr => exact ⟨h, .inl trivial⟩
 | elt => cases hx with
  | pure hx => cases hx; exact ⟨h, .inl trivial⟩
 | fn => cases hx with
  | pure hx => cases hx
  | fn => exact ⟨h, .inl trivial⟩
 | _ => exact h.elim
theorem zRH {op : UnOp} {x : AV} {u : Value} (hx : VR w I loc x u) {K : Cont} (h : unA op x K) : ∃ v r, K v [] [] ∧ v = .raw r ∧ r.oneCell' = true ∧ (Op.unary op u).run P w = .ok r w := by
 unfold unA at h
 split at h
 ·have e := hx.raw_eq; subst e; exact ⟨_, _, h, rfl, rfl, by simp [Op.unary]⟩
 ·have e := hx.raw_eq; subst e; exact ⟨_, _, h, rfl, rfl, by simp [Op.unary, Op.intArith]⟩
 ·exact h.elim
theorem A3 {t : TypeId} {k : IntKind} (h : zVK P t = some k) : P.underlying t = some (.int k) := by
 unfold zVK at h
 split at h
 ·simp at h; subst h; assumption
 ·cases h
theorem zBS {s f u off : Nat} (h : w8 P s f = some (u, off)) : ∃ fs x, P.underlying s = some (.struct fs) ∧ fs[f]? = some x ∧ x.type = u ∧ x.offset = off := by
 unfold w8 at h
 split at h
 ·rename_i fs hu
  cases hf : fs[f]? with
  | none => rw [hf] at h; cases h
  | some x => rw [hf] at h; simp at h; exact ⟨fs, x, hu, hf, h.1, h.2⟩
 ·cases h
theorem zBp {s f u off n b p : Nat} (hf : w8 P s f = some (u, off)) (hn : sizeT P u = some n) (h0 : n ≠ 0) :
  (Instr.fieldAt s (.pointer (some ⟨b, p, none⟩)) f).run P w = .ok (.pointer (some ⟨b, p + off, none⟩)) w := by
 obtain ⟨fs, x, h1, h2, h3, h4⟩ := zBS hf
 subst h3; subst h4
 simp only [Instr.fieldAt, Sem.run_bind, run_underlying h1, Result.andThen_ok, h2, Instr.sureAddr, Sem.run_pure, fieldPlace, f9 hn, h0, if_false, Q5]
theorem zKV {s f : Nat} {x : AV} {u : Value} (hx : VR w I loc x u) {K : Cont} (h : E5 P s x f K) :
  ∃ v y, K v [] [] ∧ (Instr.fieldAt s u f).run P w = .ok y w ∧ VR w I loc v y := by
 unfold E5 at h
 cases hf : w8 P s f with
 | none => simp only [hf] at h
 | some uo =>
  obtain ⟨ut, off⟩ := uo
  simp only [hf] at h
  cases hn : sizeT P ut with
  | none => simp only [hn] at h
  | some n =>
   cases hg : s9 P ut with
   | none => simp only [hn, hg] at h
   | some ag =>
    simp only [hn, hg] at h
    obtain ⟨h0, h⟩ := h
    cases x with
    | ptr o p =>
     cases hx with
     | pure hx => cases hx
     | ptr _ _ b c hl => exact ⟨_, _, h, zBp hf hn h0, .ptr _ _ b c hl⟩
    | eptr o sz i p =>
     cases hx with
     | pure hx => cases hx
     | eptr _ _ _ _ b c hl => exact ⟨_, _, h, zBp hf hn h0, by rw [Nat.add_assoc]; exact .eptr _ _ _ _ b c hl⟩
    | elt x =>
     cases x with
     | agg cs =>
      cases hx with
      | pure hx =>
       cases hx with
       | elt b p _ C hb hc hr =>
        obtain ⟨hfit, h⟩ := h
        simp only [AV.cells] at hc hr
        split at h
        ·refine ⟨_, _, h, zBp hf hn h0, .pure (.elt b (p + off) _ (fun j => C (off + j)) hb (fun j hj => ?_) (fun j hj => ?_))⟩
         ·simp [AV.cells] at hj
          have := hc (off + j) (by omega)
          rw [← Nat.add_assoc] at this; exact this
         ·simp [AV.cells] at hj
          simp only [AV.cells, List.getElem_take, List.getElem_drop]
          exact hr (off + j) (by omega)
        ·obtain ⟨h1, h2, h3, h⟩ := h
         have hlt : off < cs.length := by omega
         rw [w4 hlt] at h h2 h3
         have hcell : (cs[off]).cells = [cs[off]] := by
          generalize cs[off] = y at *
          cases y with
          | agg _ => exact h3.elim
          | _ => rfl
         refine ⟨_, _, h, zBp hf hn h0, .pure (.elt b (p + off) _ (fun _ => C off) hb (fun j hj => ?_) (fun j hj => ?_))⟩
         ·have hj0 : j = 0 := by omega
          subst hj0
          exact hc off hlt
         ·have hj0 : j = 0 := by omega
          subst hj0
          simp only [hcell, List.getElem_cons_zero]
          exact hr off hlt
     | _ => exact h.elim
    | _ => exact h.elim
theorem zGw {t : TypeId} {vs : Array Value} {off : Nat} : ∀ {b : Bool}, s9 P t = some b → ∃ e, (part t vs off).run P w = (if b = true then (do pure (.agg (vs.extract off (off + (← sizeOf t)))) : Sem Value) else
  (match vs[off]? with | some v => pure v | none => stuck e)).run P w := by
 intro b h
 simp only [part, Sem.run_bind, zDZ h, Result.andThen_ok]
 cases b
 ·exact ⟨_, rfl⟩
 ·exact ⟨default, by simp⟩
theorem zGe {t : TypeId} {cs : List AV} {vs : Array Value} {off : Nat} (hl : cs.length = vs.size) (hv : ∀ i (h : i < cs.length) (h' : i < vs.size), VR w I loc cs[i] vs[i]) {K : Cont} (h : D0 P t cs off K) :
  ∃ v y, K v [] [] ∧ (part t vs off).run P w = .ok y w ∧ VR w I loc v y := by
 unfold D0 at h
 cases hg : s9 P t with
 | none => simp only [hg] at h
 | some ag =>
  cases hn : sizeT P t with
  | none => cases ag <;> simp only [hg, hn] at h
  | some n =>
   cases ag with
   | true =>
    simp only [hg, hn] at h
    refine ⟨_, _, h, by obtain ⟨e, hp⟩ := zGw (P := P) (w := w) (vs := vs) (off := off) hg; rw [hp]; simp [f9 hn]; rfl, ?_⟩
    refine .agg _ _ (by simp; omega) (fun i h1 h2 => ?_)
    simp at h1 h2
    simp only [List.getElem_take, List.getElem_drop, Array.getElem_extract]
    exact hv _ _ _
   | false =>
    simp only [hg, hn] at h
    refine ⟨_, vs[off]'(by omega), h.2, ?_, ?_⟩
    ·obtain ⟨e, hp⟩ := zGw (P := P) (w := w) (vs := vs) (off := off) hg; rw [hp]; simp [show off < vs.size by omega]
    ·rw [w4 h.1]; exact hv off h.1 _
theorem zKU {s f : Nat} {x : AV} {u : Value} (hx : VR w I loc x u) {K : Cont} (h : B3 P s x f K) :
  ∃ v y, K v [] [] ∧ (Instr.field s u f).run P w = .ok y w ∧ VR w I loc v y := by
 unfold B3 at h
 split at h
 ·rename_i ut off cs hf
  obtain ⟨vs, rfl, hl, hv⟩ := hx.agg_inv
  obtain ⟨fs, x, h1, h2, h3, h4⟩ := zBS hf
  subst h3; subst h4
  obtain ⟨v, y, hK, hr, hy⟩ := zGe (P := P) hl hv h
  exact ⟨v, y, hK, by simp only [Instr.field, Sem.run_bind, run_underlying h1, Result.andThen_ok, h2, asAgg, Sem.run_pure]; exact hr, hy⟩
 ·exact h.elim
theorem V5 {t e : TypeId} (h : sliceT P t = some e) : P.underlying t = some (.slice e) := by
 unfold sliceT at h
 split at h
 ·simp at h; subst h; assumption
 ·cases h
theorem zEP {t : TypeId} {n e : Nat} (h : G8 P t = some (n, e)) : P.underlying t = some (.array n e) := by
 unfold G8 at h
 split at h
 ·simp at h; obtain ⟨rfl, rfl⟩ := h; assumption
 ·cases h
theorem PR.elem {xs : List AV} {v : Value} (h : PR w I (.list xs) v) {n : Nat} (hn : n < xs.length) :
  ∃ b off cap sz, v = .slice (some ⟨b, off, none⟩) xs.length cap ∧ (xs[n]).cells.length = sz ∧ 0 < sz ∧ PR w I (.elt xs[n]) (.pointer (some ⟨b, off + n * sz, none⟩)) := by
 cases h with
 | nil => simp at hn
 | list b off cap sz _ C hb hs hc hl hcell hr =>
  refine ⟨b, off, cap, sz, rfl, hl n hn, hs, .elt b _ _ (fun j => C n j) hb (fun j hj => hcell n j hn (by rw [← hl n hn]; exact hj)) (fun j hj => hr n hn j hj)⟩
theorem zGu {t e sz len cap : Nat} {k : IntKind} {n : Int} {b off : Nat} (ht : P.underlying t = some (.slice e)) (hs : sizeT P e = some sz) (h0 : 0 ≤ n) (hn : n < len) :
  (Instr.indexAt t (.slice (some ⟨b, off, none⟩) len cap) (.int k n)).run P w = .ok (.pointer (some ⟨b, off + n.toNat * sz, none⟩)) w := by
 have hc : 0 ≤ n ∧ n < (len : Int) := ⟨h0, hn⟩
 simp [Instr.indexAt, asIntOf, run_underlying ht, hc, f9 hs, Q5]
theorem zL9 {t : TypeId} {x i : AV} {u v : Value} (hx : VR w I loc x u) (hi : VR w I loc i v) {K : Cont} (h : A2 P t x i K) :
  ∃ z y, K z [] [] ∧ (Instr.indexAt t u v).run P w = .ok y w ∧ VR w I loc z y := by
 unfold A2 at h
 split at h
 ·rename_i k n
  have e := hi.raw_eq; subst e
  split at h
  ·rename_i e xs ht
   obtain ⟨⟨h0, hn⟩, hs, h⟩ := h
   have hlt : n.toNat < xs.length := by omega
   rw [w4 hlt] at h hs
   obtain ⟨b, off, cap, sz, rfl, hsz, hpos, hp⟩ := (hx.toPR (.list _)).elem hlt
   rw [hsz] at hs
   exact ⟨_, _, h, zGu (V5 ht) hs h0 (by omega), .pure hp⟩
  ·rename_i e o sz off len ht
   obtain ⟨⟨h0, hn⟩, hs, h⟩ := h
   cases hx with
   | pure hx => cases hx
   | ownN => omega
   | own _ _ _ _ b c ad cap hl h1 h2 h3 =>
    have hcap : 0 < cap := by omega
    have := h3 hcap; subst this
    refine ⟨_, _, h, zGu (V5 ht) hs h0 hn, ?_⟩
    have e1 : off * sz + n.toNat * sz = (off + n.toNat) * sz + 0 := by rw [Nat.add_mul]; rfl
    rw [e1]; exact .eptr _ _ _ _ b c hl
  ·rename_i o off ht
   cases hat : G8 P t with
   | none => simp only [hat] at h
   | some le =>
    obtain ⟨len, e⟩ := le
    simp only [hat] at h
    cases hs : sizeT P e with
    | none => simp only [hs] at h
    | some sz =>
     simp only [hs] at h
     obtain ⟨⟨h0, hn⟩, h⟩ := h
     cases hx with
     | pure hx => cases hx
     | ptr _ _ b c hl =>
      have hc : 0 ≤ n ∧ n < (len : Int) := ⟨h0, hn⟩
      exact ⟨_, _, h, by simp [Instr.indexAt, asIntOf, run_underlying (zEP hat), Instr.sureAddr, hc, f9 hs, Q5], .ptr _ _ b c hl⟩
  ·exact h.elim
 ·exact h.elim
theorem P7 {t : TypeId} (h : U0 P t = true) : P.underlying t = some .string := by
 unfold U0 at h
 split at h
 ·assumption
 ·cases h
theorem zL8 {t : TypeId} {x i : AV} {u v : Value} (hx : VR w I loc x u) (hi : VR w I loc i v) {K : Cont} (h : A1 P t x i K) :
  ∃ z y, K z [] [] ∧ (Instr.index t u v).run P w = .ok y w ∧ VR w I loc z y := by
 unfold A1 at h
 split at h
 ·rename_i k n s
  have e1 := hi.raw_eq; have e2 := hx.raw_eq; subst e1; subst e2
  obtain ⟨ht, ⟨h0, hn⟩, h⟩ := h
  have hlt : n.toNat < s.size := by omega
  refine ⟨_, _, h, ?_, .pure (.raw _ rfl)⟩
  have hg : s[n.toNat]? = some (s.data.toList.getD n.toNat 0) := by
   have hd : n.toNat < s.data.toList.length := by simpa using hlt
   rw [w4 hd]
   have e3 : s[n.toNat]? = some s[n.toNat] := by simp [hlt]
   rw [e3]; rfl
  simp [Instr.index, asIntOf, run_underlying (P7 ht), h0, hg]
 ·rename_i k n cs
  have e1 := hi.raw_eq; subst e1
  obtain ⟨vs, rfl, hl, hv⟩ := hx.agg_inv
  cases hat : G8 P t with
  | none => simp only [hat] at h
  | some le =>
   obtain ⟨len, e⟩ := le
   simp only [hat] at h
   cases hs : sizeT P e with
   | none => simp only [hs] at h
   | some sz =>
    simp only [hs] at h
    obtain ⟨⟨h0, hn⟩, h⟩ := h
    obtain ⟨z, y, hK, hr, hy⟩ := zGe (P := P) hl hv h
    have hc : 0 ≤ n ∧ n < (len : Int) := ⟨h0, hn⟩
    refine ⟨z, y, hK, ?_, hy⟩
    simp only [Instr.index, asIntOf, Sem.run_bind, Sem.run_pure, Result.andThen_ok, run_underlying (zEP hat), hc, and_self, if_true, f9 hs]
    exact hr
 ·exact h.elim
theorem zKT {x : AV} {i : Nat} {u : Value} (hx : VR w I loc x u) {K : Cont} (h : B2 x i K) : ∃ v y, K v [] [] ∧ (Instr.extract u i).run P w = .ok y w ∧ VR w I loc v y := by
 unfold B2 at h
 cases x with
 | tup vs =>
  cases hx with
  | pure hx => cases hx
  | tup _ us hl hv =>
   refine ⟨_, us[i]'(by omega), h.2, ?_, ?_⟩
   ·simp [Instr.extract, show i < us.size by omega]
   ·rw [w4 h.1]; exact hv i h.1 _
 | _ => exact h.elim
theorem I7 {lo : Option AV} {vlo : Option Value} {l : Int} (hv : ∀ x, lo = some x → ∃ v, vlo = some v ∧ VR w I loc x v) (hn : lo = none → vlo = none) (h : loA lo = some l) :
  (vlo = none ∧ l = 0) ∨ ∃ k, vlo = some (.int k l) := by
 cases lo with
 | none => simp [loA] at h; exact .inl ⟨hn rfl, h.symm⟩
 | some x =>
  obtain ⟨v, rfl, hx⟩ := hv x rfl
  cases x with
  | raw u =>
   have e := hx.raw_eq; subst e
   cases v <;> simp [loA] at h
   subst h; exact .inr ⟨_, rfl⟩
  | _ => simp [loA] at h
theorem zAj {lo : Option AV} {vlo : Option Value} {l : Int} {len : Nat} (hv : ∀ x, lo = some x → ∃ v, vlo = some v ∧ VR w I loc x v) (hn : lo = none → vlo = none) (h : hiA len lo = some l) :
  (vlo = none ∧ l = len) ∨ ∃ k, vlo = some (.int k l) := by
 cases lo with
 | none => simp [hiA] at h; exact .inl ⟨hn rfl, h.symm⟩
 | some x =>
  obtain ⟨v, rfl, hx⟩ := hv x rfl
  cases x with
  | raw u =>
   have e := hx.raw_eq; subst e
   cases v <;> simp [hiA] at h
   subst h; exact .inr ⟨_, rfl⟩
  | _ => simp [hiA] at h
theorem zAy {isS : Bool} {len cap : Nat} {vlo vhi : Option Value} {l h : Int} (hl : (vlo = none ∧ l = 0) ∨ ∃ k, vlo = some (.int k l)) (hh : (vhi = none ∧ h = len) ∨ ∃ k, vhi = some (.int k h))
  (h0 : 0 ≤ l) (h1 : l ≤ h) (h2 : h ≤ len) (hc : len ≤ cap) : (Instr.sliceBounds isS len cap vlo vhi none).run P w = .ok (l.toNat, h.toNat, cap) w := by
 have e1 : ∀ k, (Instr.sliceBound (.int k h) cap (if isS then .sliceAcap else .sliceAlen)).run P w = .ok h.toNat w := fun k => by
  have hb : 0 ≤ h ∧ h ≤ (cap : Int) := ⟨by omega, by omega⟩
  simp [Instr.sliceBound, asIntOf, hb]
 have e2 : ∀ k, (Instr.sliceBound (.int k l) h.toNat .sliceB).run P w = .ok l.toNat w := fun k => by
  have hb : 0 ≤ l ∧ l ≤ ((h.toNat : Nat) : Int) := ⟨h0, by omega⟩
  simp only [Instr.sliceBound, asIntOf, Sem.run_bind, Sem.run_pure, Result.andThen_ok, hb, and_self, if_true]
 rcases hh with ⟨rfl, rfl⟩ | ⟨k, rfl⟩
 ·rcases hl with ⟨rfl, rfl⟩ | ⟨k', rfl⟩
  ·simp [Instr.sliceBounds]
  ·have e3 := e2 k'
   simp only [Int.toNat_natCast] at e3
   simp [Instr.sliceBounds, e3]
 ·rcases hl with ⟨rfl, rfl⟩ | ⟨k', rfl⟩
  ·simp only [Instr.sliceBounds, Sem.run_bind, Sem.run_pure, Result.andThen_ok, e1 k]; rfl
  ·simp only [Instr.sliceBounds, Sem.run_bind, Sem.run_pure, Result.andThen_ok, e1 k, Option.isSome, Bool.false_eq_true, if_false, e2 k']
theorem zDb {isS : Bool} {len cap : Nat} {vlo : Option Value} {k k' : IntKind} {l h : Int} (hl : (vlo = none ∧ l = 0) ∨ ∃ k, vlo = some (.int k l))
  (h0 : 0 ≤ l) (h1 : l ≤ h) (h2 : h ≤ cap) : (Instr.sliceBounds isS len cap vlo (some (.int k h)) (some (.int k' h))).run P w = .ok (l.toNat, h.toNat, h.toNat) w := by
 have e0 : (Instr.sliceBound (.int k' h) cap (if isS then .slice3Acap else .slice3Alen)).run P w = .ok h.toNat w := by
  have hb : 0 ≤ h ∧ h ≤ (cap : Int) := ⟨by omega, by omega⟩
  simp [Instr.sliceBound, asIntOf, hb]
 have e1 : (Instr.sliceBound (.int k h) h.toNat .slice3B).run P w = .ok h.toNat w := by
  have hb : 0 ≤ h ∧ h ≤ ((h.toNat : Nat) : Int) := ⟨by omega, by omega⟩
  simp only [Instr.sliceBound, asIntOf, Sem.run_bind, Sem.run_pure, Result.andThen_ok, hb, and_self, if_true]
 have e2 : ∀ k, (Instr.sliceBound (.int k l) h.toNat .slice3C).run P w = .ok l.toNat w := fun k => by
  have hb : 0 ≤ l ∧ l ≤ ((h.toNat : Nat) : Int) := ⟨h0, by omega⟩
  simp only [Instr.sliceBound, asIntOf, Sem.run_bind, Sem.run_pure, Result.andThen_ok, hb, and_self, if_true]
 rcases hl with ⟨rfl, rfl⟩ | ⟨k', rfl⟩
 ·simp only [Instr.sliceBounds, Sem.run_bind, Sem.run_pure, Result.andThen_ok, e0, e1]; rfl
 ·simp only [Instr.sliceBounds, Sem.run_bind, Sem.run_pure, Result.andThen_ok, e0, e1, Option.isSome, if_true, e2 k']
theorem PR.slice {xs : List AV} {ad : Option Addr} {n cap sz l h cap' : Nat} (hp : PR w I (.list xs) (.slice ad n cap)) (h1 : l ≤ h) (h2 : h ≤ xs.length) (hall : ∀ y, y ∈ xs → y.cells.length = sz) {c0 : Prop} [Decidable c0] (hc0 : c0 → h - l = 0) (hcap : h - l ≤ cap') :
  PR w I (.list ((xs.drop l).take (h - l))) (.slice (if c0 then ad else ad.map (·.add (l * sz))) (h - l) cap') := by
 by_cases hz : h - l = 0
 ·rw [hz]; simpa using PR.nil _ _
 ·rw [if_neg (fun c => hz (hc0 c))]
  cases hp with
  | nil => simp at h2; omega
  | list b off cap sz' _ C hb hs hc hl hcell hr =>
   have hlen : ((xs.drop l).take (h - l)).length = h - l := by simp; omega
   have hss : sz' = sz := by rw [← hl l (by omega)]; exact hall _ (List.getElem_mem _)
   subst hss
   have key := PR.list (w := w) (I := I) b (off + l * sz') cap' sz' ((xs.drop l).take (h - l)) (fun i j => C (l + i) j) hb hs (by omega)
    (fun i hi => by simp only [List.getElem_take, List.getElem_drop]; exact hl _ _)
    (fun i j hi hj => by
     have := hcell (l + i) j (by omega) hj
     rw [Nat.add_mul] at this
     rw [Nat.add_assoc off]
     exact this)
    (fun i hi j hj => by
     simp only [List.getElem_take, List.getElem_drop]
     exact hr (l + i) (by omega) j (by simpa only [List.getElem_take, List.getElem_drop] using hj))
   rw [hlen] at key
   simpa only [Option.map_some, Q5] using key
theorem zOL {t : TypeId} {x : AV} {lo hi mx : Option AV} {u : Value} {vlo vhi vmx : Option Value} (hx : VR w I loc x u)
  (hlo : ∀ x, lo = some x → ∃ v, vlo = some v ∧ VR w I loc x v) (hlo' : lo = none → vlo = none) (hhi : ∀ x, hi = some x → ∃ v, vhi = some v ∧ VR w I loc x v) (hhi' : hi = none → vhi = none) (hmx' : ∀ x, mx = some x → ∃ v, vmx = some v ∧ VR w I loc x v) (hmx : mx = none → vmx = none)
  {K : Cont} (h : zAN P t x lo hi mx K) : ∃ v y, K v [] [] ∧ (Instr.sliceAt t u vlo vhi vmx).run P w = .ok y w ∧ VR w I loc v y := by
 unfold zAN at h
 cases mx with
 | some m =>
  obtain ⟨vm, rfl, hvm⟩ := hmx' m rfl
  simp only at h
  split at h
  ·rename_i xs
   split at h
   ·rename_i e l kh hh km kk ht hl1
    obtain ⟨vh, rfl, hvh⟩ := hhi _ rfl
    have e1 := hvh.raw_eq; subst e1
    have e2 := hvm.raw_eq; subst e2
    cases hsz : sizeT P e with
    | none => simp only [hsz] at h
    | some sz =>
     simp only [hsz] at h
     obtain ⟨⟨h0, h1, h2⟩, rfl, hall, h⟩ := h
     have hu := V5 ht
     have hp := hx.toPR (.list _)
     have hus : ∃ ad cap, u = .slice ad xs.length cap ∧ xs.length ≤ cap := by
      cases hp with
      | nil ad cap => exact ⟨ad, cap, rfl, Nat.zero_le _⟩
      | list b off cap sz' _ C hb hs hc _ _ _ => exact ⟨_, cap, rfl, hc⟩
     obtain ⟨ad, cap, rfl, hcap⟩ := hus
     have hb := zDb (P := P) (w := w) (isS := true) (len := xs.length) (cap := cap) (k := kh) (k' := km) (I7 hlo hlo' hl1) h0 h1 (by omega)
     have hlen : ((xs.drop l.toNat).take (kk.toNat - l.toNat)).length = kk.toNat - l.toNat := by simp; omega
     refine ⟨_, .slice (if kk.toNat = l.toNat then ad else ad.map (·.add (l.toNat * sz))) (kk.toNat - l.toNat) (kk.toNat - l.toNat), h, ?_, .pure ?_⟩
     ·simp only [Instr.sliceAt, Sem.run_bind, run_underlying hu, Result.andThen_ok, Instr.slice, hb, f9 hsz, Sem.run_pure]
     ·have hq := hp.slice (l := l.toNat) (h := kk.toNat) (cap' := kk.toNat - l.toNat) (c0 := kk.toNat = l.toNat) (by omega) (by omega) hall (fun e => by omega) (Nat.le_refl _)
      have hc := PR.clp (w := w) (I := I) ((xs.drop l.toNat).take (kk.toNat - l.toNat)) (if kk.toNat = l.toNat then ad else ad.map (·.add (l.toNat * sz))) (by rw [hlen]; exact hq)
      rw [hlen] at hc
      exact hc
   ·exact h.elim
  ·rename_i o sz off len
   split at h
   ·rename_i e l kh hh km kk ht hl1
    obtain ⟨vh, rfl, hvh⟩ := hhi _ rfl
    have e1 := hvh.raw_eq; subst e1
    have e2 := hvm.raw_eq; subst e2
    obtain ⟨⟨h0, h1, h2⟩, rfl, hsz, h⟩ := h
    have hu := V5 ht
    cases hx with
    | pure hx => cases hx
    | ownN _ _ hn =>
     have e1 : kk = 0 := by simp at h2; omega
     have e2 : l = 0 := by omega
     subst e1; subst e2
     have hb := zDb (P := P) (w := w) (isS := true) (len := 0) (cap := 0) (k := kh) (k' := km) (I7 hlo hlo' hl1) (by omega) (by omega) (by omega)
     refine ⟨_, .slice none 0 0, h, ?_, .ownN _ _ hn⟩
     simp [Instr.sliceAt, run_underlying hu, Instr.slice, hb, f9 hsz]
    | own _ _ _ _ b c ad cap hl g1 g2 g3 =>
     have hb := zDb (P := P) (w := w) (isS := true) (len := len) (cap := cap) (k := kh) (k' := km) (I7 hlo hlo' hl1) h0 h1 (by omega)
     refine ⟨_, .slice (some (if kk.toNat = l.toNat then ad else ad.add (l.toNat * sz))) (kk.toNat - l.toNat) (kk.toNat - l.toNat), h, ?_, ?_⟩
     ·simp only [Instr.sliceAt, Sem.run_bind, run_underlying hu, Result.andThen_ok, Instr.slice, hb, f9 hsz, Sem.run_pure, Option.map_some]
      split <;> rfl
     ·refine .own _ _ _ _ b c _ _ hl (Nat.le_refl _) ?_ ?_
      ·have e3 : off + l.toNat + (kk.toNat - l.toNat) ≤ off + cap := by omega
       exact Nat.le_trans (Nat.mul_le_mul_right _ e3) g2
      ·intro hpos
       have hne : ¬ kk.toNat = l.toNat := by omega
       rw [if_neg hne, g3 (by omega), Q5, Nat.add_mul]
   ·exact h.elim
  ·exact h.elim
 | none =>
  have := hmx rfl; subst this
  simp only at h
  split at h
  ·rename_i s
   have e := hx.raw_eq; subst e
   obtain ⟨ht, h⟩ := h
   split at h
   ·rename_i l hh hl1 hh1
    obtain ⟨⟨h0, h1, h2⟩, h⟩ := h
    have hb := zAy (P := P) (w := w) (isS := false) (I7 hlo hlo' hl1) (zAj hhi hhi' hh1) h0 h1 h2 (Nat.le_refl _)
    have hu := P7 ht
    refine ⟨_, _, h, ?_, .pure (.raw _ rfl)⟩
    simp only [Instr.sliceAt, Sem.run_bind, run_underlying hu, Result.andThen_ok, Instr.slice, hb, Sem.run_pure, Option.isSome, Bool.false_eq_true, if_false]
   ·exact h.elim
  ·rename_i xs
   split at h
   ·rename_i e l hh ht hl1 hh1
    cases hsz : sizeT P e with
    | none => simp only [hsz] at h
    | some sz =>
     simp only [hsz] at h
     obtain ⟨⟨h0, h1, h2⟩, hall, h⟩ := h
     have hu := V5 ht
     have hp := hx.toPR (.list _)
     cases hp with
     | nil ad cap =>
      have e1 : hh = 0 := by simp at h2; omega
      have e2 : l = 0 := by omega
      subst e1; subst e2
      have hb := zAy (P := P) (w := w) (isS := true) (cap := cap) (len := 0) (I7 hlo hlo' hl1) (zAj hhi hhi' hh1) (by omega) (by omega) (by simp) (Nat.zero_le _)
      refine ⟨_, .slice (if cap = 0 then ad else ad.map (·.add (0 * sz))) 0 cap, h, ?_, by simpa using VR.pure (PR.nil _ _)⟩
      simp only [Instr.sliceAt, Sem.run_bind, run_underlying hu, Result.andThen_ok, Instr.slice, hb, f9 hsz, Sem.run_pure, Int.toNat_zero, Nat.sub_zero]
     | list b off cap sz' _ C hb hs hc hl hcell hr =>
      have hbd := zAy (P := P) (w := w) (isS := true) (cap := cap) (I7 hlo hlo' hl1) (zAj hhi hhi' hh1) h0 h1 h2 hc
      refine ⟨_, .slice (if cap = l.toNat then some ⟨b, off, none⟩ else some ⟨b, off + l.toNat * sz, none⟩) (hh.toNat - l.toNat) (cap - l.toNat), h, ?_, ?_⟩
      ·simp only [Instr.sliceAt, Sem.run_bind, run_underlying hu, Result.andThen_ok, Instr.slice, hbd, f9 hsz, Sem.run_pure, Option.map_some, Q5]
      ·refine .pure ?_
       by_cases hz : hh.toNat - l.toNat = 0
       ·rw [hz]; simpa using PR.nil _ _
       ·have hne : ¬ cap = l.toNat := by omega
        rw [if_neg hne]
        have hlen : ((xs.drop l.toNat).take (hh.toNat - l.toNat)).length = hh.toNat - l.toNat := by simp; omega
        have hxs : ∀ i, i < xs.length → sz' = sz := fun i hi => by rw [← hl i hi]; exact hall _ (List.getElem_mem hi)
        have hss : sz' = sz := hxs l.toNat (by omega)
        subst hss
        have key := PR.list (w := w) (I := I) b (off + l.toNat * sz') (cap - l.toNat) sz' ((xs.drop l.toNat).take (hh.toNat - l.toNat)) (fun i j => C (l.toNat + i) j) hb hs (by omega)
         (fun i hi => by simp only [List.getElem_take, List.getElem_drop]; exact hl _ _)
         (fun i j hi hj => by
          have := hcell (l.toNat + i) j (by omega) hj
          rw [Nat.add_mul] at this
          rw [Nat.add_assoc off]
          exact this)
         (fun i hi j hj => by
          simp only [List.getElem_take, List.getElem_drop]
          exact hr (l.toNat + i) (by omega) j (by simpa only [List.getElem_take, List.getElem_drop] using hj))
        rw [hlen] at key
        exact key
   ·exact h.elim
  ·rename_i o sz off len
   split at h
   ·rename_i e l hh ht hl1 hh1
    obtain ⟨⟨h0, h1, h2⟩, hsz, h⟩ := h
    have hu := V5 ht
    cases hx with
    | pure hx => cases hx
    | ownN _ _ hn =>
     have e1 : hh = 0 := by simp at h2; omega
     have e2 : l = 0 := by omega
     subst e1; subst e2
     have hb := zAy (P := P) (w := w) (isS := true) (cap := 0) (len := 0) (I7 hlo hlo' hl1) (zAj hhi hhi' hh1) (by omega) (by omega) (by simp) (Nat.zero_le _)
     refine ⟨_, .slice none 0 0, h, ?_, .ownN _ _ hn⟩
     simp [Instr.sliceAt, run_underlying hu, Instr.slice, hb, f9 hsz]
    | own _ _ _ _ b c ad cap hl g1 g2 g3 =>
     have hb := zAy (P := P) (w := w) (isS := true) (cap := cap) (I7 hlo hlo' hl1) (zAj hhi hhi' hh1) h0 h1 h2 g1
     refine ⟨_, .slice (some (if cap = l.toNat then ad else ad.add (l.toNat * sz))) (hh.toNat - l.toNat) (cap - l.toNat), h, ?_, ?_⟩
     ·simp only [Instr.sliceAt, Sem.run_bind, run_underlying hu, Result.andThen_ok, Instr.slice, hb, f9 hsz, Sem.run_pure, Option.map_some]
      split <;> rfl
     ·refine .own _ _ _ _ b c _ _ hl (by omega) ?_ ?_
      ·have e3 : off + l.toNat + (cap - l.toNat) = off + cap := by omega
       rw [e3]; exact g2
      ·intro hpos
       have hne : ¬ cap = l.toNat := by omega
       rw [if_neg hne, g3 (by omega), Q5, Nat.add_mul]
   ·exact h.elim
  ·exact h.elim
theorem zMZ {t : TypeId} {x : AV} {u : Value} (hx : VR w I loc x u) {n : Nat} (h : M9 P t x = some n) (ts : Array TypeId) (hts : ts.getD 0 0 = t) (h0 : 0 < ts.size) (ty : TypeId) :
  (Builtin.len_ ts ty #[u]).run P w = .ok (.int .i64 n) w := by
 have h1 : ts[0]? = some t := by
  have : ts[0]? = some ts[0] := by simp [h0]
  rw [this]; simp [h0] at hts; rw [hts]
 unfold M9 at h
 split at h
 ·rename_i s hu
  have e := hx.raw_eq; subst e
  simp at h; subst h
  simp [Builtin.len_, h1, run_underlying hu, goInt]
 ·rename_i e xs hu
  simp at h; subst h
  cases hx.toPR (.list _) <;> simp [Builtin.len_, h1, run_underlying hu, goInt]
 ·rename_i e xs hu
  simp at h; subst h
  cases hx.toPR (.clp _) <;> simp [Builtin.len_, h1, run_underlying hu, goInt]
 ·rename_i e o sz off len hu
  simp at h; subst h
  cases hx with
  | pure hx => cases hx
  | ownN => simp [Builtin.len_, h1, run_underlying hu, goInt]
  | own => simp [Builtin.len_, h1, run_underlying hu, goInt]
 ·rename_i e ad n' c hu
  have e := hx.raw_eq; subst e
  simp at h; subst h
  simp [Builtin.len_, h1, run_underlying hu, goInt]
 ·rename_i kt et ks xs hu
  simp at h; subst h
  cases hx.toPR (.fmap _ _) with
  | nmap => simp [Builtin.len_, h1, run_underlying hu, goInt]
  | fmap b es clock _ _ V hb hh hm =>
   have : es.size = ks.length := by have h1 := hm.1; have h2 := hm.2.1; simp at h2; omega
   simp [Builtin.len_, h1, run_underlying hu, goInt, MapKept.run_getObj_map hh, this]
 ·rename_i m e hu
  simp at h; subst h
  simp [Builtin.len_, h1, run_underlying hu, goInt]
 ·cases h
end
end Go.Abs

namespace Go.Abs
open Go
theorem zFJ (off : Nat) : ∀ (us : List Value) (k : Nat) (C : Array Value), off + k + us.length ≤ C.size →
  (us.zipIdx k).foldl (fun (cs : Array Value) (p : Value × Nat) => cs.setIfInBounds (off + p.2) p.1) C = (C.toList.take (off + k) ++ us ++ C.toList.drop (off + k + us.length)).toArray
 | [], k, C, h => by simp
 | u :: us, k, C, h => by
  simp only [List.zipIdx_cons, List.foldl_cons]
  rw [zFJ off us (k + 1) (C.setIfInBounds (off + k) u) (by simp at h ⊢; omega)]
  congr 1
  have := list_seg_step C.toList (off + k) u us (by simp at h ⊢; omega)
  rw [Array.toList_setIfInBounds]
  have e : off + (k + 1) = off + k + 1 := by omega
  rw [e]
  simpa using this
def spl (C : Array Value) (off : Nat) (us : Array Value) : Array Value := (C.toList.take off ++ us.toList ++ C.toList.drop (off + us.size)).toArray
theorem Q2 {C : Array Value} {off : Nat} {us : Array Value} (h : off + us.size ≤ C.size) : (spl C off us).size = C.size := by simp [spl]; omega
theorem zAh {C : Array Value} {off : Nat} {us : Array Value} (h : off + us.size ≤ C.size) (i : Nat) (hi : i < (spl C off us).size) (hi' : i < C.size) :
  (spl C off us)[i] = if h2 : off ≤ i ∧ i < off + us.size then us[i - off]'(by omega) else C[i] := by
 have hl : (C.toList.take off).length = off := by simp; omega
 simp only [spl, List.getElem_toArray]
 by_cases h1 : i < off
 ·rw [dif_neg (by omega), List.getElem_append_left (by simp; omega), List.getElem_append_left (by simp; omega)]
  simp
 ·by_cases h2 : i < off + us.size
  ·rw [dif_pos ⟨by omega, h2⟩, List.getElem_append_left (by simp; omega), List.getElem_append_right (by omega)]
   simp [hl]
  ·rw [dif_neg (by omega), List.getElem_append_right (by simp; omega)]
   simp only [List.getElem_drop, Array.getElem_toList]
   congr 1
   simp only [List.length_append, hl, Array.length_toList]
   omega
theorem zCf {place : Nat → Option (Nat × Nat)} {C : Array Value} {i off size : Nat} {v : Value} {rest : List (Nat × Value)} (hp : place i = some (off, size)) (hs : v.cells.size = size) (hf : off + size ≤ C.size) :
  Instr.fill place C ((i, v) :: rest) = Instr.fill place (spl C off v.cells) rest := by
 have h1 : ¬ (v.cells.size ≠ size || off + v.cells.size > C.size) = true := by simp [hs]; omega
 simp only [Instr.fill, hp, h1, if_false]
 have := zFJ off v.cells.toList 0 C (by simp; omega)
 simp only [Nat.add_zero] at this
 unfold spl
 rw [← Array.foldl_toList, Array.toList_zipIdx]
 have h2 := congrArg (fun c => Instr.fill place c rest) this
 simpa using h2
theorem zC7 {cs ds : List AV} {off : Nat} (h : off + ds.length ≤ cs.length) : (splice cs off ds).length = cs.length := by simp [splice]; omega
theorem zCn {cs ds : List AV} {off : Nat} (h : off + ds.length ≤ cs.length) (i : Nat) (hi : i < (splice cs off ds).length) (hi' : i < cs.length) :
  (splice cs off ds)[i] = if h2 : off ≤ i ∧ i < off + ds.length then ds[i - off]'(by omega) else cs[i] := by
 have hl : (cs.take off).length = off := by simp; omega
 simp only [splice]
 by_cases h1 : i < off
 ·rw [dif_neg (by omega), List.getElem_append_left (by simp; omega), List.getElem_append_left (by simp; omega)]
  simp
 ·by_cases h2 : i < off + ds.length
  ·rw [dif_pos ⟨by omega, h2⟩, List.getElem_append_left (by simp; omega), List.getElem_append_right (by omega)]
   simp [hl]
  ·rw [dif_neg (by omega), List.getElem_append_right (by simp; omega)]
   simp only [List.getElem_drop]
   congr 1
   simp only [List.length_append, hl]
   omega
section
variable {P : Program} {E : Env} {I : Nat → Prop} {loc : Nat → Loc} {σ : AS} {a : Act} {w : World}
def CV (w : World) (I : Nat → Prop) (loc : Nat → Loc) (cs : List AV) (C : Array Value) : Prop := cs.length = C.size ∧ ∀ i (h : i < cs.length) (h' : i < C.size), VR w I loc cs[i] C[i]
def CL (w : World) (I : Nat → Prop) (loc : Nat → Loc) (cs : List AV) (C : Array Value) : Prop := cs.length ≤ C.size ∧ ∀ i (h : i < cs.length) (h' : i < C.size), VR w I loc cs[i] C[i]
theorem CL.splice {cs ds : List AV} {C us : Array Value} {off : Nat} (h : CL w I loc cs C) (hd : CV w I loc ds us) (hf : off + ds.length ≤ cs.length) : CL w I loc (splice cs off ds) (spl C off us) := by
 obtain ⟨h1, h2⟩ := h
 obtain ⟨h3, h4⟩ := hd
 have hf' : off + us.size ≤ C.size := by omega
 refine ⟨by rw [Q2 hf']; simp [Go.Abs.splice]; omega, fun i hi hi' => ?_⟩
 rw [Q2 hf'] at hi'
 have hic : i < cs.length := by rw [zC7 hf] at hi; exact hi
 rw [zAh hf' i (by rw [Q2 hf']; exact hi') hi']
 rw [zCn hf i hi hic]
 by_cases g : off ≤ i ∧ i < off + ds.length
 ·rw [dif_pos g, dif_pos (by omega)]; exact h4 _ _ _
 ·rw [dif_neg g, dif_neg (by omega)]; exact h2 i hic hi'
theorem CV.splice {cs ds : List AV} {C us : Array Value} {off : Nat} (h : CV w I loc cs C) (hd : CV w I loc ds us) (hf : off + ds.length ≤ cs.length) : CV w I loc (splice cs off ds) (spl C off us) := by
 obtain ⟨h1, h2⟩ := h
 obtain ⟨h3, h4⟩ := hd
 have hf' : off + us.size ≤ C.size := by omega
 refine ⟨by rw [Q2 hf']; simp [Go.Abs.splice]; omega, fun i hi hi' => ?_⟩
 rw [Q2 hf'] at hi'
 have hic : i < cs.length := by omega
 rw [zAh hf' i (by rw [Q2 hf']; exact hi') hi']
 rw [zCn hf i hi hic]
 by_cases g : off ≤ i ∧ i < off + ds.length
 ·rw [dif_pos g, dif_pos (by omega)]; exact h4 _ _ _
 ·rw [dif_neg g, dif_neg (by omega)]; exact h2 i hic hi'
theorem zEC {z : Value} (h : z.cells.all (·.oneCell') = true) : CV w I loc (z.cells.toList.map .raw) z.cells := by
 refine ⟨by simp, fun i h1 h2 => ?_⟩
 simp only [List.getElem_map, Array.getElem_toList]
 exact .pure (.raw _ (Array.all_eq_true.1 h i h2))
theorem VR.toCV {x : AV} {v : Value} (h : VR w I loc x v) (hx : x.sized = true) : CV w I loc x.cells v.cells := by
 obtain ⟨h1, h2⟩ := h.cells hx
 exact ⟨h1.symm, h2⟩
theorem zIV {t : TypeId} {nx : Nat} {K : Cont} (hs : SR E I loc σ a w) (h : C4 P t σ.obj nx K) :
  ∃ v rd A w' loc' y, K v rd [(nx, A)] ∧ (Instr.alloc t true (.tuple #[])).run P w = .ok y w' ∧ SR E I loc' (σ.setO nx A) a w' ∧ VR w' I loc' v y := by
 unfold C4 at h
 cases hz : zeroT P t with
 | none => simp only [hz] at h
 | some z =>
  simp only [hz] at h
  obtain ⟨h1, h2, h⟩ := h
  refine ⟨_, _, _, w.alloc (.cells z.cells t), y1 loc nx (.blk w.heap.size z.cells.size), .pointer (some ⟨w.heap.size, 0, none⟩), h, ?_, ?_, ?_⟩
  ·simp [Instr.alloc, L8 hz, newVar, newRow]
  ·have hc := zEC (w := w.alloc (.cells z.cells t)) (I := I) (loc := y1 loc nx (.blk w.heap.size z.cells.size)) h1
   exact hs.born h2 _ (.inr ⟨w.heap.size, z.cells, t, by simp [y1], heap_alloc_new w _, Nat.le_of_eq hc.1, hc.2⟩)
  ·exact .ptr _ _ _ z.cells.size (by simp [y1])
theorem VR.alloc (hs : SR E I loc σ a w) {nx : Nat} (hn : σ.obj nx = .unb) {x : AV} {v : Value} (hx : VR w I loc x v) (ob : Obj) (L : Loc) : VR (w.alloc ob) I (y1 loc nx L) x v :=
 hx.mono (fun b hb => Z8 _ _ _ (hs.imm b hb)) (fun _ hb => hb) (fun o ho => by unfold y1; rw [if_neg]; intro e; subst e; exact ho (hs.un hn))
theorem PR.alloc (hs : SR E I loc σ a w) {x : AV} {v : Value} (hx : PR w I x v) (ob : Obj) : PR (w.alloc ob) I x v :=
 hx.mono (fun b hb => Z8 _ _ _ (hs.imm b hb)) (fun _ hb => hb)
theorem zJP {t : TypeId} {x : AV} {u : Value} {nx : Nat} {K : Cont} (hs : SR E I loc σ a w) (hx : VR w I loc x u) (h : zVk x σ.obj nx K) :
  ∃ v rd A w' loc' y, K v rd [(nx, A)] ∧ (Instr.box t u).run P w = .ok y w' ∧ SR E I loc' (σ.setO nx A) a w' ∧ VR w' I loc' v y := by
 obtain ⟨h1, h2, h⟩ := h
 have hc := (VR.alloc hs h2 hx (.cells u.cells t) (.blk w.heap.size u.cells.size)).toCV h1
 refine ⟨_, _, _, w.alloc (.cells u.cells t), y1 loc nx (.blk w.heap.size u.cells.size), .pointer (some ⟨w.heap.size, 0, none⟩), h, ?_, ?_, ?_⟩
 ·simp [Instr.box, newVar, newRow]
 ·exact hs.born h2 _ (.inr ⟨w.heap.size, u.cells, t, by simp [y1], heap_alloc_new w _, Nat.le_of_eq hc.1, hc.2⟩)
 ·exact .ptr _ _ _ u.cells.size (by simp [y1])
theorem zQN {C V : Array Value} {off : Nat} (h0 : 0 < off) (h : off + V.size ≤ C.size) : (spl C off V)[0]? = C[0]? := by
 have hc : 0 < C.size := by omega
 unfold spl
 rw [List.getElem?_toArray, List.append_assoc, List.getElem?_append_left (by simp; omega), List.getElem?_take, if_pos h0]
 simp
theorem zQQ {t : TypeId} {x y : AV} {u v : Value} {K : Cont} (hs : SR E I loc σ a w) (hx : VR w I loc x u) (hy : VR w I loc y v) (h : H8 P t x y σ.obj K) :
    ∃ rd o A w', K (.tup []) rd [(o, A)] ∧ (Instr.storeAt t u v).run P w = .ok () w' ∧ SR E I loc (σ.setO o A) a w' := by
  have hcells : y.cells.all AV.one = true → y.sized = true := fun hh => by
    cases y <;> simp_all [AV.cells, AV.one, AV.sized]
  have hone : y.cells.all AV.one = true → ∀ z, z ∈ v.cells.toList → z.oneCell' = true := fun hh z hz => by
    obtain ⟨e1, e2⟩ := hy.cells (hcells hh)
    obtain ⟨i, hi, rfl⟩ := List.getElem_of_mem hz
    have hi' : i < y.cells.length := by rw [← e1]; simpa using hi
    have := e2 i hi' (by simpa using hi)
    have hyo := (List.all_eq_true.1 hh) _ (List.getElem_mem hi')
    simpa using this.one hyo
  unfold H8 at h
  cases x with
  | ptr o off =>
    cases hx with
    | pure hx => cases hx
    | ptr _ _ b c hl =>
      have ho := hs.objs o
      cases hA : σ.obj o with
      | box cs =>
        simp only [hA] at h ho
        rcases ho with ⟨h1, _⟩ | ⟨b', C, e, h1, h2, h3, h4⟩
        · rw [hl] at h1; cases h1
        rw [hl] at h1; cases h1
        obtain ⟨g1, g2, g3, h⟩ := h
        have hyc := hy.toCV (hcells g2)
        have hvs := hyc.1
        have hst := run_storeCells_at P b off e v.cells.toList 0 C w h2 (by simp; omega) (hone g2)
        have hspl : (C.toList.take (off + 0) ++ v.cells.toList ++ C.toList.drop (off + 0 + v.cells.toList.length)).toArray = spl C off v.cells := by simp [spl]
        rw [hspl] at hst
        refine ⟨_, _, _, w.setRow b (spl C off v.cells), h, ?_, ?_⟩
        · simp only [Instr.storeAt, Instr.sureAddr, Sem.run_bind, Sem.run_pure, Result.andThen_ok, storeVar, f9 g1]
          rw [if_neg (by simp; omega)]
          exact hst
        · have hlive : (σ.obj o).live = true := by rw [hA]; rfl
          have hI := (hs.sep o b C.size hlive hl)
          have hcv : CL (w.setRow b (spl C off v.cells)) I loc (splice cs off y.cells) (spl C off v.cells) := by
            have hmono : ∀ k, I k → (w.setRow b (spl C off v.cells)).heap[k]? = w.heap[k]? := fun k hk => setRow_other w b k _ (fun e => hI.1 (e ▸ hk))
            have hc1 : CL (w.setRow b (spl C off v.cells)) I loc cs C := ⟨h3, fun i hi hi' => (h4 i hi hi').mono hmono (fun _ x => x) (fun _ _ => rfl)⟩
            have hc2 : CV (w.setRow b (spl C off v.cells)) I loc y.cells v.cells := ⟨hyc.1, fun i hi hi' => (hyc.2 i hi hi').mono hmono (fun _ x => x) (fun _ _ => rfl)⟩
            exact hc1.splice hc2 g3
          refine hs.write hlive hl h2 (A := .box (splice cs off y.cells)) (.inr ⟨b, spl C off v.cells, e, ?_, setRow_heap w b C _ e _ h2, hcv.1, hcv.2⟩) (by simp)
          rw [Q2 (by omega)]; exact hl
      | tbox e cs =>
        simp only [hA] at h ho
        obtain ⟨b', C, h1, h2, h0, h3', h4⟩ := ho
        have h3 : cs.length ≤ C.size := by omega
        rw [hl] at h1; cases h1
        obtain ⟨hoff, g1, g2, g3, h⟩ := h
        have hyc := hy.toCV (hcells g2)
        have hvs := hyc.1
        have hst := run_storeCells_at P b off e v.cells.toList 0 C w h2 (by simp; omega) (hone g2)
        have hspl : (C.toList.take (off + 0) ++ v.cells.toList ++ C.toList.drop (off + 0 + v.cells.toList.length)).toArray = spl C off v.cells := by simp [spl]
        rw [hspl] at hst
        refine ⟨_, _, _, w.setRow b (spl C off v.cells), h, ?_, ?_⟩
        · simp only [Instr.storeAt, Instr.sureAddr, Sem.run_bind, Sem.run_pure, Result.andThen_ok, storeVar, f9 g1]
          rw [if_neg (by simp; omega)]
          exact hst
        · have hlive : (σ.obj o).live = true := by rw [hA]; rfl
          have hI := (hs.sep o b C.size hlive hl)
          have hcv : CL (w.setRow b (spl C off v.cells)) I loc (splice cs off y.cells) (spl C off v.cells) := by
            have hmono : ∀ k, I k → (w.setRow b (spl C off v.cells)).heap[k]? = w.heap[k]? := fun k hk => setRow_other w b k _ (fun e => hI.1 (e ▸ hk))
            have hc1 : CL (w.setRow b (spl C off v.cells)) I loc cs C := ⟨h3, fun i hi hi' => (h4 i hi hi').mono hmono (fun _ x => x) (fun _ _ => rfl)⟩
            have hc2 : CV (w.setRow b (spl C off v.cells)) I loc y.cells v.cells := ⟨hyc.1, fun i hi hi' => (hyc.2 i hi hi').mono hmono (fun _ x => x) (fun _ _ => rfl)⟩
            exact hc1.splice hc2 g3
          have hz0 : (spl C off v.cells)[0]? = some (.pointer none) ∨ (spl C off v.cells)[0]? = some (.pointer (some ⟨b, 0, none⟩)) := by
            rcases hoff with hoff | ⟨rfl, rfl⟩
            · rw [zQN hoff (by omega)]; exact h0
            · cases hy with
              | pure hp => cases hp
              | ptr _ _ b2 c2 e2 =>
                rw [hl] at e2; cases e2
                exact .inr (by simp [spl, Value.cells])
          refine hs.write hlive hl h2 (A := .tbox e (splice cs off y.cells)) ⟨b, spl C off v.cells, ?_, setRow_heap w b C _ e _ h2, hz0, by rw [Q2 (by omega)]; unfold splice; simp; omega, hcv.2⟩ (by simp)
          rw [Q2 (by omega)]; exact hl
      | _ => simp only [hA] at h
  | eptr o sz i off =>
    cases hx with
    | pure hx => cases hx
    | eptr _ _ _ _ b c hl =>
      have ho := hs.objs o
      cases hA : σ.obj o with
      | row sz' xs =>
        simp only [hA] at h ho
        obtain ⟨rfl, hi, g1, g2, g3, h⟩ := h
        obtain ⟨h0, hcl, ho⟩ := ho
        rcases ho with ⟨h1, _⟩ | ⟨b', C, e, h1, h2, h3, h4⟩
        · rw [hl] at h1; cases h1
        rw [hl] at h1; cases h1
        have hlen : (xs[i]).cells.length = sz := hcl i hi
        have hfit : i * sz + sz ≤ C.size := by
          have : (i + 1) * sz ≤ xs.length * sz := Nat.mul_le_mul_right _ hi
          rw [Nat.add_mul] at this; omega
        have hyp := hy.toPR g3
        obtain ⟨hvs, hvc⟩ := hyp.cells (hcells g2)
        have hlive : (σ.obj o).live = true := by rw [hA]; rfl
        have hI := (hs.sep o b C.size hlive hl)
        have hmono : ∀ k, I k → (w.setRow b (spl C (i * sz + off) v.cells)).heap[k]? = w.heap[k]? := fun k hk => setRow_other w b k _ (fun e => hI.1 (e ▸ hk))
        -- whatever the element becomes, cell by cell
        have key : ∀ z : AV, off + y.cells.length ≤ sz → ∀ (_ : z.cells.length = sz), (∀ j (hj : j < z.cells.length), z.cells[j] = if hh : off ≤ j ∧ j < off + y.cells.length then y.cells[j - off]'(by omega) else (xs[i]).cells[j]'(by omega)) →
            K (.tup []) [o] [(o, .row sz (xs.set i z))] → ∃ rd o A w', K (.tup []) rd [(o, A)] ∧ (Instr.storeAt t (.pointer (some ⟨b, i * sz + off, none⟩)) v).run P w = .ok () w' ∧ SR E I loc (σ.setO o A) a w' := by
          intro z hoff hz hzc hK
          have hfit' : i * sz + off + v.cells.size ≤ C.size := by omega
          have hst := run_storeCells_at P b (i * sz + off) e v.cells.toList 0 C w h2 (by simp; omega) (hone g2)
          have hspl : (C.toList.take (i * sz + off + 0) ++ v.cells.toList ++ C.toList.drop (i * sz + off + 0 + v.cells.toList.length)).toArray = spl C (i * sz + off) v.cells := by simp [spl]
          rw [hspl] at hst
          refine ⟨_, _, _, w.setRow b (spl C (i * sz + off) v.cells), hK, ?_, ?_⟩
          · simp only [Instr.storeAt, Instr.sureAddr, Sem.run_bind, Sem.run_pure, Result.andThen_ok, storeVar, f9 g1]
            rw [if_neg (by simp; omega)]
            exact hst
          · refine hs.write hlive hl h2 (A := .row sz (xs.set i z)) ⟨h0, fun k hk => ?_, .inr ⟨b, spl C (i * sz + off) v.cells, e, by rw [Q2 hfit']; exact hl, setRow_heap w b C _ e _ h2, by rw [Q2 hfit']; simpa using h3, fun k hk j hj h' => ?_⟩⟩ (by simp)
            · rw [List.getElem_set]
              split
              · exact hz
              · exact hcl _ _
            · have hk' : k < xs.length := by simpa using hk
              rw [Q2 hfit'] at h'
              rw [zAh hfit' _ (by rw [Q2 hfit']; exact h') h']
              by_cases e1 : i = k
              · subst e1
                have hset : (xs.set i z)[i]'hk = z := by simp
                have hj' : j < z.cells.length := by rw [hset] at hj; exact hj
                have e2 : ((xs.set i z)[i]'hk).cells[j] = z.cells[j] := by congr 2
                rw [e2, hzc j hj']
                by_cases e3 : off ≤ j ∧ j < off + y.cells.length
                · rw [dif_pos e3, dif_pos (by omega)]
                  have e4 : i * sz + j - (i * sz + off) = j - off := by omega
                  have := hvc (j - off) (by omega) (by omega)
                  simp only [e4]
                  exact this.mono hmono (fun _ x => x)
                · rw [dif_neg e3, dif_neg (by omega)]
                  exact (h4 i hi j (by omega) h').mono hmono (fun _ x => x)
              · have hset : (xs.set i z)[k]'hk = xs[k] := by rw [List.getElem_set, if_neg e1]
                have hj' : j < (xs[k]).cells.length := by rw [hset] at hj; exact hj
                have e2 : ((xs.set i z)[k]'hk).cells[j] = (xs[k]).cells[j] := by congr 2
                rw [e2, dif_neg]
                · exact (h4 k hk' j hj' h').mono hmono (fun _ x => x)
                · have hjs : j < sz := by rw [← hcl k hk']; exact hj'
                  rcases Nat.lt_or_gt_of_ne e1 with g | g
                  · have : (i + 1) * sz ≤ k * sz := Nat.mul_le_mul_right _ g
                    rw [Nat.add_mul] at this; omega
                  · have : (k + 1) * sz ≤ i * sz := Nat.mul_le_mul_right _ g
                    rw [Nat.add_mul] at this; omega
        split at h
        · rename_i hw
          obtain ⟨rfl, hw⟩ := hw
          refine key y (by omega) hw (fun j hj => ?_) h
          rw [dif_pos ⟨Nat.zero_le _, by omega⟩]; rfl
        · obtain ⟨hw, h⟩ := h
          have hgd : xs.getD i .any = xs[i] := w4 hi
          rw [hgd] at h
          have hw' : off + y.cells.length ≤ (xs[i]).cells.length := by omega
          refine key (.agg (splice (xs[i]).cells off y.cells)) hw ((zC7 hw').trans hlen) (fun j hj => ?_) h
          have hj2 : j < (splice (xs[i]).cells off y.cells).length := hj
          have hj' : j < (xs[i]).cells.length := by rw [zC7 hw'] at hj2; exact hj2
          exact zCn hw' j hj hj'
      | box cs =>
        simp only [hA] at h ho
        rcases ho with ⟨h1, _⟩ | ⟨b', C, e, h1, h2, h3, h4⟩
        · rw [hl] at h1; cases h1
        rw [hl] at h1; cases h1
        obtain ⟨g1, g2, g3, h⟩ := h
        have hyc := hy.toCV (hcells g2)
        have hvs := hyc.1
        have hst := run_storeCells_at P b (i * sz + off) e v.cells.toList 0 C w h2 (by simp; omega) (hone g2)
        have hspl : (C.toList.take (i * sz + off + 0) ++ v.cells.toList ++ C.toList.drop (i * sz + off + 0 + v.cells.toList.length)).toArray = spl C (i * sz + off) v.cells := by simp [spl]
        rw [hspl] at hst
        refine ⟨_, _, _, w.setRow b (spl C (i * sz + off) v.cells), h, ?_, ?_⟩
        · simp only [Instr.storeAt, Instr.sureAddr, Sem.run_bind, Sem.run_pure, Result.andThen_ok, storeVar, f9 g1]
          rw [if_neg (by simp; omega)]
          exact hst
        · have hlive : (σ.obj o).live = true := by rw [hA]; rfl
          have hI := (hs.sep o b C.size hlive hl)
          have hcv : CL (w.setRow b (spl C (i * sz + off) v.cells)) I loc (splice cs (i * sz + off) y.cells) (spl C (i * sz + off) v.cells) := by
            have hmono : ∀ k, I k → (w.setRow b (spl C (i * sz + off) v.cells)).heap[k]? = w.heap[k]? := fun k hk => setRow_other w b k _ (fun e => hI.1 (e ▸ hk))
            have hc1 : CL (w.setRow b (spl C (i * sz + off) v.cells)) I loc cs C := ⟨h3, fun i hi hi' => (h4 i hi hi').mono hmono (fun _ x => x) (fun _ _ => rfl)⟩
            have hc2 : CV (w.setRow b (spl C (i * sz + off) v.cells)) I loc y.cells v.cells := ⟨hyc.1, fun i hi hi' => (hyc.2 i hi hi').mono hmono (fun _ x => x) (fun _ _ => rfl)⟩
            exact hc1.splice hc2 g3
          refine hs.write hlive hl h2 (A := .box (splice cs (i * sz + off) y.cells)) (.inr ⟨b, spl C (i * sz + off) v.cells, e, ?_, setRow_heap w b C _ e _ h2, hcv.1, hcv.2⟩) (by simp)
          rw [Q2 (by omega)]; exact hl
      | _ => simp only [hA] at h
  | _ => exact h.elim
end
end Go.Abs

namespace Go.Abs
open Go
section
variable {P : Program} {E : Env} {I : Nat → Prop} {loc : Nat → Loc} {σ : AS} {a : Act} {w : World}
theorem zBY {t sz : Nat} (h : sizeT P t = some sz) : ∃ i, P.info? t = some i ∧ i.size = sz := by
 unfold sizeT at h
 cases hi : P.info? t with
 | none => rw [hi] at h; cases h
 | some i => rw [hi] at h; simp at h; exact ⟨i, rfl, h⟩
theorem zCe {R : AV → Value → Prop} (sz n : Nat) {ev : Operand → AV} {ρ : Operand → Value} : ∀ (ps : List (Nat × Operand)) (k : Nat) (C : Array Value),
  ps.map (·.1) = List.range' k ps.length → k + ps.length = n → C.size = n * sz → (∀ p, p ∈ ps → (ev p.2).cells.length = sz ∧ (ρ p.2).cells.size = sz ∧ ∀ j (h : j < (ev p.2).cells.length) (h' : j < (ρ p.2).cells.size), R (ev p.2).cells[j] (ρ p.2).cells[j]) →
  ∃ C' : Array Value, Instr.fill (fun i => some (i * sz, sz)) C (ps.map fun p => (p.1, ρ p.2)) = some C' ∧ C'.size = n * sz ∧ (∀ i (h : i < C.size) (h' : i < C'.size), i < k * sz → C'[i] = C[i]) ∧
   ∀ m (hm : m < ps.length) j (hj : j < (ev (ps[m]).2).cells.length) (h' : (k + m) * sz + j < C'.size), R (ev (ps[m]).2).cells[j] C'[(k + m) * sz + j]
 | [], k, C, _, _, hC, _ => ⟨C, rfl, hC, fun _ _ _ _ => rfl, fun m hm => by simp at hm⟩
 | p :: ps, k, C, hr, hk, hC, hp => by
  simp only [List.map_cons, List.length_cons, List.range'_succ, List.cons.injEq] at hr
  obtain ⟨hp1, hr⟩ := hr
  obtain ⟨hpl, hcs, hcv⟩ := hp p (by simp)
  have hfit : k * sz + sz ≤ C.size := by
   rw [hC, ← Nat.succ_mul]; exact Nat.mul_le_mul_right _ (by simp at hk; omega)
  have hfit' : k * sz + (ρ p.2).cells.size ≤ C.size := by omega
  obtain ⟨C', h1, h2, h3, h4⟩ := zCe (R := R) sz n (ev := ev) ps (k + 1) (spl C (k * sz) (ρ p.2).cells) hr (by simp at hk; omega) (by rw [Q2 hfit']; exact hC) (fun q hq => hp q (by simp [hq]))
  refine ⟨C', ?_, h2, fun i hi hi' hlt => ?_, fun m hm j hj h' => ?_⟩
  ·rw [List.map_cons, zCf (off := k * sz) (size := sz) (by rw [hp1]) (by omega) hfit]
   exact h1
  ·rw [h3 i (by rw [Q2 hfit']; exact hi) hi' (by rw [Nat.add_mul]; omega), zAh hfit' i (by rw [Q2 hfit']; exact hi) hi, dif_neg (by omega)]
  ·cases m with
   | zero =>
    simp only [List.getElem_cons_zero, Nat.add_zero] at hj h' ⊢
    have hlt : k * sz + j < C.size := by omega
    rw [h3 _ (by rw [Q2 hfit']; exact hlt) h' (by rw [Nat.add_mul]; omega), zAh hfit' _ (by rw [Q2 hfit']; exact hlt) hlt, dif_pos (by omega)]
    have e : k * sz + j - k * sz = j := by omega
    simp only [e]
    exact hcv j hj (by omega)
   | succ m =>
    simp only [List.getElem_cons_succ] at hj ⊢
    have e : k + (m + 1) = k + 1 + m := by omega
    simp only [e] at h' ⊢
    exact h4 m (by simpa using hm) j hj h'
theorem AV.cells_zero {x : AV} (h : x.one = true) : ∃ hl : 0 < x.cells.length, x.cells[0] = x := by
 have := AV.cells_of_one h
 refine ⟨by simp [this], by simp [this]⟩
theorem zAg {x : AV} (h : R7 x = true) : Pure x ∧ x.one = true := by
 cases x <;> simp_all [R7, AV.one]
 ·exact .raw _
 ·exact .list _
 ·exact .elt _
 ·exact .fmap _ _
 ·exact .ifc _ _
theorem zBV (H : Nat → AObj) (F : Nat → Prop) : ∀ (n : Nat) (x : AV), (∀ o, o ∈ (zUO H n x).2 → F o) → Xp H idR F (zUO H n x).1 x
 | 0, x, _ => Xp.refl H F x
 | n + 1, x, h => by
  unfold zUO at h ⊢
  cases x with
  | own o sz off len =>
   simp only at h ⊢
   cases hA : H o with
   | row sz' xs =>
    simp only [hA] at h ⊢
    split at h
    ·rename_i hc
     obtain ⟨rfl, hc⟩ := hc
     rw [if_pos ⟨rfl, hc⟩]
     exact .froz o sz' off len xs hA (h o (by simp)) hc
    ·rename_i hc
     rw [if_neg hc]; exact Xp.refl H F _
   | box cs =>
    simp only [hA] at h ⊢
    split at h
    ·rename_i hc
     rw [if_pos hc]
     obtain ⟨rfl, rfl, rfl, hall⟩ := hc
     rw [List.all_eq_true] at hall
     refine .frozb o 0 _ cs _ hA (h o (by simp)) (by omega) rfl (by simp) (fun y hy => ?_) (fun i hi hi' => ?_)
     ·obtain ⟨c, hc, rfl⟩ := List.mem_map.1 hy
      exact zAg (hall c hc)
     ·simp only [List.getElem_map]
      exact zBV H F n cs[i] (fun q hq => h q (by simp; exact .inr ⟨_, ⟨cs[i], List.getElem_mem hi', rfl⟩, hq⟩))
    ·rename_i hc
     rw [if_neg hc]; exact Xp.refl H F _
   | _ => simp only [hA] at h ⊢; exact Xp.refl H F _
  | mp o =>
   simp only at h ⊢
   cases hA : H o with
   | mapo ks xs => simp only [hA] at h ⊢; exact .frozm o ks ks xs xs hA (h o (by simp)) (MPerm.refl _ _)
   | _ => simp only [hA] at h ⊢; exact Xp.refl H F _
  | agg cs =>
   simp only at h ⊢
   refine .agg _ _ (by simp) (fun i hi hi' => ?_)
   simp only [List.getElem_map]
   exact zBV H F n cs[i] (fun q hq => h q (by simp; exact ⟨_, ⟨cs[i], List.getElem_mem hi', rfl⟩, hq⟩))
  | raw v =>
   clear h
   split
   ·rename_i e; cases e
   ·rename_i e; cases e
   ·rename_i e; cases e
   ·rename_i e; cases e; exact .nill
   ·exact Xp.refl H F _
  | _ => exact Xp.refl H F _
theorem zCl (H : Nat → AObj) : ∀ (n : Nat) (x : AV) (o : Nat), o ∈ (zUO H n x).2 → (H o).live = true
 | 0, x, o, h => by simp [zUO] at h
 | n + 1, x, o, h => by
  unfold zUO at h
  cases x with
  | own k sz off len =>
   simp only at h
   cases hA : H k with
   | row sz' xs =>
    simp only [hA] at h
    split at h
    ·simp at h; subst h; rw [hA]; rfl
    ·simp at h
   | box cs =>
    simp only [hA] at h
    split at h
    ·simp only [List.mem_cons, List.mem_flatten, List.mem_map] at h
     rcases h with rfl | ⟨l, ⟨c, hc, rfl⟩, h⟩
     ·rw [hA]; rfl
     ·exact zCl H n c o h
    ·simp at h
   | _ => simp [hA] at h
  | mp k =>
   simp only at h
   cases hA : H k with
   | mapo ks xs => simp only [hA] at h; simp at h; subst h; rw [hA]; rfl
   | _ => simp [hA] at h
  | agg cs =>
   simp only [List.mem_flatten, List.mem_map] at h
   obtain ⟨l, ⟨c, hc, rfl⟩, h⟩ := h
   exact zCl H n c o h
  | raw v =>
   split at h
   ·rename_i e; cases e
   ·rename_i e; cases e
   ·rename_i e; cases e
   ·simp at h
   ·simp at h
  | _ => simp at h
theorem zIB (σ : AS) (l r : List (Nat × AObj)) : σ.writes (l ++ r) = (σ.writes l).writes r := List.foldl_append
theorem zD8 : ∀ (fs : List Nat) (σ : AS), (σ.writes (w5 fs)).n = σ.n ∧ (∀ t, (σ.writes (w5 fs)).get t = σ.get t) ∧ ∀ o, (σ.writes (w5 fs)).obj o = if o ∈ fs then .dead else σ.obj o
 | [], σ => ⟨rfl, fun _ => rfl, fun o => by simp [w5, AS.writes]⟩
 | k :: r, σ => by
  obtain ⟨h1, h2, h3⟩ := zD8 r (σ.setO k .dead)
  refine ⟨h1, h2, fun o => ?_⟩
  have e : (σ.writes (w5 (k :: r))).obj o = ((σ.setO k .dead).writes (w5 r)).obj o := rfl
  rw [e, h3, AS.obj_setO]
  by_cases hr : o ∈ r
  ·simp [hr]
  ·by_cases hk : k = o
   ·subst hk; simp
   ·have hk' : ¬ o = k := fun e => hk e.symm
    simp [hr, hk, hk']
theorem SR.congr {σ' : AS} (h : SR E I loc σ a w) (h1 : σ'.n = σ.n) (h2 : ∀ t, σ'.get t = σ.get t) (h3 : ∀ o, σ'.obj o = σ.obj o) : SR E I loc σ' a w :=
 ⟨h.defers.imp (fun r g1 g2 g3 g4 => ⟨g1, g2, g3, fun o c hl => g4 o c (by rw [← h3]; exact hl)⟩), h.size.trans h1.symm, fun t => by rw [h2]; exact h.tmps t, fun o => by rw [h3]; exact h.objs o, fun o o' b c c' => by rw [h3, h3]; exact h.inj o o' b c c', h.imm, fun o b c => by rw [h3]; exact h.sep o b c, h.fr, h.base, h.top, h.keep⟩
theorem SG.congr {γ : Gh} {σ' : AS} (h : SG E I γ loc σ a w) (h1 : σ'.n = σ.n) (h2 : ∀ t, σ'.get t = σ.get t) (h3 : ∀ o, σ'.obj o = σ.obj o) : SG E I γ loc σ' a w :=
 ⟨h.sr.congr h1 h2 h3, ⟨h.og.wf, h.og.rd, fun o b c hl => h.og.live o b c (by rw [← h3]; exact hl), h.og.mark, h.og.own, h.og.fro⟩⟩
theorem SR.thenWrite {fs : List Nat} {o : Nat} {A : AObj} (h : SR E I loc ((Y6 σ fs).setO o A) a w) : SR E I loc (σ.writes (w5 fs ++ [(o, A)])) a w := by
 obtain ⟨h1, h2, h3⟩ := zD8 fs σ
 obtain ⟨g1, g2⟩ := E8 σ fs
 rw [zIB]
 refine h.congr (h1.trans g1.symm) (fun t => (h2 t).trans (g2 t).symm) (fun k => ?_)
 show ((σ.writes (w5 fs)).setO o A).obj k = _
 rw [AS.obj_setO, AS.obj_setO, h3, I5]
theorem zFK (hs : SR E I loc σ a w) {fs : List Nat} {n : Nat} {x : AV} {v : Value} (hx : VR w I loc x v) (hf : ∀ o, o ∈ (zUO σ.obj n x).2 → o ∈ fs) : VR w (zUW σ.obj (· ∈ fs) loc I) loc (zUO σ.obj n x).1 v :=
 Xp.sound hs (zBV σ.obj (· ∈ fs) n x hf) hx
theorem zJS {t n nx : Nat} {ps : Array (Nat × Operand)} {K : Cont} (hs : SR E I loc σ a w) (h : buildSliceA P t n (ps.toList.map fun p => (p.1, σ.ev p.2)) σ.obj nx K) :
    ∃ v rd wr w' I' loc' y, K v rd wr ∧ (Instr.buildSlice t n (ps.map fun (i, x) => (i, a.eval x))).run P w = .ok y w' ∧ SR E I' loc' (σ.writes wr) a w' ∧ VR w' I' loc' v y := by
  unfold buildSliceA at h
  cases ht : sliceT P t with
  | none => simp only [ht] at h
  | some e =>
    simp only [ht] at h
    cases hsz : sizeT P e with
    | none => simp only [hsz] at h
    | some sz =>
      cases hz : zeroT P e with
      | none => simp only [hsz, hz] at h
      | some z =>
        simp only [hsz, hz] at h
        obtain ⟨h0, hlim, hzs, hidx, hn, hK⟩ := h
        have hlen : ps.toList.length = n := by
          have := congrArg List.length hidx
          simpa using this
        have hidx' : ps.toList.map (·.1) = List.range' 0 ps.toList.length := by
          rw [hlen, ← List.range_eq_range', ← hidx]; simp
        have hrun : ∀ C' : Array Value, Instr.fill (fun i => some (i * sz, sz)) ((Array.range (n * sz)).map (z.cells[· % z.cells.size]!)) (ps.toList.map fun p => (p.1, a.eval p.2)) = some C' →
            (Instr.buildSlice t n (ps.map fun (i, x) => (i, a.eval x))).run P w = .ok (.slice (some ⟨w.heap.size, 0, none⟩) n n) (w.alloc (.cells C' e)) := by
          intro C' f1
          have hl : ¬ (n * sz > 2 ^ 24) := by omega
          have e2 : (ps.map fun (i, x) => (i, a.eval x)).toList = ps.toList.map fun p => (p.1, a.eval p.2) := by simp
          have hZ : ∀ zz : Array Value, n * sz = 0 → (Array.range (n * sz)).map (zz[· % zz.size]!) = (Array.range (n * sz)).map (z.cells[· % z.cells.size]!) := fun zz h => by rw [h, Array.range_zero']; simp
          by_cases hnz : n * sz = 0
          · simp only [Instr.buildSlice, Sem.run_bind, run_underlying (V5 ht), Result.andThen_ok, f9 hsz, hl, if_false, if_pos hnz, Sem.run_pure]
            rw [hZ #[] hnz, e2, f1]
            simp [newRow]
          · simp only [Instr.buildSlice, Sem.run_bind, run_underlying (V5 ht), Result.andThen_ok, f9 hsz, hl, if_false, if_neg hnz, L8 hz, Sem.run_pure]
            rw [e2, f1]
            simp [newRow]
        split at hK
        · obtain ⟨rfl, hall, hK⟩ := hK
          obtain ⟨C', f1, f2, _, f4⟩ := zCe (R := VR w I loc) 1 n (ev := σ.ev) (ρ := a.eval) ps.toList 0 ((Array.range (n * 1)).map (z.cells[· % z.cells.size]!)) hidx' (by omega) (by simp)
            (fun p hp => by
              have h1 := hall (p.1, σ.ev p.2) (List.mem_map.2 ⟨p, hp, rfl⟩)
              have h2 := AV.cells_of_one h1
              have h3 := cells_of_one ((hs.ev p.2).one h1)
              refine ⟨by simp [h2], by simp [h3], fun j hj hj' => ?_⟩
              have hj0 : j = 0 := by simp [h2] at hj; exact hj
              subst hj0
              have e1 : (σ.ev p.2).cells[0] = σ.ev p.2 := by simp [h2]
              have e2 : (a.eval p.2).cells[0] = a.eval p.2 := by simp [h3]
              rw [e1, e2]; exact hs.ev p.2)
          refine ⟨_, _, _, w.alloc (.cells C' e), I, y1 loc nx (.blk w.heap.size C'.size), .slice (some ⟨w.heap.size, 0, none⟩) n n, hK, hrun C' f1, ?_, ?_⟩
          · refine hs.born hn _ (.inr ⟨w.heap.size, C', e, by simp [y1], heap_alloc_new w _, by simp [f2]; simp at hlen; omega, fun i hi h' => ?_⟩)
            have hi' : i < ps.toList.length := by simpa using hi
            have hel : ((ps.toList.map fun (p : Nat × Operand) => (p.1, σ.ev p.2)).map (·.2))[i]'hi = σ.ev (ps.toList[i]).2 := by simp
            rw [hel]
            have h1 : (σ.ev (ps.toList[i]).2).one = true := hall (_, σ.ev (ps.toList[i]).2) (List.mem_map.2 ⟨ps.toList[i], List.getElem_mem hi', rfl⟩)
            obtain ⟨g0, e1⟩ := AV.cells_zero h1
            have := f4 i hi' 0 g0 (by omega)
            have e2 : (0 + i) * 1 + 0 = i := by omega
            simp only [e2] at this
            rw [e1] at this
            exact VR.alloc hs hn this _ _
          · refine .own _ _ _ _ w.heap.size C'.size _ _ (by simp [y1]) (Nat.le_refl _) (by rw [f2]; simp) (fun _ => by simp)
        · obtain ⟨hall, hK⟩ := hK
          let fs : List Nat := (ps.toList.map fun (p : Nat × Operand) => (zUO σ.obj 3 (σ.ev p.2)).2).flatten
          have hfs : ((ps.toList.map fun (p : Nat × Operand) => (p.1, σ.ev p.2)).map fun p => (zUO σ.obj 3 p.2).2).flatten = fs := by simp [fs, Function.comp_def]
          have hmem : ∀ p, p ∈ ps.toList → ∀ o, o ∈ (zUO σ.obj 3 (σ.ev p.2)).2 → o ∈ fs := fun p hp o ho => List.mem_flatten.2 ⟨_, List.mem_map.2 ⟨p, hp, rfl⟩, ho⟩
          have hs1 := hs.freeze fs
          have hnfs : nx ∉ fs := fun hin => by
            obtain ⟨l, hl, ho⟩ := List.mem_flatten.1 hin
            obtain ⟨p, _, rfl⟩ := List.mem_map.1 hl
            have := zCl σ.obj 3 _ nx ho
            rw [hn] at this; cases this
          have hn1 : (Y6 σ fs).obj nx = .unb := by rw [I5, if_neg hnfs]; exact hn
          have hvr : ∀ p, p ∈ ps.toList → PR w (zUW σ.obj (· ∈ fs) loc I) (zUO σ.obj 3 (σ.ev p.2)).1 (a.eval p.2) := fun p hp =>
            (zFK hs (hs.ev p.2) (hmem p hp)).toPR (hall _ (List.mem_map.2 ⟨p, hp, rfl⟩)).1
          obtain ⟨C', f1, f2, _, f4⟩ := zCe (R := PR w (zUW σ.obj (· ∈ fs) loc I)) sz n (ev := fun x => (zUO σ.obj 3 (σ.ev x)).1) (ρ := a.eval) ps.toList 0 ((Array.range (n * sz)).map (z.cells[· % z.cells.size]!)) hidx' (by omega) (by simp)
            (fun p hp => by
              obtain ⟨g1, g2, g3⟩ := hall (p.1, σ.ev p.2) (List.mem_map.2 ⟨p, hp, rfl⟩)
              have g3' : (zUO σ.obj 3 (σ.ev p.2)).1.cells.length = sz := g3
              obtain ⟨q1, q2⟩ := (hvr p hp).cells g2
              exact ⟨g3', by omega, q2⟩)
          have hn' : ((ps.toList.map fun (p : Nat × Operand) => (p.1, σ.ev p.2)).map fun p => (zUO σ.obj 3 p.2).1).length = n := by simp [← hlen]
          rw [hfs] at hK
          refine ⟨_, _, _, w.alloc (.cells C' e), zUW σ.obj (· ∈ fs) loc I, y1 loc nx (.blk w.heap.size C'.size), .slice (some ⟨w.heap.size, 0, none⟩) n n, hK, hrun C' f1, SR.thenWrite ?_, ?_⟩
          · refine hs1.born hn1 _ ⟨h0, fun i hi => ?_, .inr ⟨w.heap.size, C', e, by simp [y1], heap_alloc_new w _, by rw [hn', f2]; exact Nat.le_refl _, fun i hi j hj h' => ?_⟩⟩
            · simp only [List.getElem_map]
              exact (hall _ (List.mem_map.2 ⟨_, List.getElem_mem (by simpa using hi), rfl⟩)).2.2
            · have hi' : i < ps.toList.length := by omega
              have hel : ((ps.toList.map fun (p : Nat × Operand) => (p.1, σ.ev p.2)).map fun p => (zUO σ.obj 3 p.2).1)[i]'hi = (zUO σ.obj 3 (σ.ev (ps.toList[i]).2)).1 := by simp
              have hj' : j < (zUO σ.obj 3 (σ.ev (ps.toList[i]).2)).1.cells.length := by rw [hel] at hj; exact hj
              have e3 : ∀ (x y : AV) (e : x = y) (h1 : j < x.cells.length) (h2 : j < y.cells.length), x.cells[j] = y.cells[j] := fun x y e h1 h2 => by subst e; rfl
              rw [e3 _ _ hel hj hj']
              have e4 : 0 + i = i := Nat.zero_add i
              have := f4 i hi' j hj' (by rw [e4]; exact h')
              simp only [e4] at this
              exact PR.alloc hs1 this _
          · refine .own _ _ _ _ w.heap.size C'.size _ _ (by simp [y1]) (Nat.le_refl _) (by rw [f2]; simp) (fun _ => by simp)
theorem zMo {t nx : Nat} {x y : AV} {u v : Value} {K : Cont} (hs : SR E I loc σ a w) (hx : VR w I loc x u) (hy : VR w I loc y v) (h : A8 P t x y σ.obj nx K) :
    ∃ z rd A w' loc' r, K z rd [(nx, A)] ∧ (Instr.makeSlice t u v).run P w = .ok r w' ∧ SR E I loc' (σ.setO nx A) a w' ∧ VR w' I loc' z r := by
  unfold A8 at h
  split at h
  · rename_i e k n k' m ht
    have e1 := hx.raw_eq; have e2 := hy.raw_eq; subst e1; subst e2
    cases hsz : sizeT P e with
    | none => simp only [hsz] at h
    | some sz =>
      cases hby : bytesT P e with
      | none => simp only [hsz, hby] at h
      | some by_ =>
        cases hz : zeroT P e with
        | none => simp only [hsz, hby, hz] at h
        | some z =>
          simp only [hsz, hby, hz] at h
          obtain ⟨h0, hzs, hzo, hzsz, rfl, ⟨hn0, hn1, hn2⟩, hnx, hK⟩ := h
          obtain ⟨i, hi, his⟩ := zBY hsz
          have hib : i.bytes = by_ := by unfold bytesT at hby; rw [hi] at hby; simpa using hby
          have hiz : i.zero = some z := by unfold zeroT at hz; rw [hi] at hz; simpa using hz
          have hrun := run_make (P := P) w t e i z (V5 ht) hi hiz k k' m m hn0 (Int.le_refl _) (by rw [hib]; omega) hn1
          split at hK
          · rename_i hrz
            obtain ⟨rfl, hK⟩ := hK
            have hone : z.oneCell' = true := by
              unfold zU8 at hrz
              split at hrz <;> first | rfl | cases hrz
            have hzcell := cells_of_one hone
            refine ⟨_, _, _, _, y1 loc nx (.blk w.heap.size (m.toNat * i.size)), _, hK, hrun, ?_, ?_⟩
            · refine hs.born hnx _ (.inr ⟨w.heap.size, madeCells z.cells (m.toNat * i.size), e, by simp [y1, size_madeCells], heap_alloc_new w _, by simp [size_madeCells, his], fun q hq h' => ?_⟩)
              have e4 : (madeCells z.cells (m.toNat * i.size))[q] = z := by
                simp only [madeCells, Array.getElem_map, Array.getElem_range, hzcell]
                simp [Nat.mod_one]
              rw [e4]
              simp only [List.getElem_replicate]
              exact .pure (.raw _ hone)
            · refine .own _ _ _ _ w.heap.size (m.toNat * i.size) _ _ (by simp [y1]) (Nat.le_refl _) (by rw [his]; simp) (fun _ => by simp)
          · have hzc : (i5 z).cells.length = sz := by
              have := (H1 (w := w) (I := I) (loc := loc) z).cells hzsz
              omega
            have hcz : ∀ j (hj : j < (i5 z).cells.length) (hj' : j < z.cells.size), PR (w.alloc (.cells (madeCells z.cells (m.toNat * i.size)) e)) I (i5 z).cells[j] z.cells[j] := by
              intro j hj hj'
              have hp : Pure (i5 z) := by
                unfold i5
                cases z with
                | agg cs =>
                  simp only
                  split
                  · refine .agg _ (fun c hc => ?_)
                    obtain ⟨v, _, rfl⟩ := List.mem_map.1 hc
                    exact .raw _
                  · exact .any
                | tuple _ => exact .any
                | _ => exact .raw _
              exact ((H1 (loc := loc) z).toPR hp |>.cells hzsz).2 j hj hj'
            refine ⟨_, _, _, _, y1 loc nx (.blk w.heap.size (m.toNat * i.size)), _, hK, hrun, ?_, ?_⟩
            · refine hs.born hnx _ ⟨h0, fun q hq => by simp [hzc], .inr ⟨w.heap.size, madeCells z.cells (m.toNat * i.size), e, by simp [y1, size_madeCells], heap_alloc_new w _, by simp [size_madeCells, his], fun q hq j hj h' => ?_⟩⟩
              have hel : (List.replicate m.toNat (i5 z))[q] = i5 z := by simp
              have hj' : j < (i5 z).cells.length := by rw [hel] at hj; exact hj
              have e3 : ((List.replicate m.toNat (i5 z))[q]).cells[j] = (i5 z).cells[j] := by congr 2
              rw [e3]
              have hjz : j < z.cells.size := by omega
              have e4 : (madeCells z.cells (m.toNat * i.size))[q * sz + j] = z.cells[j] := by
                simp only [madeCells, Array.getElem_map, Array.getElem_range]
                have : (q * sz + j) % z.cells.size = j := by rw [hzs, Nat.mul_comm, Nat.mul_add_mod]; exact Nat.mod_eq_of_lt (by omega)
                rw [this]; simp [hjz]
              rw [e4]
              exact hcz j hj' hjz
            · refine .own _ _ _ _ w.heap.size (m.toNat * i.size) _ _ (by simp [y1]) (Nat.le_refl _) (by rw [his]; simp) (fun _ => by simp)
  · exact h.elim
theorem SR.moveG (h : SR E I loc σ a w) {o nx : Nat} {A : AObj} (ho : σ.obj o = A) (hol : A.live = true) (hOR : ∀ loc' : Nat → Loc, loc' nx = loc o → (∀ k, loc k ≠ .un → loc' k = loc k) → OR w I loc o A → OR w I loc' nx A) (hn : σ.obj nx = .unb) :
  SR E I (y1 loc nx (loc o)) ((σ.setO o .dead).setO nx A) a w := by
 have hun := h.un hn
 have hne : o ≠ nx := fun e => by rw [e, hn] at ho; rw [← ho] at hol; cases hol
 have hloc : ∀ k, loc k ≠ .un → y1 loc nx (loc o) k = loc k := fun k hk => by
  unfold y1; rw [if_neg]; intro e; subst e; exact hk hun
 have hlive : ∀ k, (((σ.setO o .dead).setO nx A).obj k).live = true → (k = nx ∨ (k ≠ nx ∧ k ≠ o ∧ (σ.obj k).live = true)) := fun k hk => by
  rw [AS.obj_setO, AS.obj_setO] at hk
  by_cases e : nx = k
  ·exact .inl e.symm
  ·rw [if_neg e] at hk
   by_cases e' : o = k
   ·rw [if_pos e'] at hk; simp [AObj.live] at hk
   ·rw [if_neg e'] at hk; exact .inr ⟨fun x => e x.symm, fun x => e' x.symm, hk⟩
 have hk0 : ∀ k, k ≠ nx → y1 loc nx (loc o) k = loc k := fun k hk => by unfold y1; rw [if_neg hk]
 have hol : (σ.obj o).live = true := by rw [ho]; exact hol
 have hmk : Marks E I (y1 loc nx (loc o)) ((σ.setO o .dead).setO nx A) a.defers w := h.defers.imp (fun r g1 g2 g3 g4 => ⟨g1, g2, g3, fun k c hk e => by
  rcases hlive k hk with rfl | ⟨q1, q2, q3⟩
  ·simp only [y1, if_true] at e
   exact g4 o c hol e
  ·rw [hk0 k q1] at e
   exact g4 k c q3 e⟩)
 refine ⟨hmk, h.size, fun t => (h.tmps t).mono (fun _ _ => rfl) (fun _ x => x) hloc, fun k => ?_, fun k k' b c c' hk hk' e e' => ?_, h.imm, fun k b c hk e => ?_, h.fr, h.base, h.top, fun k hk => by rw [hloc k (h.keep k hk).2]; exact h.keep k hk⟩
 ·rw [AS.obj_setO, AS.obj_setO]
  by_cases e : nx = k
  ·subst e
   rw [if_pos rfl]
   have := h.objs o
   rw [ho] at this
   exact hOR _ (by simp only [y1, if_true]) hloc this
  ·rw [if_neg e]
   by_cases e' : o = k
   ·rw [if_pos e']; exact trivial
   ·rw [if_neg e']
    exact (h.objs k).mono (fun _ _ => rfl) (fun _ x => x) hloc (fun e2 => by rw [hk0 k (fun x => e x.symm)]; exact h.un e2) (fun _ _ _ _ => rfl)
 ·rcases hlive k hk with rfl | ⟨g1, g2, g3⟩
  ·rcases hlive k' hk' with rfl | ⟨g1', g2', g3'⟩
   ·rfl
   ·rw [hk0 k' g1'] at e'
    simp only [y1, if_true] at e
    exact absurd (h.inj o k' b c c' hol g3' e e').symm g2'
  ·rw [hk0 k g1] at e
   rcases hlive k' hk' with rfl | ⟨g1', g2', g3'⟩
   ·simp only [y1, if_true] at e'
    exact absurd (h.inj k o b c c' g3 hol e e') g2
   ·rw [hk0 k' g1'] at e'
    exact h.inj k k' b c c' g3 g3' e e'
 ·rcases hlive k hk with rfl | ⟨g1, g2, g3⟩
  ·simp only [y1, if_true] at e
   exact h.sep o b c hol e
  ·rw [hk0 k g1] at e
   exact h.sep k b c g3 e
theorem SR.move (h : SR E I loc σ a w) {o nx : Nat} {sz : Nat} {xs : List AV} (ho : σ.obj o = .row sz xs) (hn : σ.obj nx = .unb) : SR E I (y1 loc nx (loc o)) ((σ.setO o .dead).setO nx (.row sz xs)) a w :=
 h.moveG ho rfl (fun loc' e _ ⟨h0, hx, h1⟩ => ⟨h0, hx, by
  rcases h1 with ⟨h1, h2⟩ | ⟨b, C, e', h1, h2⟩
  ·exact .inl ⟨by rw [e, h1], h2⟩
  ·exact .inr ⟨b, C, e', by rw [e, h1], h2⟩⟩) hn
theorem SR.moveBox (h : SR E I loc σ a w) {o nx : Nat} {xs : List AV} (ho : σ.obj o = .box xs) (hn : σ.obj nx = .unb) : SR E I (y1 loc nx (loc o)) ((σ.setO o .dead).setO nx (.box xs)) a w :=
 h.moveG ho rfl (fun loc' e hl h1 => by
  rcases h1 with ⟨h1, h2⟩ | ⟨b, C, e', h1, h2, h3, h4⟩
  ·exact .inl ⟨by rw [e, h1], h2⟩
  ·exact .inr ⟨b, C, e', by rw [e, h1], h2, h3, fun i hi hi' => (h4 i hi hi').mono (fun _ _ => rfl) (fun _ x => x) hl⟩) hn
theorem SR.bornNilG (h : SR E I loc σ a w) {nx : Nat} {A : AObj} (hA : OR w I (y1 loc nx .nil) nx A) (hn : σ.obj nx = .unb) : SR E I (y1 loc nx .nil) (σ.setO nx A) a w := by
 have hun := h.un hn
 have hloc : ∀ k, loc k ≠ .un → y1 loc nx .nil k = loc k := fun k hk => by
  unfold y1; rw [if_neg]; intro e; subst e; exact hk hun
 have hk0 : ∀ k, k ≠ nx → y1 loc nx .nil k = loc k := fun k hk => by unfold y1; rw [if_neg hk]
 have hob : ∀ k b c, y1 loc nx .nil k = .blk b c → ((σ.setO nx A).obj k).live = true → loc k = .blk b c ∧ (σ.obj k).live = true := fun k b c e hk => by
  by_cases e' : k = nx
  ·subst e'; simp only [y1, if_true] at e; cases e
  ·rw [hk0 k e'] at e; rw [AS.obj_setO, if_neg (fun x => e' x.symm)] at hk; exact ⟨e, hk⟩
 have hmk : Marks E I (y1 loc nx .nil) (σ.setO nx A) a.defers w := h.defers.imp (fun r g1 g2 g3 g4 => ⟨g1, g2, g3, fun k c hk e => by
  obtain ⟨q1, q2⟩ := hob k r c e hk
  exact g4 k c q2 q1⟩)
 refine ⟨hmk, h.size, fun t => (h.tmps t).mono (fun _ _ => rfl) (fun _ x => x) hloc, fun k => ?_, fun k k' b c c' hk hk' e e' => ?_, h.imm, fun k b c hk e => ?_, h.fr, h.base, h.top, fun k hk => by rw [hloc k (h.keep k hk).2]; exact h.keep k hk⟩
 ·rw [AS.obj_setO]
  by_cases e : nx = k
  ·subst e; rw [if_pos rfl]; exact hA
  ·rw [if_neg e]
   exact (h.objs k).mono (fun _ _ => rfl) (fun _ x => x) hloc (fun e2 => by rw [hk0 k (fun x => e x.symm)]; exact h.un e2) (fun _ _ _ _ => rfl)
 ·obtain ⟨g1, g2⟩ := hob k b c e hk
  obtain ⟨g1', g2'⟩ := hob k' b c' e' hk'
  exact h.inj k k' b c c' g2 g2' g1 g1'
 ·obtain ⟨g1, g2⟩ := hob k b c e hk
  exact h.sep k b c g2 g1
theorem SR.bornNil (h : SR E I loc σ a w) {nx sz : Nat} (h0 : 0 < sz) (hn : σ.obj nx = .unb) : SR E I (y1 loc nx .nil) (σ.setO nx (.row sz [])) a w :=
 h.bornNilG ⟨h0, fun i hi => by simp at hi, .inl ⟨by simp only [y1, if_true], rfl⟩⟩ hn
def Elems (w : World) (I : Nat → Prop) (sz : Nat) (ys : List AV) (news : List Value) : Prop :=
 news.length = ys.length * sz ∧ ∀ i (h : i < ys.length) j (hj : j < (ys[i]).cells.length) (h' : i * sz + j < news.length), PR w I (ys[i]).cells[j] news[i * sz + j]
def ElemsW (w : World) (I : Nat → Prop) (loc : Nat → Loc) (sz : Nat) (ys : List AV) (news : List Value) : Prop :=
 news.length = ys.length * sz ∧ ∀ i (h : i < ys.length) j (hj : j < (ys[i]).cells.length) (h' : i * sz + j < news.length), VR w I loc (ys[i]).cells[j] news[i * sz + j]
theorem Elems.toW {sz : Nat} {ys : List AV} {news : List Value} (h : Elems w I sz ys news) : ElemsW w I loc sz ys news := ⟨h.1, fun i hi j hj h' => .pure (h.2 i hi j hj h')⟩
theorem Pure.cell {x : AV} (h : Pure x) {j : Nat} (hj : j < x.cells.length) : Pure x.cells[j] := by
 cases x with
 | agg cs => cases h with | agg _ hc => exact hc _ (List.getElem_mem hj)
 | _ => simp only [AV.cells, List.getElem_singleton] at *; exact h
theorem ElemsW.pure {sz : Nat} {ys : List AV} {news : List Value} (h : ElemsW w I loc sz ys news) (hp : ∀ y, y ∈ ys → Pure y) : Elems w I sz ys news :=
 ⟨h.1, fun i hi j hj h' => (h.2 i hi j hj h').toPR ((hp _ (List.getElem_mem hi)).cell hj)⟩
theorem zBm (hs : SR E I loc σ a w) {sz : Nat} {x : AV} {u : Value} (hx : VR w I loc x u) {ys : List AV} {rd : List Nat} (h : l6 σ.obj sz x = some (ys, rd)) (hsz : ∀ y, y ∈ ys → y.cells.length = sz) :
    (ys = [] ∧ ∃ ad c, u = .slice ad 0 c) ∨ ∃ ad c news, u = .slice (some ad) ys.length c ∧ ElemsW w I loc sz ys news ∧ ∀ j v, news[j]? = some v → w.cell? (ad.add j) = some v := by
  have mk : ∀ (n : Nat) (C : Nat → Nat → Value) (b off : Nat), (∀ i j, i < ys.length → j < sz → w.cell? ⟨b, off + i * sz + j, none⟩ = some (C i j)) → (∀ i (h : i < ys.length) j (hj : j < (ys[i]).cells.length), PR w I (ys[i]).cells[j] (C i j)) → 0 < sz →
      ∃ news, Elems w I sz ys news ∧ ∀ j v, news[j]? = some v → w.cell? ((⟨b, off, none⟩ : Addr).add j) = some v := by
    intro _ C b off h1 h2 h0
    refine ⟨(List.range (ys.length * sz)).map (fun k => C (k / sz) (k % sz)), ⟨by simp, fun i hi j hj h' => ?_⟩, fun j v hj => ?_⟩
    · simp only [List.getElem_map, List.getElem_range]
      have hjs : j < sz := by rw [← hsz _ (List.getElem_mem hi)]; exact hj
      have e1 : (i * sz + j) / sz = i := by rw [Nat.mul_comm, Nat.mul_add_div h0, Nat.div_eq_of_lt hjs]; omega
      have e2 : (i * sz + j) % sz = j := by rw [Nat.mul_comm, Nat.mul_add_mod]; exact Nat.mod_eq_of_lt hjs
      rw [e1, e2]; exact h2 i hi j hj
    · rw [List.getElem?_map] at hj
      by_cases hlt : j < ys.length * sz
      · rw [List.getElem?_range hlt] at hj
        simp at hj; subst hj
        rw [Q5]
        have hd : j / sz < ys.length := by rw [Nat.div_lt_iff_lt_mul h0]; exact hlt
        have hm := Nat.mod_lt j h0
        have := h1 (j / sz) (j % sz) hd hm
        have e : off + j / sz * sz + j % sz = off + j := by have := Nat.div_add_mod j sz; rw [Nat.mul_comm] at this; omega
        rw [e] at this; exact this
      · rw [List.getElem?_eq_none (by simp; omega)] at hj; cases hj
  unfold l6 at h
  split at h
  · rename_i xs
    simp at h; obtain ⟨rfl, rfl⟩ := h
    have hp := hx.toPR (.list _)
    cases hp with
    | nil ad c => exact .inl ⟨rfl, ad, c, rfl⟩
    | list b off cap sz' _ C hb hs0 hc hl hcell hr =>
      by_cases hemp : xs = []
      · subst hemp; exact .inl ⟨rfl, _, _, rfl⟩
      · have hpos : 0 < xs.length := List.length_pos_iff.2 hemp
        have : sz' = sz := by rw [← hl 0 hpos]; exact hsz _ (List.getElem_mem hpos)
        subst this
        obtain ⟨news, g1, g2⟩ := mk 0 C b off hcell hr hs0
        exact .inr ⟨_, _, news, rfl, g1.toW, g2⟩
  · rename_i o sz' off len
    cases hA : σ.obj o with
    | row sz'' xs =>
      simp only [hA] at h
      split at h
      · rename_i hc
        obtain ⟨rfl, rfl, hle⟩ := hc
        simp at h; obtain ⟨rfl, rfl⟩ := h
        have ho := hs.objs o
        rw [hA] at ho
        have hlist := zGc (I' := fun b => I b ∨ ∃ c, loc o = .blk b c) hx ho hle (fun b hb => .inl hb) (fun b c e => .inr ⟨c, e⟩)
        have hlen : ((xs.drop off).take len).length = len := by simp; omega
        obtain ⟨h0, hcl, ho⟩ := ho
        cases hx with
        | pure hx => cases hx
        | ownN _ _ hn => exact .inl ⟨by simp, _, _, rfl⟩
        | own _ _ _ _ b c ad cap hl g1 g2 g3 =>
          by_cases hz : len = 0
          · subst hz; exact .inl ⟨by simp, _, _, rfl⟩
          · have := g3 (by omega); subst this
            rcases ho with ⟨h1, _⟩ | ⟨b', C, e, h1, h2, h3, h4⟩
            · rw [hl] at h1; cases h1
            · rw [hl] at h1; cases h1
              have hcb : ∀ i j, i < len → j < sz'' → off * sz'' + i * sz'' + j < C.size := fun i j hi hj => by
                have : (off + i + 1) * sz'' ≤ xs.length * sz'' := Nat.mul_le_mul_right _ (by omega)
                have e1 : (off + i + 1) * sz'' = off * sz'' + i * sz'' + sz'' := by rw [Nat.add_mul, Nat.add_mul]; omega
                omega
              obtain ⟨news, q1, q2⟩ := mk 0 (fun i j => C.getD (off * sz'' + i * sz'' + j) undef) b (off * sz'')
                (fun i j hi hj => by
                  have := hcb i j (by omega) hj
                  rw [U7 h2 this]; simp [this])
                (fun i hi j hj => by
                  have hi' : i < len := by omega
                  have hj' : j < (xs[off + i]'(by omega)).cells.length := by simpa only [List.getElem_take, List.getElem_drop] using hj
                  have hjs : j < sz'' := by rw [← hcl (off + i) (by omega)]; exact hj'
                  have hcb' := hcb i j hi' hjs
                  have e2 : (off + i) * sz'' + j = off * sz'' + i * sz'' + j := by rw [Nat.add_mul]
                  have := h4 (off + i) (by omega) j hj' (by rw [e2]; exact hcb')
                  simp only [e2] at this
                  have e3 : C.getD (off * sz'' + i * sz'' + j) undef = C[off * sz'' + i * sz'' + j] := by simp [hcb']
                  rw [e3]
                  simpa only [List.getElem_take, List.getElem_drop] using this) h0
              refine .inr ⟨_, cap, news, ?_, q1.toW, q2⟩
              rw [hlen]
      · cases h
    | box cs =>
      simp only [hA] at h
      split at h
      · rename_i hc
        obtain ⟨rfl, rfl, hle, hall⟩ := hc
        simp only [Option.some.injEq, Prod.mk.injEq] at h; obtain ⟨rfl, rfl⟩ := h
        have ho := hs.objs o
        rw [hA] at ho
        have hlen : ((cs.drop off).take len).length = len := by simp; omega
        cases hx with
        | pure hx => cases hx
        | ownN _ _ hn => exact .inl ⟨by simp, _, _, rfl⟩
        | own _ _ _ _ b c ad cap hl g1 g2 g3 =>
          by_cases hz : len = 0
          · subst hz; exact .inl ⟨by simp, _, _, rfl⟩
          · have := g3 (by omega); subst this
            rcases ho with ⟨h1, _⟩ | ⟨b', C, e, h1, h2, h3, h4⟩
            · rw [hl] at h1; cases h1
            · rw [hl] at h1; cases h1
              refine .inr ⟨(⟨b, off * 1, none⟩ : Addr), cap, (List.range len).map (fun i => C.getD (off + i) undef), ?_, ?_, fun j v hj => ?_⟩
              · rw [hlen]
              · refine ⟨by simp [hlen], fun i hi j hj hz => ?_⟩
                have hi' : i < len := by omega
                obtain ⟨g0, e1⟩ := AV.cells_zero (List.all_eq_true.1 hall _ (List.getElem_mem hi))
                have hj0 : j = 0 := by
                  have := hsz _ (List.getElem_mem hi)
                  omega
                subst hj0
                rw [e1]
                have hC : off + i < C.size := by omega
                have hv := h4 (off + i) (by omega) hC
                have e2 : ((List.range len).map (fun i => C.getD (off + i) undef))[i * 1 + 0]'hz = C[off + i] := by simp [hC]
                rw [e2]
                have e3 : ((cs.drop off).take len)[i] = cs[off + i]'(by omega) := by simp
                rw [e3]; exact hv
              · rw [List.getElem?_map] at hj
                by_cases hlt : j < len
                · rw [List.getElem?_range hlt] at hj
                  simp only [Option.map_some, Option.some.injEq] at hj; subst hj
                  have hC : off + j < C.size := by omega
                  rw [Q5, show off * 1 + j = off + j by omega, U7 h2 hC]
                  simp [hC]
                · rw [List.getElem?_eq_none (by simp; omega)] at hj; cases hj
      · cases h
    | _ => simp [hA] at h
  · simp at h; obtain ⟨rfl, rfl⟩ := h
    have e := hx.raw_eq; subst e
    exact .inl ⟨rfl, _, _, rfl⟩
  · cases h
end
end Go.Abs

