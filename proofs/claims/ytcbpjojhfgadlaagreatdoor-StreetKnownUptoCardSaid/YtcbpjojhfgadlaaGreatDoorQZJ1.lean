/-
  WHAT THE PROOF STANDS ON, PART 1: contracts of the program's functions and the logic that they are proved in. No condition.
-/
import Derived.WalkKit
import Derived.Deep.LoopGhost
import Derived.Deep.Quiet
import Derived.Maps.Keyed
import Derived.Deep.AppendSrc
set_option maxRecDepth 100000
set_option maxHeartbeats 4000000
set_option linter.unusedVariables false
set_option linter.unusedSimpArgs false
set_option linter.unusedSectionVars false
namespace Go.Abs
open Go
inductive AV where
 | any
 | raw (v : Value)
 | list (xs : List AV)
 | agg (cs : List AV)
 | elt (x : AV)
 | tup (vs : List AV)
 | ptr (o off : Nat)
 | eptr (o sz i off : Nat)
 | own (o sz off len : Nat)
 | fn (f : FuncId) (caps : List AV)
 | mp (o : Nat)
 | fmap (ks : List Value) (xs : List AV)
 | yld (o : Nat)
 | ifp (t : TypeId) (o off : Nat)
 deriving Inhabited
def AV.cells : AV → List AV
 | .agg cs => cs
 | a => [a]
def AV.one : AV → Bool
 | .any | .agg _ | .tup _ => false
 | _ => true
def AV.flat : AV → Bool
 | .agg _ | .tup _ => false
 | _ => true
def e8 (ks : List Value) (n : Nat) (es : List MapEntry) (clock : Nat) : Prop :=
 ks.length = n ∧ n = es.length ∧ ks.Nodup ∧ (es.map (·.key)).Nodup ∧ es.Pairwise (fun x y => x.born < y.born) ∧ ∀ e, e ∈ es → e.born < clock
def MapVals (R : AV → Value → Prop) (ks : List Value) (xs : List AV) (es : List MapEntry) : Prop :=
 ∀ i (h : i < ks.length) (h' : i < xs.length), ∃ e, e ∈ es ∧ e.key = ks[i] ∧ R xs[i] e.val
theorem MapVals.imp {R S : AV → Value → Prop} {ks : List Value} {xs : List AV} {es : List MapEntry} (hm : MapVals R ks xs es) (h : ∀ i (h : i < xs.length) v, R xs[i] v → S xs[i] v) : MapVals S ks xs es := fun i hi hi' =>
 let ⟨e, h1, h2, h3⟩ := hm i hi hi'
 ⟨e, h1, h2, h i hi' _ h3⟩
inductive PR (w : World) (I : Nat → Prop) : AV → Value → Prop
  | any (v : Value) : PR w I .any v
  | raw (v : Value) : v.oneCell' = true → PR w I (.raw v) v
  | nil (a : Option Addr) (cap : Nat) : PR w I (.list []) (.slice a 0 cap)
  | list (b off cap sz : Nat) (xs : List AV) (C : Nat → Nat → Value) : I b → 0 < sz → xs.length ≤ cap →
      (∀ i (h : i < xs.length), (xs[i]).cells.length = sz) →
      (∀ i j, i < xs.length → j < sz → w.cell? ⟨b, off + i * sz + j, none⟩ = some (C i j)) →
      (∀ i (h : i < xs.length) j (hj : j < (xs[i]).cells.length), PR w I ((xs[i]).cells[j]) (C i j)) →
      PR w I (.list xs) (.slice (some ⟨b, off, none⟩) xs.length cap)
  | agg (cs : List AV) (vs : Array Value) : cs.length = vs.size → (∀ i (h : i < cs.length) (h' : i < vs.size), PR w I cs[i] vs[i]) → PR w I (.agg cs) (.agg vs)
  | elt (b off : Nat) (x : AV) (C : Nat → Value) : I b → (∀ j, j < x.cells.length → w.cell? ⟨b, off + j, none⟩ = some (C j)) →
      (∀ j (hj : j < x.cells.length), PR w I (x.cells[j]) (C j)) → PR w I (.elt x) (.pointer (some ⟨b, off, none⟩))
  | nmap : PR w I (.fmap [] []) (.map none)
  | fmap (b : Nat) (es : Array MapEntry) (clock : Nat) (ks : List Value) (xs : List AV) (V : Nat → Value) : I b → w.heap[b]? = some (.map es clock) → e8 ks xs.length es.toList clock →
      (∀ i (h : i < ks.length), ∃ e, e ∈ es.toList ∧ e.key = ks[i] ∧ e.val = V i) → (∀ i (h : i < xs.length), PR w I xs[i] (V i)) → PR w I (.fmap ks xs) (.map (some b))
inductive Loc where
 | un
 | nil
 | blk (b c : Nat)
inductive VR (w : World) (I : Nat → Prop) (loc : Nat → Loc) : AV → Value → Prop
  | pure {a : AV} {v : Value} : PR w I a v → VR w I loc a v
  | agg (cs : List AV) (vs : Array Value) : cs.length = vs.size → (∀ i (h : i < cs.length) (h' : i < vs.size), VR w I loc cs[i] vs[i]) → VR w I loc (.agg cs) (.agg vs)
  | tup (cs : List AV) (vs : Array Value) : cs.length = vs.size → (∀ i (h : i < cs.length) (h' : i < vs.size), VR w I loc cs[i] vs[i]) → VR w I loc (.tup cs) (.tuple vs)
  | ptr (o off b c : Nat) : loc o = .blk b c → VR w I loc (.ptr o off) (.pointer (some ⟨b, off, none⟩))
  | eptr (o sz i off b c : Nat) : loc o = .blk b c → VR w I loc (.eptr o sz i off) (.pointer (some ⟨b, i * sz + off, none⟩))
  | ownN (o sz : Nat) : loc o = .nil → VR w I loc (.own o sz 0 0) (.slice none 0 0)
  | own (o sz off len b c : Nat) (a : Addr) (cap : Nat) : loc o = .blk b c → len ≤ cap → (off + cap) * sz ≤ c → (0 < cap → a = ⟨b, off * sz, none⟩) →
      VR w I loc (.own o sz off len) (.slice (some a) len cap)
  | fn (f : FuncId) (caps : List AV) (vs : Array Value) : caps.length = vs.size → (∀ i (h : i < caps.length) (h' : i < vs.size), VR w I loc caps[i] vs[i]) →
      VR w I loc (.fn f caps) (.func (.func f) #[] vs)
  | mp (o b c : Nat) : loc o = .blk b c → VR w I loc (.mp o) (.map (some b))
  | yld (o b c : Nat) : loc o = .blk b c → VR w I loc (.yld o) (.func (.yield b) #[] #[])
  | ifp (t : TypeId) (o off b c : Nat) : loc o = .blk b c → VR w I loc (.ifp t o off) (.iface t (.pointer (some ⟨b, off, none⟩)))
structure LoopK where
 fn : FuncId
 params : Array Tmp
 assign : Code
 body : Code
 n : Nat
inductive AObj where
 | unb
 | dead
 | box (cs : List AV)
 | row (sz : Nat) (xs : List AV)
 | mapo (ks : List Value) (xs : List AV)
 | iter (cur : Option (Value × AV)) (ks : List Value) (xs : List AV)
 | siter (s : ByteArray) (pos : Nat)
 | tbox (e : TypeId) (cs : List AV)
 | brow (e : TypeId) (l : List UInt8)
 | loopo (L : LoopK) (env : List (Nat × AV)) (pend : Option (Option Code))
 deriving Inhabited
def AObj.live : AObj → Bool
 | .unb | .dead => false
 | _ => true
def lkV : List (Nat × AV) → Nat → AV
 | [], _ => .any
 | (k, v) :: r, t => if k = t then v else lkV r t
def lkO : List (Nat × AObj) → Nat → AObj
 | [], _ => .unb
 | (k, v) :: r, t => if k = t then v else lkO r t
structure AS where
 n : Nat
 env : List (Nat × AV)
 objs : List (Nat × AObj)
def AS.get (σ : AS) (t : Nat) : AV := lkV σ.env t
def AS.obj (σ : AS) (o : Nat) : AObj := lkO σ.objs o
def AS.put (σ : AS) (t : Nat) (v : AV) : AS := { σ with env := (t, v) :: σ.env }
def AS.setO (σ : AS) (o : Nat) (A : AObj) : AS := { σ with objs := (o, A) :: σ.objs }
theorem AS.get_put (σ : AS) (t : Nat) (v : AV) (u : Nat) : (σ.put t v).get u = if t = u then v else σ.get u := rfl
theorem AS.obj_setO (σ : AS) (o : Nat) (A : AObj) (u : Nat) : (σ.setO o A).obj u = if o = u then A else σ.obj u := rfl
def OR (w : World) (I : Nat → Prop) (loc : Nat → Loc) (o : Nat) : AObj → Prop
  | .unb => loc o = .un
  | .dead => True
  | .box cs => (loc o = .nil ∧ cs = []) ∨ ∃ b C e, loc o = .blk b C.size ∧ w.heap[b]? = some (.cells C e (0, 0)) ∧ cs.length ≤ C.size ∧ ∀ i (h : i < cs.length) (h' : i < C.size), VR w I loc cs[i] C[i]
  | .row sz xs => 0 < sz ∧ (∀ i (h : i < xs.length), (xs[i]).cells.length = sz) ∧
      ((loc o = .nil ∧ xs = []) ∨ ∃ b C e, loc o = .blk b C.size ∧ w.heap[b]? = some (.cells C e (0, 0)) ∧ xs.length * sz ≤ C.size ∧
        ∀ i (h : i < xs.length) j (hj : j < (xs[i]).cells.length) (h' : i * sz + j < C.size), PR w I ((xs[i]).cells[j]) C[i * sz + j])
  | .mapo ks xs => ∃ b es clock, loc o = .blk b 0 ∧ w.heap[b]? = some (.map es clock) ∧ e8 ks xs.length es.toList clock ∧ MapVals (PR w I) ks xs es.toList
  | .iter cur ks xs => ∃ b, loc o = .blk b 0 ∧ ((∃ s seen l, w.heap[b]? = some (.mapIter none s seen l) ∧ cur = none ∧ ks = [] ∧ xs = []) ∨
      ∃ m es clock seen, w.heap[b]? = some (.mapIter (some m) clock seen clock) ∧ I m ∧ w.heap[m]? = some (.map es clock) ∧ e8 (es.toList.map (·.key)) es.size es.toList clock ∧
        e8 ks xs.length (es.toList.filter (fun e => !seen.contains e.born)) clock ∧ MapVals (PR w I) ks xs (es.toList.filter (fun e => !seen.contains e.born)) ∧
        ∀ p, cur = some p → ∃ e, e ∈ es.toList ∧ seen.back? = some e.born ∧ e.key = p.1 ∧ PR w I p.2 e.val)
  | .siter s pos => ∃ b, loc o = .blk b 0 ∧ w.heap[b]? = some (.stringIter s pos)
  | .brow e l => (loc o = .nil ∧ l = []) ∨ ∃ b C, loc o = .blk b C.size ∧ w.heap[b]? = some (.cells C e (0, 0)) ∧ C.toList.take l.length = l.map fun c => Value.int .u8 c.toNat
  | .tbox e cs => ∃ b C, loc o = .blk b C.size ∧ w.heap[b]? = some (.cells C e (0, 0)) ∧ (C[0]? = some (.pointer none) ∨ C[0]? = some (.pointer (some ⟨b, 0, none⟩))) ∧ cs.length = C.size ∧ ∀ i (h : i < cs.length) (h' : i < C.size), VR w I loc cs[i] C[i]
  | .loopo L env pend => ∃ b tmps ds, loc o = .blk b 0 ∧ w.heap[b]? = some (.loop { state := (match pend with | none => .busy | some none => .ready | some (some _) => .done), pending := pend.getD none, fn := L.fn, tmps := tmps, params := L.params, assign := L.assign, body := L.body, defers := ds }) ∧ tmps.size = L.n ∧ ∀ t, VR w I loc (lkV env t) (tmps.getD t undef)
structure Env where
 w0 : World
 I0 : Nat → Prop
 n : Nat
 loc0 : Nat → Loc
def Env.fp (E : Env) (b : Nat) : Prop := ∃ k c, k < E.n ∧ E.loc0 k = .blk b c
def S6 : Prop := True
def I3 : List (Nat × Value) := [(0, Value.iface 179 (.agg #[.pointer (some ⟨4, 102, none⟩)]))]
abbrev BYT : TypeId := 37
def zA8 (E : Env) : Prop := ∀ p, p ∈ I3 → E.w0.cell? ⟨p.1, 0, none⟩ = some p.2 ∧ ¬ E.fp p.1
structure Fr (E : Env) (w : World) : Prop where
 os : w.os = E.w0.os
 tape : w.tape = E.w0.tape
 output : w.output = E.w0.output
 size : E.w0.heap.size ≤ w.heap.size
 block : ∀ b, b < E.w0.heap.size → ¬ E.fp b → w.heap[b]? = E.w0.heap[b]?
 drawn : S6 → E.w0.drawn ≤ w.drawn
 laid : zA8 E
def Marks (E : Env) (I : Nat → Prop) (loc : Nat → Loc) (σ : AS) (ds : List Deferred) (w : World) : Prop :=
 (ds.map (·.target)).Nodup ∧ ∀ d, d ∈ ds → ∃ r, d = { target := .collected r, args := #[] } ∧ w.heap[r]? = some (.deferred (some [])) ∧ ¬ I r ∧ E.w0.heap.size ≤ r ∧ ∀ o c, (σ.obj o).live = true → loc o ≠ .blk r c
theorem Marks.nil {E : Env} {I : Nat → Prop} {loc : Nat → Loc} {σ : AS} {w : World} : Marks E I loc σ [] w := ⟨List.nodup_nil, fun d h => by simp at h⟩
theorem Marks.imp {E E' : Env} {I I' : Nat → Prop} {loc loc' : Nat → Loc} {σ σ' : AS} {ds : List Deferred} {w w' : World} (h : Marks E I loc σ ds w)
  (hw : ∀ r, w.heap[r]? = some (.deferred (some [])) → ¬ I r → E.w0.heap.size ≤ r → (∀ o c, (σ.obj o).live = true → loc o ≠ .blk r c) → w'.heap[r]? = some (.deferred (some [])) ∧ ¬ I' r ∧ E'.w0.heap.size ≤ r ∧ ∀ o c, (σ'.obj o).live = true → loc' o ≠ .blk r c) : Marks E' I' loc' σ' ds w' :=
 ⟨h.1, fun d hd => by
  obtain ⟨r, h1, h2, h3, h4, h5⟩ := h.2 d hd
  exact ⟨r, h1, hw r h2 h3 h4 h5⟩⟩
structure SR (E : Env) (I : Nat → Prop) (loc : Nat → Loc) (σ : AS) (a : Act) (w : World) : Prop where
 defers : Marks E I loc σ a.defers w
 size : a.tmps.size = σ.n
 tmps : ∀ t, VR w I loc (σ.get t) (a.tmps.getD t undef)
 objs : ∀ o, OR w I loc o (σ.obj o)
 inj : ∀ o o' b c c', (σ.obj o).live = true → (σ.obj o').live = true → loc o = .blk b c → loc o' = .blk b c' → o = o'
 imm : ∀ b, I b → b < w.heap.size
 sep : ∀ o b c, (σ.obj o).live = true → loc o = .blk b c → ¬ I b ∧ (b < E.w0.heap.size → E.fp b)
 fr : Fr E w
 base : ∀ b, E.I0 b → I b
 top : ∀ b, I b → E.I0 b ∨ E.w0.heap.size ≤ b ∨ E.fp b
 keep : ∀ k, k < E.n → loc k = E.loc0 k ∧ loc k ≠ .un
def St (E : Env) (σ : AS) (a : Act) (w : World) : Prop := ∃ I loc, SR E I loc σ a w
theorem I9 {w w' : World} {b : Nat} (h : w'.heap[b]? = w.heap[b]?) (off : Nat) : w'.cell? ⟨b, off, none⟩ = w.cell? ⟨b, off, none⟩ := by simp [World.cell?, h]
theorem PR.mono {w w' : World} {I I' : Nat → Prop} (hw : ∀ b, I b → w'.heap[b]? = w.heap[b]?) (hI : ∀ b, I b → I' b) {a : AV} {v : Value} (h : PR w I a v) : PR w' I' a v := by
 induction h with
 | any v => exact .any v
 | raw v h => exact .raw v h
 | nil a cap => exact .nil a cap
 | list b off cap sz xs C hb hs hc hl hcell _ ih =>
  exact .list b off cap sz xs C (hI _ hb) hs hc hl (fun i j hi hj => (I9 (hw b hb) _).trans (hcell i j hi hj)) ih
 | agg cs vs hl _ ih => exact .agg cs vs hl ih
 | elt b off x C hb hcell _ ih => exact .elt b off x C (hI _ hb) (fun j hj => (I9 (hw b hb) _).trans (hcell j hj)) ih
 | nmap => exact .nmap
 | fmap b es clock ks xs V hb hh hm hv _ ih => exact .fmap b es clock ks xs V (hI _ hb) ((hw b hb).trans hh) hm hv ih
theorem VR.mono {w w' : World} {I I' : Nat → Prop} {loc loc' : Nat → Loc} (hw : ∀ b, I b → w'.heap[b]? = w.heap[b]?) (hI : ∀ b, I b → I' b)
  (hl : ∀ o, loc o ≠ .un → loc' o = loc o) {a : AV} {v : Value} (h : VR w I loc a v) : VR w' I' loc' a v := by
 have hk : ∀ {o l}, loc o = l → l ≠ .un → loc' o = l := fun {o l} e hne => (hl o (e ▸ hne)).trans e
 induction h with
 | pure h => exact .pure (h.mono hw hI)
 | agg cs vs h _ ih => exact .agg cs vs h ih
 | tup cs vs h _ ih => exact .tup cs vs h ih
 | ptr o off b c h => exact .ptr o off b c (hk h (by simp))
 | eptr o sz i off b c h => exact .eptr o sz i off b c (hk h (by simp))
 | ownN o sz h => exact .ownN o sz (hk h (by simp))
 | own o sz off len b c a cap h h1 h2 h3 => exact .own o sz off len b c a cap (hk h (by simp)) h1 h2 h3
 | fn f caps vs h _ ih => exact .fn f caps vs h ih
 | mp o b c h => exact .mp o b c (hk h (by simp))
 | yld o b c h => exact .yld o b c (hk h (by simp))
 | ifp t o off b c h => exact .ifp t o off b c (hk h (by simp))
theorem OR.mono {w w' : World} {I I' : Nat → Prop} {loc loc' : Nat → Loc} {o : Nat} {A : AObj} (hw : ∀ b, I b → w'.heap[b]? = w.heap[b]?) (hI : ∀ b, I b → I' b)
    (hl : ∀ o, loc o ≠ .un → loc' o = loc o) (hun : A = .unb → loc' o = .un) (hb : A.live = true → ∀ b c, loc o = .blk b c → w'.heap[b]? = w.heap[b]?) (h : OR w I loc o A) : OR w' I' loc' o A := by
  cases A with
  | unb => exact hun rfl
  | dead => exact trivial
  | mapo ks xs =>
    obtain ⟨b, es, clock, h1, h2, h3, h4⟩ := h
    exact ⟨b, es, clock, (hl o (by simp [h1])).trans h1, (hb rfl b _ h1).trans h2, h3, h4.imp (fun i h v hv => hv.mono hw hI)⟩
  | iter cur ks xs =>
    obtain ⟨b, h1, h⟩ := h
    refine ⟨b, (hl o (by simp [h1])).trans h1, ?_⟩
    rcases h with ⟨s, seen, l, h2, h3⟩ | ⟨m, es, clock, seen, h2, h3, h4, h5, h6, h7, h8⟩
    · exact .inl ⟨s, seen, l, (hb rfl b _ h1).trans h2, h3⟩
    · exact .inr ⟨m, es, clock, seen, (hb rfl b _ h1).trans h2, hI _ h3, (hw m h3).trans h4, h5, h6, h7.imp (fun i h v hv => hv.mono hw hI), fun p hp => by
        obtain ⟨e, g1, g2, g3, g4⟩ := h8 p hp
        exact ⟨e, g1, g2, g3, g4.mono hw hI⟩⟩
  | siter s pos =>
    obtain ⟨b, h1, h2⟩ := h
    exact ⟨b, (hl o (by simp [h1])).trans h1, (hb rfl b _ h1).trans h2⟩
  | brow e l =>
    rcases h with ⟨h1, h2⟩ | ⟨b, C, h1, h2, h3⟩
    · exact .inl ⟨(hl o (by simp [h1])).trans h1, h2⟩
    · exact .inr ⟨b, C, (hl o (by simp [h1])).trans h1, (hb rfl b _ h1).trans h2, h3⟩
  | tbox e cs =>
    obtain ⟨b, C, h1, h2, h0, h3, h4⟩ := h
    exact ⟨b, C, (hl o (by simp [h1])).trans h1, (hb rfl b _ h1).trans h2, h0, h3, fun i h h' => (h4 i h h').mono hw hI hl⟩
  | loopo L env pend =>
    obtain ⟨b, tmps, ds, h1, h2, h3, h4⟩ := h
    exact ⟨b, tmps, ds, (hl o (by simp [h1])).trans h1, (hb rfl b _ h1).trans h2, h3, fun t => (h4 t).mono hw hI hl⟩
  | box cs =>
    rcases h with ⟨h1, h2⟩ | ⟨b, C, e, h1, h2, h3, h4⟩
    · exact .inl ⟨(hl o (by simp [h1])).trans h1, h2⟩
    · exact .inr ⟨b, C, e, (hl o (by simp [h1])).trans h1, (hb rfl b _ h1).trans h2, h3, fun i h h' => (h4 i h h').mono hw hI hl⟩
  | row sz xs =>
    obtain ⟨h0, hx, h⟩ := h
    refine ⟨h0, hx, ?_⟩
    rcases h with ⟨h1, h2⟩ | ⟨b, C, e, h1, h2, h3, h4⟩
    · exact .inl ⟨(hl o (by simp [h1])).trans h1, h2⟩
    · exact .inr ⟨b, C, e, (hl o (by simp [h1])).trans h1, (hb rfl b _ h1).trans h2, h3, fun i h j hj h' => (h4 i h j hj h').mono hw hI⟩
theorem Fr.of_same {E : Env} {w w' : World} (h : Fr E w) (h1 : w'.os = w.os) (h2 : w'.tape = w.tape) (h3 : w'.output = w.output) (h4 : w.heap.size ≤ w'.heap.size)
  (h5 : ∀ b, b < E.w0.heap.size → ¬ E.fp b → w'.heap[b]? = w.heap[b]?) (h6 : S6 → w.drawn ≤ w'.drawn := by first | exact fun _ => Nat.le_refl _ | exact fun _ => Nat.le_succ _) : Fr E w' :=
 ⟨h1.trans h.os, h2.trans h.tape, h3.trans h.output, Nat.le_trans h.size h4, fun b hb hf => (h5 b hb hf).trans (h.block b hb hf), fun m => Nat.le_trans (h.drawn m) (h6 m), h.laid⟩
section
variable {E : Env} {I : Nat → Prop} {loc : Nat → Loc} {σ : AS} {a : Act} {w : World}
theorem SR.put (h : SR E I loc σ a w) {t : Nat} {v : AV} {x : Value} (hv : VR w I loc v x) (ht : t < σ.n) : SR E I loc (σ.put t v) (a.put (some t) x) w := by
 refine ⟨h.defers, by simpa [Act.put, AS.put] using h.size, fun u => ?_, h.objs, h.inj, h.imm, h.sep, h.fr, h.base, h.top, h.keep⟩
 rw [AS.get_put]
 by_cases e : t = u
 ·subst e
  rw [if_pos rfl]
  have : (a.put (some t) x).tmps.getD t undef = x := by
   have ht' : t < a.tmps.size := by rw [h.size]; exact ht
   simp [Act.put, ht']
  rw [this]; exact hv
 ·rw [if_neg e]
  have : (a.put (some t) x).tmps.getD u undef = a.tmps.getD u undef := by
   simp [Act.put, Array.getElem?_setIfInBounds, e]
  rw [this]; exact h.tmps u
theorem SR.heap {w' : World} (h : SR E I loc σ a w) (h1 : w'.os = w.os) (h2 : w'.tape = w.tape) (h3 : w'.output = w.output) (h4 : w'.heap = w.heap) (h5 : S6 → w.drawn ≤ w'.drawn := by first | exact fun _ => Nat.le_refl _ | exact fun _ => Nat.le_succ _) : SR E I loc σ a w' := by
 refine ⟨h.defers.imp (fun r g1 g2 g3 g4 => ⟨by rw [h4]; exact g1, g2, g3, g4⟩), h.size, fun t => (h.tmps t).mono (fun b _ => by rw [h4]) (fun _ hb => hb) (fun _ _ => rfl), fun o => (h.objs o).mono (fun b _ => by rw [h4]) (fun _ hb => hb) (fun _ _ => rfl) (fun e => by have := h.objs o; rw [e] at this; exact this) (fun _ b c _ => by rw [h4]), h.inj, fun b hb => by rw [h4]; exact h.imm b hb, h.sep, h.fr.of_same h1 h2 h3 (by rw [h4]; exact Nat.le_refl _) (fun b _ _ => by rw [h4]) h5, h.base, h.top, h.keep⟩
end
end Go.Abs

namespace Go.Abs
open Go Go.RowKit
theorem OR.lt {w : World} {I : Nat → Prop} {loc : Nat → Loc} {o : Nat} {A : AObj} (h : OR w I loc o A) (hl : A.live = true) {b c : Nat} (e : loc o = .blk b c) : b < w.heap.size := by
 have hs : ∀ {b : Nat} {x : Obj}, w.heap[b]? = some x → b < w.heap.size := fun h => (Array.getElem?_eq_some_iff.1 h).1
 cases A with
 | unb => simp [AObj.live] at hl
 | dead => simp [AObj.live] at hl
 | mapo ks xs =>
  obtain ⟨b', C, t, h1, h2, _⟩ := h
  rw [h1] at e; cases e; exact hs h2
 | iter cur ks xs =>
  obtain ⟨b', h1, ⟨_, _, _, h2, _⟩ | ⟨_, _, _, _, h2, _⟩⟩ := h
  ·rw [h1] at e; cases e; exact hs h2
  ·rw [h1] at e; cases e; exact hs h2
 | siter s pos =>
  obtain ⟨b', h1, h2⟩ := h
  rw [h1] at e; cases e; exact hs h2
 | brow t l =>
  obtain h | ⟨b', C, h1, h2, _⟩ := h
  ·rw [h.1] at e; cases e
  ·rw [h1] at e; cases e; exact hs h2
 | tbox t cs =>
  obtain ⟨b', C, h1, h2, _⟩ := h
  rw [h1] at e; cases e; exact hs h2
 | loopo L env pend =>
  obtain ⟨b', _, _, h1, h2, _⟩ := h
  rw [h1] at e; cases e; exact hs h2
 | box cs =>
  obtain h | ⟨b', C, t, h1, h2, _⟩ := h
  ·rw [h.1] at e; cases e
  ·rw [h1] at e; cases e; exact hs h2
 | row sz xs =>
  obtain ⟨_, _, h | ⟨b', C, t, h1, h2, _⟩⟩ := h
  ·rw [h.1] at e; cases e
  ·rw [h1] at e; cases e; exact hs h2
theorem r6 (w : World) (o : Obj) (b : Nat) (h : b < w.heap.size) : (w.alloc o).heap[b]? = w.heap[b]? := Below.heap_alloc w o b h
section
variable {E : Env} {I : Nat → Prop} {loc : Nat → Loc} {σ : AS} {a : Act} {w : World}
def q7 (loc : Nat → Loc) (k : Nat) (L : Loc) : Nat → Loc := fun o => if o = k then L else loc o
theorem SR.un (h : SR E I loc σ a w) {o : Nat} (ho : σ.obj o = .unb) : loc o = .un := by
 have := h.objs o; rw [ho] at this; exact this
theorem SR.born (h : SR E I loc σ a w) {nx : Nat} (hn : σ.obj nx = .unb) {A : AObj} (ob : Obj) {c : Nat}
  (hA : OR (w.alloc ob) I (q7 loc nx (.blk w.heap.size c)) nx A) : SR E I (q7 loc nx (.blk w.heap.size c)) (σ.setO nx A) a (w.alloc ob) := by
 have hun := h.un hn
 have hloc : ∀ o, loc o ≠ .un → q7 loc nx (.blk w.heap.size c) o = loc o := fun o ho => by
  unfold q7; rw [if_neg]; intro e; subst e; exact ho hun
 have hI : ∀ b, I b → (w.alloc ob).heap[b]? = w.heap[b]? := fun b hb => r6 _ _ _ (h.imm b hb)
 have hmk : Marks E I (q7 loc nx (.blk w.heap.size c)) (σ.setO nx A) a.defers (w.alloc ob) := h.defers.imp (fun r g1 g2 g3 g4 => by
  have hr : r < w.heap.size := (Array.getElem?_eq_some_iff.1 g1).1
  refine ⟨by rw [r6 _ _ _ hr]; exact g1, g2, g3, fun o c' hl e => ?_⟩
  rw [AS.obj_setO] at hl
  unfold q7 at e
  by_cases e' : nx = o
  ·rw [if_pos e'.symm] at e; cases e; omega
  ·rw [if_neg e'] at hl
   rw [if_neg (fun x => e' x.symm)] at e
   exact g4 o c' hl e)
 refine ⟨hmk, h.size, fun t => (h.tmps t).mono hI (fun _ hb => hb) hloc, fun o => ?_, ?_, fun b hb => by have := h.imm b hb; simp; omega, ?_, ?_, h.base, h.top, fun k hk => by rw [hloc k (h.keep k hk).2]; exact h.keep k hk⟩
 ·rw [AS.obj_setO]
  by_cases e : nx = o
  ·subst e; rw [if_pos rfl]; exact hA
  ·rw [if_neg e]
   refine (h.objs o).mono hI (fun _ hb => hb) hloc (fun e' => ?_) (fun hl b c' hb => r6 _ _ _ ((h.objs o).lt hl hb))
   unfold q7; rw [if_neg (fun e' => e e'.symm)]; exact h.un e'
 ·intro o o' b c1 c2 hl hl' e1 e2
  rw [AS.obj_setO] at hl hl'
  by_cases e : nx = o
  ·by_cases e' : nx = o'
   ·rw [← e, ← e']
   ·rw [if_neg e'] at hl'
    subst e
    have hb : loc o' = .blk b c2 := by unfold q7 at e2; rwa [if_neg (fun x => e' x.symm)] at e2
    have := (h.objs o').lt hl' hb
    unfold q7 at e1; rw [if_pos rfl] at e1; cases e1; omega
  ·rw [if_neg e] at hl
   have hb : loc o = .blk b c1 := by unfold q7 at e1; rwa [if_neg (fun x => e x.symm)] at e1
   by_cases e' : nx = o'
   ·subst e'
    have := (h.objs o).lt hl hb
    unfold q7 at e2; rw [if_pos rfl] at e2; cases e2; omega
   ·rw [if_neg e'] at hl'
    have hb' : loc o' = .blk b c2 := by unfold q7 at e2; rwa [if_neg (fun x => e' x.symm)] at e2
    exact h.inj o o' b c1 c2 hl hl' hb hb'
 ·intro o b c1 hl e1
  rw [AS.obj_setO] at hl
  by_cases e : nx = o
  ·subst e
   unfold q7 at e1; rw [if_pos rfl] at e1; cases e1
   exact ⟨fun hi => by have := h.imm _ hi; omega, fun hlt => by have := h.fr.size; omega⟩
  ·rw [if_neg e] at hl
   have hb : loc o = .blk b c1 := by unfold q7 at e1; rwa [if_neg (fun x => e x.symm)] at e1
   exact h.sep o b c1 hl hb
 ·exact h.fr.of_same rfl rfl rfl (by simp) (fun b hb _ => r6 _ _ _ (by have := h.fr.size; omega))
theorem SR.writeG (h : SR E I loc σ a w) {o b : Nat} {c : Nat} (hl : (σ.obj o).live = true) (hb : loc o = .blk b c) {w' : World} (ho : w'.os = w.os) (ht : w'.tape = w.tape) (hu : w'.output = w.output)
  (hz : w'.heap.size = w.heap.size) (hk : ∀ k, k ≠ b → w'.heap[k]? = w.heap[k]?) {A : AObj} (hA : OR w' I loc o A) (hA1 : A ≠ .unb) (hd : S6 → w.drawn ≤ w'.drawn := by first | exact fun _ => Nat.le_refl _ | exact fun _ => Nat.le_succ _) : SR E I loc (σ.setO o A) a w' := by
 have hsep := h.sep o b c hl hb
 have hI : ∀ k, I k → w'.heap[k]? = w.heap[k]? := fun k hk' => hk k (fun e => hsep.1 (e ▸ hk'))
 have hmk : Marks E I loc (σ.setO o A) a.defers w' := h.defers.imp (fun r g1 g2 g3 g4 => by
  refine ⟨by rw [hk r (fun e => g4 o c hl (e ▸ hb))]; exact g1, g2, g3, fun o' c' hl' e => ?_⟩
  rw [AS.obj_setO] at hl'
  by_cases e' : o = o'
  ·subst e'; exact g4 o c' hl e
  ·rw [if_neg e'] at hl'; exact g4 o' c' hl' e)
 refine ⟨hmk, h.size, fun u => (h.tmps u).mono hI (fun _ x => x) (fun _ _ => rfl), fun o' => ?_, ?_, fun k hk => by rw [hz]; exact h.imm k hk, ?_, ?_, h.base, h.top, h.keep⟩
 ·rw [AS.obj_setO]
  by_cases e : o = o'
  ·subst e; rw [if_pos rfl]; exact hA
  ·rw [if_neg e]
   refine (h.objs o').mono hI (fun _ x => x) (fun _ _ => rfl) (fun e' => h.un e') (fun hl' k c' hk' => hk k (fun e' => ?_))
   subst e'
   exact e (h.inj o o' k c c' hl hl' hb hk')
 ·intro o1 o2 k c1 c2 h1 h2 e1 e2
  rw [AS.obj_setO] at h1 h2
  refine h.inj o1 o2 k c1 c2 ?_ ?_ e1 e2
  ·by_cases e : o = o1
   ·subst e; exact hl
   ·rwa [if_neg e] at h1
  ·by_cases e : o = o2
   ·subst e; exact hl
   ·rwa [if_neg e] at h2
 ·intro o1 k c1 h1 e1
  rw [AS.obj_setO] at h1
  refine h.sep o1 k c1 ?_ e1
  by_cases e : o = o1
  ·subst e; exact hl
  ·rwa [if_neg e] at h1
 ·refine h.fr.of_same ho ht hu (by rw [hz]; exact Nat.le_refl _) (fun k hk' hf => hk k (fun e => ?_)) hd
  subst e
  exact hf (hsep.2 hk')
theorem SR.write (h : SR E I loc σ a w) {o b : Nat} {C : Array Value} {t : TypeId} (hl : (σ.obj o).live = true) {c : Nat} (hb : loc o = .blk b c) (hheap : w.heap[b]? = some (.cells C t (0, 0))) {C' : Array Value} {A : AObj}
  (hA : OR (w.setRow b C') I loc o A) (hA1 : A ≠ .unb) : SR E I loc (σ.setO o A) a (w.setRow b C') :=
 h.writeG (w' := w.setRow b C') hl hb rfl rfl rfl (by simp) (fun k hk => setRow_other w b k C' hk) hA hA1
theorem SR.kill (h : SR E I loc σ a w) (o : Nat) : SR E I loc (σ.setO o .dead) a w := by
 have hl : ∀ {o1}, ((σ.setO o .dead).obj o1).live = true → (σ.obj o1).live = true := fun {o1} h1 => by
  rw [AS.obj_setO] at h1
  by_cases e : o = o1
  ·rw [if_pos e] at h1; simp [AObj.live] at h1
  ·rwa [if_neg e] at h1
 refine ⟨h.defers.imp (fun r g1 g2 g3 g4 => ⟨g1, g2, g3, fun o c h1 => g4 o c (hl h1)⟩), h.size, h.tmps, fun o' => ?_, fun o1 o2 k c1 c2 h1 h2 => h.inj o1 o2 k c1 c2 (hl h1) (hl h2), h.imm, fun o1 k c1 h1 => h.sep o1 k c1 (hl h1), h.fr, h.base, h.top, h.keep⟩
 rw [AS.obj_setO]
 by_cases e : o = o'
 ·rw [if_pos e]; exact trivial
 ·rw [if_neg e]; exact h.objs o'
end
inductive Pure : AV → Prop
 | any : Pure .any
 | raw (v : Value) : Pure (.raw v)
 | list (xs : List AV) : Pure (.list xs)
 | elt (x : AV) : Pure (.elt x)
 | fmap (ks : List Value) (xs : List AV) : Pure (.fmap ks xs)
 | agg (cs : List AV) : (∀ c, c ∈ cs → Pure c) → Pure (.agg cs)
theorem VR.toPR {w : World} {I : Nat → Prop} {loc : Nat → Loc} {a : AV} {v : Value} (h : VR w I loc a v) (hp : Pure a) : PR w I a v := by
 induction h with
 | pure h => exact h
 | agg cs vs h _ ih =>
  cases hp with
  | agg _ hc => exact .agg cs vs h (fun i h1 h2 => ih i h1 h2 (hc _ (List.getElem_mem h1)))
 | tup => cases hp
 | ptr => cases hp
 | eptr => cases hp
 | ownN => cases hp
 | own => cases hp
 | fn => cases hp
 | mp => cases hp
 | yld => cases hp
 | ifp => cases hp
def MPerm (ks : List Value) (xs : List AV) (ks' : List Value) (xs' : List AV) : Prop := (ks = ks' ∧ xs = xs') ∨ (ks.length = xs.length ∧ ks'.length = xs'.length ∧ (ks.zip xs).Perm (ks'.zip xs'))
theorem MPerm.refl (ks : List Value) (xs : List AV) : MPerm ks xs ks xs := .inl ⟨rfl, rfl⟩
theorem zDq {ks : List Value} {xs : List AV} (h : ks.length = xs.length) : (ks.zip xs).map Prod.fst = ks := List.map_fst_zip (by omega)
theorem MPerm.mem {ks ks' : List Value} {xs xs' : List AV} (h : MPerm ks xs ks' xs') {i : Nat} (hi : i < ks.length) (hi' : i < xs.length) : ∃ j, ∃ (hj : j < ks'.length) (hj' : j < xs'.length), ks'[j] = ks[i] ∧ xs'[j] = xs[i] := by
  rcases h with ⟨rfl, rfl⟩ | ⟨h1, h2, h3⟩
  · exact ⟨i, hi, hi', rfl, rfl⟩
  · have hm : (ks[i], xs[i]) ∈ ks.zip xs := by
      rw [List.mem_iff_getElem]
      exact ⟨i, by simp; omega, by simp⟩
    obtain ⟨j, hj, e⟩ := List.getElem_of_mem (h3.mem_iff.1 hm)
    simp at hj e
    exact ⟨j, by omega, by omega, e.1, e.2⟩
theorem MPerm.shape {ks ks' : List Value} {xs xs' : List AV} (h : MPerm ks xs ks' xs') {es : List MapEntry} {clock : Nat} (hs : e8 ks' xs'.length es clock) : e8 ks xs.length es clock := by
 rcases h with ⟨rfl, rfl⟩ | ⟨h1, h2, h3⟩
 ·exact hs
 ·have hl := h3.length_eq
  simp at hl
  have hn := (h3.map Prod.fst).nodup_iff
  rw [zDq h1, zDq h2] at hn
  obtain ⟨g1, g2, g3, g4⟩ := hs
  exact ⟨h1, by omega, hn.2 g3, g4⟩
theorem MPerm.vals {R : AV → Value → Prop} {ks ks' : List Value} {xs xs' : List AV} (h : MPerm ks xs ks' xs') {es : List MapEntry} (hv : MapVals R ks' xs' es) : MapVals R ks xs es := fun i hi hi' => by
 obtain ⟨j, hj, hj', e1, e2⟩ := h.mem hi hi'
 obtain ⟨e, g1, g2, g3⟩ := hv j hj hj'
 exact ⟨e, g1, g2.trans e1, by rw [← e2]; exact g3⟩
theorem PR.fmap_of {w : World} {I : Nat → Prop} {b : Nat} {es : Array MapEntry} {clock : Nat} {ks : List Value} {xs : List AV} (hb : I b) (hh : w.heap[b]? = some (.map es clock)) (hs : e8 ks xs.length es.toList clock) (hv : MapVals (PR w I) ks xs es.toList) : PR w I (.fmap ks xs) (.map (some b)) := by
 have hl := hs.1
 refine .fmap b es clock ks xs (fun i => if h : i < ks.length then (hv i h (by omega)).choose.val else undef) hb hh hs (fun i hi => ?_) (fun i hi => ?_)
 ·have := (hv i hi (by omega)).choose_spec
  exact ⟨_, this.1, this.2.1, by rw [dif_pos hi]⟩
 ·have hi' : i < ks.length := by omega
  rw [dif_pos hi']
  exact (hv i hi' hi).choose_spec.2.2
theorem PR.fmap_vals {w : World} {I : Nat → Prop} {es : Array MapEntry} {ks : List Value} {xs : List AV} {V : Nat → Value} (hV : ∀ i (h : i < ks.length), ∃ e, e ∈ es.toList ∧ e.key = ks[i] ∧ e.val = V i) (hp : ∀ i (h : i < xs.length), PR w I xs[i] (V i)) : MapVals (PR w I) ks xs es.toList := fun i hi hi' => by
 obtain ⟨e, h1, h2, h3⟩ := hV i hi
 exact ⟨e, h1, h2, by rw [h3]; exact hp i hi'⟩
inductive Xp (H : Nat → AObj) (ρ : Nat → Option (Option Nat)) (F : Nat → Prop) : AV → AV → Prop
  | any (x : AV) : Xp H ρ F .any x
  | same (x : AV) : Pure x → Xp H ρ F x x
  | ptr (k o off : Nat) : ρ k = some (some o) → Xp H ρ F (.ptr k off) (.ptr o off)
  | eptr (k o sz i off : Nat) : ρ k = some (some o) → Xp H ρ F (.eptr k sz i off) (.eptr o sz i off)
  | own (k o sz off len : Nat) : ρ k = some (some o) → Xp H ρ F (.own k sz off len) (.own o sz off len)
  | mp (k o : Nat) : ρ k = some (some o) → Xp H ρ F (.mp k) (.mp o)
  | yld (k o : Nat) : ρ k = some (some o) → Xp H ρ F (.yld k) (.yld o)
  | ifp (t : TypeId) (k o off : Nat) : ρ k = some (some o) → Xp H ρ F (.ifp t k off) (.ifp t o off)
  | nil (k sz : Nat) : ρ k = some none → Xp H ρ F (.own k sz 0 0) (.raw (.slice none 0 0))
  | nill : Xp H ρ F (.list []) (.raw (.slice none 0 0))
  | nmapl : Xp H ρ F (.fmap [] []) (.raw (.map none))
  | frozm (o : Nat) (ks ks' : List Value) (xs xs' : List AV) : H o = .mapo ks' xs' → F o → MPerm ks xs ks' xs' → Xp H ρ F (.fmap ks xs) (.mp o)
  | frozb (o off len : Nat) (cs xs : List AV) : H o = .box cs → F o → off + len = cs.length → off = 0 → xs.length = cs.length → (∀ x, x ∈ xs → Pure x ∧ x.one = true) →
      (∀ i (h : i < xs.length) (h' : i < cs.length), Xp H ρ F xs[i] cs[i]) → Xp H ρ F (.list xs) (.own o 1 off len)
  | froz (o sz off len : Nat) (xs : List AV) : H o = .row sz xs → F o → off + len ≤ xs.length → Xp H ρ F (.list ((xs.drop off).take len)) (.own o sz off len)
  | agg (cs ds : List AV) : cs.length = ds.length → (∀ i (h : i < cs.length) (h' : i < ds.length), Xp H ρ F cs[i] ds[i]) → Xp H ρ F (.agg cs) (.agg ds)
  | tup (cs ds : List AV) : cs.length = ds.length → (∀ i (h : i < cs.length) (h' : i < ds.length), Xp H ρ F cs[i] ds[i]) → Xp H ρ F (.tup cs) (.tup ds)
  | fn (f : FuncId) (cs ds : List AV) : cs.length = ds.length → (∀ i (h : i < cs.length) (h' : i < ds.length), Xp H ρ F cs[i] ds[i]) → Xp H ρ F (.fn f cs) (.fn f ds)
def zNc (ρ : Nat → Option (Option Nat)) (loc : Nat → Loc) : Nat → Loc := fun k => match ρ k with
 | none => .un
 | some none => .nil
 | some (some o) => loc o
def zNg (H : Nat → AObj) (F : Nat → Prop) (loc : Nat → Loc) (I : Nat → Prop) : Nat → Prop := fun b =>
 I b ∨ ∃ o c, (H o).live = true ∧ loc o = .blk b c ∧ F o
theorem zCY {w : World} {I I' : Nat → Prop} {loc : Nat → Loc} {o sz off len : Nat} {v : Value} {xs : List AV} (h : VR w I loc (.own o sz off len) v) (ho : OR w I loc o (.row sz xs))
  (hl : off + len ≤ xs.length) (hI : ∀ b, I b → I' b) (hb : ∀ b c, loc o = .blk b c → I' b) : PR w I' (.list ((xs.drop off).take len)) v := by
 cases h with
 | pure h => cases h
 | ownN _ _ h => simpa using PR.nil none 0
 | own _ _ _ _ b c a cap h1 h2 h3 h4 =>
  by_cases h0 : len = 0
  ·subst h0; simpa using PR.nil (some a) cap
  ·obtain ⟨hs, hx, ho⟩ := ho
   rcases ho with ⟨h5, _⟩ | ⟨b', C, e, h5, h6, h7, h8⟩
   ·rw [h1] at h5; cases h5
   ·rw [h1] at h5; cases h5
    have ha := h4 (by omega)
    subst ha
    have hlen : ((xs.drop off).take len).length = len := by simp; omega
    have hidx : ∀ i (hi : i < ((xs.drop off).take len).length), ((xs.drop off).take len)[i] = xs[off + i]'(by omega) := fun i hi => by simp
    have key := PR.list (w := w) (I := I') b (off * sz) cap sz ((xs.drop off).take len) (fun i j => C.getD (off * sz + i * sz + j) undef) (hb b _ h1) hs (by omega)
     (fun i hi => by rw [hidx i hi]; exact hx _ _)
     (fun i j hi hj => by
      have h9 : off * sz + i * sz + j < C.size := by
       have : (off + i + 1) * sz ≤ xs.length * sz := Nat.mul_le_mul_right _ (by omega)
       have e1 : (off + i + 1) * sz = off * sz + i * sz + sz := by rw [Nat.add_mul, Nat.add_mul]; omega
       omega
      simp [World.cell?, h6, h9])
     (fun i hi j hj => by
      have hxs : off + i < xs.length := by omega
      have hj' : j < (xs[off + i]).cells.length := by rw [← hidx i hi]; exact hj
      have hjs : j < sz := by rw [← hx _ hxs]; exact hj'
      have e2 : (off + i) * sz + j = off * sz + i * sz + j := by rw [Nat.add_mul]
      have h9 : (off + i) * sz + j < C.size := by
       have : (off + i + 1) * sz ≤ xs.length * sz := Nat.mul_le_mul_right _ (by omega)
       have e1 : (off + i + 1) * sz = (off + i) * sz + sz := by rw [Nat.add_mul]; omega
       omega
      have := h8 (off + i) hxs j hj' h9
      have e3 : C.getD (off * sz + i * sz + j) undef = C[(off + i) * sz + j] := by
       rw [← e2]; simp [h9]
      rw [e3]
      have e4 : (((xs.drop off).take len)[i]).cells[j] = (xs[off + i]).cells[j] := by congr 2; exact hidx i hi
      rw [e4]
      exact this.mono (fun _ _ => rfl) hI)
    rw [hlen] at key
    exact key
theorem Xp.sound {E : Env} {I : Nat → Prop} {loc : Nat → Loc} {σ : AS} {a : Act} {w : World} (hs : SR E I loc σ a w) {ρ : Nat → Option (Option Nat)} {F : Nat → Prop} {x y : AV} (h : Xp σ.obj ρ F x y) :
  ∀ {v : Value}, VR w I loc y v → VR w (zNg σ.obj F loc I) (zNc ρ loc) x v := by
 have hk : ∀ {k o l}, ρ k = some (some o) → loc o = l → zNc ρ loc k = l := fun {k o l} h1 h2 => by simp only [zNc, h1, h2]
 induction h with
 | any x => exact fun _ => .pure (.any _)
 | same x hp => exact fun hv => .pure ((hv.toPR hp).mono (fun _ _ => rfl) (fun _ hb => .inl hb))
 | ptr k o off h =>
  intro v hv
  cases hv with
  | pure hv => cases hv
  | ptr _ _ b c e => exact .ptr _ _ b c (hk h e)
 | eptr k o sz i off h =>
  intro v hv
  cases hv with
  | pure hv => cases hv
  | eptr _ _ _ _ b c e => exact .eptr _ _ _ _ b c (hk h e)
 | own k o sz off len h =>
  intro v hv
  cases hv with
  | pure hv => cases hv
  | ownN _ _ e => exact .ownN _ _ (hk h e)
  | own _ _ _ _ b c a cap e h1 h2 h3 => exact .own _ _ _ _ b c a cap (hk h e) h1 h2 h3
 | mp k o h =>
  intro v hv
  cases hv with
  | pure hv => cases hv
  | mp _ b c e => exact .mp _ b c (hk h e)
 | yld k o h =>
  intro v hv
  cases hv with
  | pure hv => cases hv
  | yld _ b c e => exact .yld _ b c (hk h e)
 | ifp t k o off h =>
  intro v hv
  cases hv with
  | pure hv => cases hv
  | ifp _ _ _ b c e => exact .ifp _ _ _ b c (hk h e)
 | nil k sz h =>
  intro v hv
  cases hv with
  | pure hv => cases hv; exact .ownN _ _ (by simp only [zNc, h])
 | nill =>
  intro v hv
  cases hv with
  | pure hv => cases hv; exact .pure (.nil _ _)
 | nmapl =>
  intro v hv
  cases hv with
  | pure hv => cases hv; exact .pure .nmap
 | froz o sz off len xs h1 h2 h3 =>
  intro v hv
  have ho := hs.objs o
  rw [h1] at ho
  exact .pure (zCY hv ho h3 (fun _ hb => .inl hb) (fun b c e => .inr ⟨o, c, by rw [h1]; rfl, e, h2⟩))
 | frozm o ks ks' xs xs' h1 h2 hm =>
  intro v hv
  have ho := hs.objs o
  rw [h1] at ho
  obtain ⟨b, es, clock, g1, g2, g3, g4⟩ := ho
  cases hv with
  | pure hv => cases hv
  | mp _ b' c e =>
   rw [g1] at e; cases e
   exact .pure (PR.fmap_of (.inr ⟨o, 0, by rw [h1]; rfl, g1, h2⟩) g2 (hm.shape g3) ((hm.vals g4).imp (fun i hi v hv => hv.mono (fun _ _ => rfl) (fun _ hb => .inl hb))))
 | frozb o off len cs xs h1 h2 h3 h4 h5 h6 _ ih =>
  intro v hv
  have ho := hs.objs o
  rw [h1] at ho
  subst h4
  have hlen : len = xs.length := by omega
  cases hv with
  | pure hv => cases hv
  | ownN _ _ q =>
   have : xs = [] := List.eq_nil_of_length_eq_zero (by omega)
   subst this
   exact .pure (.nil none 0)
  | own _ _ _ _ b' c ad cap q q1 q2 q3 =>
   rcases ho with ⟨g1, _⟩ | ⟨b, C, e, g1, g2, g3, g4⟩
   ·rw [g1] at q; cases q
   rw [g1] at q; cases q
   by_cases h0 : len = 0
   ·have : xs = [] := List.eq_nil_of_length_eq_zero (by omega)
    subst this; rw [h0]
    exact .pure (.nil (some ad) cap)
   ·have had := q3 (by omega)
    subst had
    subst hlen
    have hone : ∀ i (hi : i < xs.length), (xs[i]).cells = [xs[i]] := fun i hi => by
     have := (h6 _ (List.getElem_mem hi)).2
     revert this
     cases xs[i] <;> simp [AV.one, AV.cells]
    refine .pure (.list b' (0 * 1) cap 1 xs (fun i _ => C.getD i undef) (.inr ⟨o, _, by rw [h1]; rfl, g1, h2⟩) (by omega) q1 (fun i hi => by rw [hone i hi]; rfl) (fun i j hi hj => ?_) (fun i hi j hj => ?_))
    ·have hic : i < C.size := by omega
     have : 0 * 1 + i * 1 + j = i := by omega
     rw [this]
     simp [World.cell?, g2, hic]
    ·have hic : i < C.size := by omega
     have hj0 : j = 0 := by rw [hone i hi] at hj; simpa using hj
     subst hj0
     have e1 : (xs[i]).cells[0] = xs[i] := by simp [hone i hi]
     have e2 : C.getD i undef = C[i] := by simp [hic]
     rw [e1, e2]
     exact (ih i hi (by omega) (g4 i (by omega) hic)).toPR (h6 _ (List.getElem_mem hi)).1
 | agg cs ds hl _ ih =>
  intro v hv
  cases hv with
  | pure hv =>
   cases hv with
   | agg _ vs h1 h2 => exact .agg cs vs (hl.trans h1) (fun i h h' => ih i h (by omega) (.pure (h2 i (by omega) h')))
  | agg _ vs h1 h2 => exact .agg cs vs (hl.trans h1) (fun i h h' => ih i h (by omega) (h2 i (by omega) h'))
 | tup cs ds hl _ ih =>
  intro v hv
  cases hv with
  | pure hv => cases hv
  | tup _ vs h1 h2 => exact .tup cs vs (hl.trans h1) (fun i h h' => ih i h (by omega) (h2 i (by omega) h'))
 | fn f cs ds hl _ ih =>
  intro v hv
  cases hv with
  | pure hv => cases hv
  | fn _ _ vs h1 h2 => exact .fn f cs vs (hl.trans h1) (fun i h h' => ih i h (by omega) (h2 i (by omega) h'))
def OXp (H : Nat → AObj) (ρ : Nat → Option (Option Nat)) (F : Nat → Prop) : AObj → AObj → Prop
 | .dead, _ => True
 | .box cs, .box ds => cs.length = ds.length ∧ ∀ i (h : i < cs.length) (h' : i < ds.length), Xp H ρ F cs[i] ds[i]
 | .row s xs, .row s' ys => s = s' ∧ xs = ys
 | .mapo ks xs, .mapo ks' xs' => ks = ks' ∧ xs = xs'
 | .iter c ks xs, .iter c' ks' xs' => c = c' ∧ ks = ks' ∧ xs = xs'
 | .siter s p, .siter s' p' => s = s' ∧ p = p'
 | .brow e l, .brow e' l' => e = e' ∧ l = l'
 | .tbox e cs, .tbox e' ds => e = e' ∧ cs.length = ds.length ∧ ∀ i (h : i < cs.length) (h' : i < ds.length), Xp H ρ F cs[i] ds[i]
 | .loopo L env p, .loopo L' env' p' => L = L' ∧ p = p' ∧ ∀ t, Xp H ρ F (lkV env t) (lkV env' t)
 | .unb, .unb => True
 | _, _ => False
theorem OXp.live {H : Nat → AObj} {ρ : Nat → Option (Option Nat)} {F : Nat → Prop} {A B : AObj} (h : OXp H ρ F A B) (hl : A.live = true) : B.live = true := by
 cases A <;> cases B <;> simp_all [OXp, AObj.live]
theorem OXp.sound {E : Env} {I : Nat → Prop} {loc : Nat → Loc} {σ : AS} {a : Act} {w : World} {ρ : Nat → Option (Option Nat)} {F : Nat → Prop} (hs : SR E I loc σ a w) {k o : Nat} (hr : ρ k = some (some o)) {A B : AObj}
    (ho : OXp σ.obj ρ F A B) (hB : σ.obj o = B) : OR w (zNg σ.obj F loc I) (zNc ρ loc) k A := by
  have hk : ∀ l, loc o = l → zNc ρ loc k = l := fun l e => by simp only [zNc, hr, e]
  have hso := hs.objs o
  rw [hB] at hso
  cases A with
  | dead => exact trivial
  | unb =>
    cases B with
    | unb => exact hk _ hso
    | _ => exact ho.elim
  | mapo ks xs =>
    cases B with
    | mapo ks' xs' =>
      obtain ⟨rfl, rfl⟩ := ho
      obtain ⟨b, es, clock, h1, h2, h3, h4⟩ := hso
      exact ⟨b, es, clock, hk _ h1, h2, h3, h4.imp (fun i h v hv => hv.mono (fun _ _ => rfl) (fun _ hb => .inl hb))⟩
    | _ => exact ho.elim
  | iter c ks xs =>
    cases B with
    | iter c' ks' xs' =>
      obtain ⟨rfl, rfl, rfl⟩ := ho
      obtain ⟨b, h1, h⟩ := hso
      refine ⟨b, hk _ h1, ?_⟩
      rcases h with h | ⟨m, es, clock, seen, h2, h3, h4, h5, h6, h7, h8⟩
      · exact .inl h
      · exact .inr ⟨m, es, clock, seen, h2, .inl h3, h4, h5, h6, h7.imp (fun i h v hv => hv.mono (fun _ _ => rfl) (fun _ hb => .inl hb)), fun p hp => by
          obtain ⟨e, g1, g2, g3, g4⟩ := h8 p hp
          exact ⟨e, g1, g2, g3, g4.mono (fun _ _ => rfl) (fun _ hb => .inl hb)⟩⟩
    | _ => exact ho.elim
  | siter s pos =>
    cases B with
    | siter s' pos' =>
      obtain ⟨rfl, rfl⟩ := ho
      obtain ⟨b, h1, h2⟩ := hso
      exact ⟨b, hk _ h1, h2⟩
    | _ => exact ho.elim
  | brow e l =>
    cases B with
    | brow e' l' =>
      obtain ⟨rfl, rfl⟩ := ho
      rcases hso with ⟨h1, h2⟩ | ⟨b, C, h1, h2, h3⟩
      · exact .inl ⟨hk _ h1, h2⟩
      · exact .inr ⟨b, C, hk _ h1, h2, h3⟩
    | _ => exact ho.elim
  | tbox e cs =>
    cases B with
    | tbox e' ds =>
      obtain ⟨rfl, hl, hx⟩ := ho
      obtain ⟨b, C, h1, h2, h0, h3, h4⟩ := hso
      exact ⟨b, C, hk _ h1, h2, h0, by omega, fun i hi hi' => Xp.sound hs (hx i hi (by omega)) (h4 i (by omega) hi')⟩
    | _ => exact ho.elim
  | loopo L env p =>
    cases B with
    | loopo L' env' p' =>
      obtain ⟨rfl, rfl, he⟩ := ho
      obtain ⟨b, tmps, ds, h1, h2, h3, h4⟩ := hso
      exact ⟨b, tmps, ds, hk _ h1, h2, h3, fun t => Xp.sound hs (he t) (h4 t)⟩
    | _ => exact ho.elim
  | box cs =>
    cases B with
    | box ds =>
      have hl := ho.1
      rcases hso with ⟨h1, h2⟩ | ⟨b, C, e, h1, h2, h3, h4⟩
      · subst h2; exact .inl ⟨hk _ h1, List.eq_nil_of_length_eq_zero (by simpa using hl)⟩
      · exact .inr ⟨b, C, e, hk _ h1, h2, by omega, fun i hi hi' => Xp.sound hs (ho.2 i hi (by omega)) (h4 i (by omega) hi')⟩
    | _ => exact ho.elim
  | row s xs =>
    cases B with
    | row s' ys =>
      obtain ⟨rfl, rfl⟩ := ho
      obtain ⟨h0, hx, h1⟩ := hso
      refine ⟨h0, hx, ?_⟩
      rcases h1 with ⟨h1, h2⟩ | ⟨b, C, e, h1, h2, h3, h4⟩
      · exact .inl ⟨hk _ h1, h2⟩
      · exact .inr ⟨b, C, e, hk _ h1, h2, h3, fun i hi j hj h' => (h4 i hi j hj h').mono (fun _ _ => rfl) (fun _ hb => .inl hb)⟩
    | _ => exact ho.elim
structure WK (ρ : Nat → Option (Option Nat)) (F : Nat → Prop) (σ σ' : AS) : Prop where
 frz : ∀ o k, F o → ρ k = some (some o) → (σ'.obj k).live = false
 env : ∀ t, Xp σ.obj ρ F (σ'.get t) (σ.get t)
 objs : ∀ k, match ρ k with
  | none => σ'.obj k = .unb ∨ σ'.obj k = .dead
  | some none => σ'.obj k = .dead ∨ (∃ s, 0 < s ∧ σ'.obj k = .row s []) ∨ σ'.obj k = .box [] ∨ ∃ e, σ'.obj k = .brow e []
  | some (some o) => OXp σ.obj ρ F (σ'.obj k) (σ.obj o)
 inj : ∀ k k' o, (σ'.obj k).live = true → (σ'.obj k').live = true → ρ k = some (some o) → ρ k' = some (some o) → k = k'
theorem WK.core {E : Env} {I : Nat → Prop} {loc : Nat → Loc} {σ σ' : AS} {a : Act} {w : World} {ρ : Nat → Option (Option Nat)} {F : Nat → Prop} (hs : SR E I loc σ a w) (h : WK ρ F σ σ') :
  (∀ t, VR w (zNg σ.obj F loc I) (zNc ρ loc) (σ'.get t) (a.tmps.getD t undef)) ∧ (∀ o, OR w (zNg σ.obj F loc I) (zNc ρ loc) o (σ'.obj o)) ∧
  (∀ o o' b c c', (σ'.obj o).live = true → (σ'.obj o').live = true → zNc ρ loc o = .blk b c → zNc ρ loc o' = .blk b c' → o = o') ∧ (∀ b, zNg σ.obj F loc I b → b < w.heap.size) ∧
  (∀ o b c, (σ'.obj o).live = true → zNc ρ loc o = .blk b c → ¬ zNg σ.obj F loc I b ∧ (b < E.w0.heap.size → E.fp b)) := by
 have hlive : ∀ k b c, (σ'.obj k).live = true → zNc ρ loc k = .blk b c → ∃ o, ρ k = some (some o) ∧ (σ.obj o).live = true ∧ loc o = .blk b c := by
  intro k b c hl e
  have ho := h.objs k
  unfold zNc at e
  cases hr : ρ k with
  | none => rw [hr] at e; cases e
  | some r =>
   cases r with
   | none => rw [hr] at e; cases e
   | some o =>
    rw [hr] at e ho
    exact ⟨o, rfl, ho.live hl, e⟩
 refine ⟨fun t => Xp.sound hs (h.env t) (hs.tmps t), fun k => ?_, ?_, ?_, ?_⟩
 ·have ho := h.objs k
  cases hr : ρ k with
  | none =>
   rw [hr] at ho
   rcases ho with e | e
   ·rw [e]; show zNc ρ loc k = .un; simp only [zNc, hr]
   ·rw [e]; exact trivial
  | some r =>
   cases r with
   | none =>
    rw [hr] at ho
    rcases ho with e | ⟨s, h0, e⟩ | e | ⟨t, e⟩
    ·rw [e]; exact trivial
    ·rw [e]; exact ⟨h0, fun i hi => by simp at hi, .inl ⟨by simp only [zNc, hr], rfl⟩⟩
    ·rw [e]; exact .inl ⟨by simp only [zNc, hr], rfl⟩
    ·rw [e]; exact .inl ⟨by simp only [zNc, hr], rfl⟩
   | some o =>
    rw [hr] at ho
    exact OXp.sound hs hr ho rfl
 ·intro k k' b c c' hl hl' e e'
  obtain ⟨o, h1, h2, h3⟩ := hlive k b c hl e
  obtain ⟨o', h1', h2', h3'⟩ := hlive k' b c' hl' e'
  have := hs.inj o o' b c c' h2 h2' h3 h3'
  subst this
  exact h.inj k k' o hl hl' h1 h1'
 ·intro b hb
  rcases hb with hb | ⟨o, c, h1, h2, _⟩
  ·exact hs.imm b hb
  ·exact (hs.objs o).lt h1 h2
 ·intro k b c hl e
  obtain ⟨o, h1, h2, h3⟩ := hlive k b c hl e
  refine ⟨?_, (hs.sep o b c h2 h3).2⟩
  rintro (hb | ⟨o', c', h4, h5, h6⟩)
  ·exact (hs.sep o b c h2 h3).1 hb
  ·have := hs.inj o o' b c c' h2 h4 h3 h5
   subst this
   have := h.frz o k h6 h1
   rw [this] at hl; cases hl
theorem WK.sound {E : Env} {I : Nat → Prop} {loc : Nat → Loc} {σ σ' : AS} {a : Act} {w : World} {ρ : Nat → Option (Option Nat)} {F : Nat → Prop} (hs : SR E I loc σ a w) (h : WK ρ F σ σ') (hn : σ'.n = σ.n) (hfp : ∀ k, k < E.n → ρ k = some (some k)) :
  SR E (zNg σ.obj F loc I) (zNc ρ loc) σ' a w := by
 obtain ⟨h1, h2, h3, h4, h5⟩ := WK.core hs h
 have hmk : Marks E (zNg σ.obj F loc I) (zNc ρ loc) σ' a.defers w := hs.defers.imp (fun r g1 g2 g3 g4 => by
  refine ⟨g1, ?_, g3, fun k c hl e => ?_⟩
  ·rintro (hb | ⟨o, c, h1, h2, _⟩)
   ·exact g2 hb
   ·exact g4 o c h1 h2
  ·have ho := h.objs k
   unfold zNc at e
   cases hr : ρ k with
   | none => rw [hr] at e; cases e
   | some x =>
    cases x with
    | none => rw [hr] at e; cases e
    | some o =>
     rw [hr] at e ho
     exact g4 o c (ho.live hl) e)
 refine ⟨hmk, hs.size.trans hn.symm, h1, h2, h3, h4, h5, hs.fr, fun b hb => .inl (hs.base b hb), fun b hb => ?_, fun k hk => by simp only [zNc, hfp k hk]; exact hs.keep k hk⟩
 rcases hb with hb | ⟨o, c, h1, h2, h3⟩
 ·exact hs.top b hb
 ·rcases Nat.lt_or_ge b E.w0.heap.size with hlt | hge
  ·exact .inr (.inr ((hs.sep o b c h1 h2).2 hlt))
  ·exact .inr (.inl hge)
def idR : Nat → Option (Option Nat) := fun k => some (some k)
theorem zCL (loc : Nat → Loc) : zNc idR loc = loc := rfl
theorem Xp.refl (H : Nat → AObj) (F : Nat → Prop) : ∀ x : AV, Xp H idR F x x
 | .any => .any _
 | .raw v => .same _ (.raw v)
 | .list xs => .same _ (.list xs)
 | .elt x => .same _ (.elt x)
 | .fmap ks xs => .same _ (.fmap ks xs)
 | .ptr o off => .ptr o o off rfl
 | .eptr o sz i off => .eptr o o sz i off rfl
 | .own o sz off len => .own o o sz off len rfl
 | .mp o => .mp o o rfl
 | .yld o => .yld o o rfl
 | .ifp t o off => .ifp t o o off rfl
 | .agg cs => .agg cs cs rfl (fun i h _ => have := List.sizeOf_lt_of_mem (List.getElem_mem h); Xp.refl H F cs[i])
 | .tup cs => .tup cs cs rfl (fun i h _ => have := List.sizeOf_lt_of_mem (List.getElem_mem h); Xp.refl H F cs[i])
 | .fn f cs => .fn f cs cs rfl (fun i h _ => have := List.sizeOf_lt_of_mem (List.getElem_mem h); Xp.refl H F cs[i])
termination_by x => SizeOf.sizeOf x
decreasing_by all_goals (simp; omega)
theorem OXp.refl (H : Nat → AObj) (F : Nat → Prop) (A : AObj) : OXp H idR F A A := by
 cases A <;> simp [OXp]
 ·exact fun i h _ => Xp.refl H F _
 ·exact fun i h _ => Xp.refl H F _
 ·exact fun t => Xp.refl H F _
def o9 (σ : AS) : List Nat → AS
 | [] => σ
 | o :: r => (o9 σ r).setO o .dead
theorem W3 (σ : AS) : ∀ (l : List Nat) (o : Nat), (o9 σ l).obj o = if o ∈ l then .dead else σ.obj o
 | [], o => by simp [o9]
 | k :: r, o => by
  simp only [o9, AS.obj_setO, W3 σ r o, List.mem_cons]
  by_cases h : k = o
  ·subst h; simp
  ·have h' : ¬ o = k := fun e => h e.symm
   simp [h, h']
theorem P0 (σ : AS) : ∀ (l : List Nat), (o9 σ l).n = σ.n ∧ ∀ t, (o9 σ l).get t = σ.get t
 | [] => ⟨rfl, fun _ => rfl⟩
 | k :: r => ⟨(P0 σ r).1, fun t => (P0 σ r).2 t⟩
theorem SR.freeze {E : Env} {I : Nat → Prop} {loc : Nat → Loc} {σ : AS} {a : Act} {w : World} (hs : SR E I loc σ a w) (ex : List Nat) : SR E (zNg σ.obj (· ∈ ex) loc I) loc (o9 σ ex) a w := by
 have h : WK idR (· ∈ ex) σ (o9 σ ex) := by
  refine ⟨fun o k ho e => ?_, fun t => ?_, fun k => ?_, fun k k' o _ _ e e' => ?_⟩
  ·simp only [idR, Option.some.injEq] at e; subst e
   rw [W3, if_pos ho]; rfl
  ·rw [(P0 σ ex).2]; exact Xp.refl _ _ _
  ·show OXp σ.obj idR (· ∈ ex) ((o9 σ ex).obj k) (σ.obj k)
   rw [W3]
   split
   ·exact trivial
   ·exact OXp.refl _ _ _
  ·simp only [idR, Option.some.injEq] at e e'; omega
 have := WK.sound hs h (P0 σ ex).1 (fun k _ => rfl)
 rwa [zCL] at this
theorem St.wk {E : Env} {σ σ' : AS} {a : Act} {w : World} {ρ : Nat → Option (Option Nat)} {F : Nat → Prop} (h : WK ρ F σ σ') (hn : σ'.n = σ.n) (hfp : ∀ k, k < E.n → ρ k = some (some k)) (hs : St E σ a w) : St E σ' a w :=
 let ⟨_, _, hs⟩ := hs
 ⟨_, _, WK.sound hs h hn hfp⟩
end Go.Abs

namespace Go.Abs
open Go
def v8 (P : Program) (t : TypeId) : Option Bool := match P.underlying t with
 | some (.struct _) => some true
 | some (.array _ _) => some true
 | some _ => some false
 | none => none
def sizeT (P : Program) (t : TypeId) : Option Nat := (P.info? t).map (·.size)
def bytesT (P : Program) (t : TypeId) : Option Nat := (P.info? t).map (·.bytes)
def zeroT (P : Program) (t : TypeId) : Option Value := (P.info? t).bind (·.zero)
def sliceT (P : Program) (t : TypeId) : Option TypeId := match P.underlying t with
 | some (.slice e) => some e
 | _ => none
def U3 (P : Program) (t : TypeId) : Option (Nat × TypeId) := match P.underlying t with
 | some (.array n e) => some (n, e)
 | _ => none
def y2 (P : Program) (s : TypeId) (f : Nat) : Option (TypeId × Nat) := match P.underlying s with
 | some (.struct fs) => (fs[f]?).map fun x => (x.type, x.offset)
 | _ => none
def b8 (P : Program) (t : TypeId) : Bool := match P.underlying t with
 | some .string => true
 | _ => false
def zOP (P : Program) (t : TypeId) : Option IntKind := match P.underlying t with
 | some (.int k) => some k
 | _ => none
def zNr (P : Program) (t : TypeId) : Option (TypeId × TypeId) := match P.underlying t with
 | some (.map k e) => some (k, e)
 | _ => none
def zNt : Value → Bool
 | .slice none 0 0 => true
 | .map none => true
 | .pointer none => true
 | _ => false
def r4 : Value → AV
 | .agg cs => if cs.all (·.oneCell') then .agg (cs.toList.map .raw) else .any
 | .tuple _ => .any
 | v => .raw v
def AS.ev (σ : AS) : Operand → AV
 | .tmp t => σ.get t
 | .const v => r4 v
 | .global g => .raw (.pointer (some ⟨g, 0, none⟩))
 | .func f => .raw (.func (.func f) #[] #[])
abbrev Cont := AV → List Nat → List (Nat × AObj) → Prop
def O0 (c a b : AV) (K : Cont) : Prop := match c with
 | .raw (.bool t) => K (if t = true then a else b) [] []
 | _ => False
def S7 (P : Program) (t : TypeId) (H : Nat → AObj) (nx : Nat) (K : Cont) : Prop := match zeroT P t with
 | some z => z.cells.all (·.oneCell') = true ∧ H nx = .unb ∧ K (.ptr nx 0) [nx] [(nx, .box (z.cells.toList.map .raw))]
 | none => False
def AV.sized : AV → Bool
 | .any | .tup _ => false
 | _ => true
def zOV (x : AV) (H : Nat → AObj) (nx : Nat) (K : Cont) : Prop := x.sized = true ∧ H nx = .unb ∧ K (.ptr nx 0) [nx] [(nx, .box x.cells)]
def splice (cs : List AV) (off : Nat) (ds : List AV) : List AV := cs.take off ++ ds ++ cs.drop (off + ds.length)
def Z1 (P : Program) (t : TypeId) (x : AV) (H : Nat → AObj) (K : Cont) : Prop := match x with
 | .ptr o off => match H o with
  | .box cs => match v8 P t, sizeT P t with
   | some true, some n => off + n ≤ cs.length ∧ K (.agg ((cs.drop off).take n)) [o] []
   | some false, some _ => off < cs.length ∧ K (cs.getD off .any) [o] []
   | _, _ => False
  | .tbox _ cs => match v8 P t, sizeT P t with
   | some false, some _ => off < cs.length ∧ K (cs.getD off .any) [o] []
   | _, _ => False
  | _ => False
 | .eptr o sz i off => match H o with
  | .row sz' xs => sz = sz' ∧ i < xs.length ∧ (match v8 P t, sizeT P t with
   | some true, some n => off + n ≤ sz ∧ K (.agg (((xs.getD i .any).cells.drop off).take n)) [o] []
   | some false, some _ => off < sz ∧ K ((xs.getD i .any).cells.getD off .any) [o] []
   | _, _ => False)
  | .box cs => match v8 P t, sizeT P t with
   | some true, some n => i * sz + off + n ≤ cs.length ∧ K (.agg ((cs.drop (i * sz + off)).take n)) [o] []
   | some false, some _ => i * sz + off < cs.length ∧ K (cs.getD (i * sz + off) .any) [o] []
   | _, _ => False
  | _ => False
 | .elt x => match v8 P t, sizeT P t with
  | some true, some n => x.cells.length = n ∧ K (.agg x.cells) [] []
  | some false, some _ => x.cells.length = 1 ∧ K (x.cells.getD 0 .any) [] []
  | _, _ => False
 | _ => False
def V7 (P : Program) (t : TypeId) (a x : AV) (H : Nat → AObj) (K : Cont) : Prop := match a with
  | .ptr o off => match H o with
    | .box cs => sizeT P t = some x.cells.length ∧ x.cells.all AV.one = true ∧ off + x.cells.length ≤ cs.length ∧ K (.tup []) [o] [(o, .box (splice cs off x.cells))]
    | .tbox e cs => 0 < off ∧ sizeT P t = some x.cells.length ∧ x.cells.all AV.one = true ∧ off + x.cells.length ≤ cs.length ∧ K (.tup []) [o] [(o, .tbox e (splice cs off x.cells))]
    | _ => False
  | .eptr o sz i off => match H o with
    | .row sz' xs => sz = sz' ∧ i < xs.length ∧ sizeT P t = some x.cells.length ∧ x.cells.all AV.one = true ∧ Pure x ∧
        (if off = 0 ∧ x.cells.length = sz then K (.tup []) [o] [(o, .row sz (xs.set i x))]
         else off + x.cells.length ≤ sz ∧ K (.tup []) [o] [(o, .row sz (xs.set i (.agg (splice (xs.getD i .any).cells off x.cells))))])
    | .box cs => sizeT P t = some x.cells.length ∧ x.cells.all AV.one = true ∧ i * sz + off + x.cells.length ≤ cs.length ∧ K (.tup []) [o] [(o, .box (splice cs (i * sz + off) x.cells))]
    | _ => False
  | _ => False
def zOQ (x : AV) (K : Cont) : Prop := match x with
 | .ptr _ _ => K x [] []
 | .eptr _ _ _ _ => K x [] []
 | .elt _ => K x [] []
 | .fn _ _ => K x [] []
 | _ => False
def zOa (op : BinOp) (a b : Int) : Option Bool := match op with
 | .eql => some (a == b)
 | .neq => some (a != b)
 | .lss => some (decide (a < b))
 | .leq => some (decide (a ≤ b))
 | .gtr => some (decide (a > b))
 | .geq => some (decide (a ≥ b))
 | _ => none
def zOI (op : BinOp) (k : IntKind) (a b : Int) (K : Cont) : Prop := match op with
 | .add => K (.raw (.int k (k.wrap (a + b)))) [] []
 | .sub => K (.raw (.int k (k.wrap (a - b)))) [] []
 | .mul => K (.raw (.int k (k.wrap (a * b)))) [] []
 | .quo => b ≠ 0 ∧ K (.raw (.int k (k.wrap (a.tdiv b)))) [] []
 | .rem => b ≠ 0 ∧ K (.raw (.int k (a.tmod b))) [] []
 | .and => K (.raw (.int k (k.wrap (BitVec.ofInt k.bits a &&& BitVec.ofInt k.bits b).toNat))) [] []
 | .or => K (.raw (.int k (k.wrap (BitVec.ofInt k.bits a ||| BitVec.ofInt k.bits b).toNat))) [] []
 | .xor => K (.raw (.int k (k.wrap (BitVec.ofInt k.bits a ^^^ BitVec.ofInt k.bits b).toNat))) [] []
 | .andNot => K (.raw (.int k (k.wrap (BitVec.ofInt k.bits a &&& ~~~BitVec.ofInt k.bits b).toNat))) [] []
 | op => match zOa op a b with
  | some r => K (.raw (.bool r)) [] []
  | none => False
def zOR (op : BinOp) (x y : ByteArray) (K : Cont) : Prop := match op with
 | .add => x.size + y.size ≤ 9223372036854775807 ∧ K (.raw (.string (x ++ y))) [] []
 | .eql => K (.raw (.bool (x.toList == y.toList))) [] []
 | .neq => K (.raw (.bool !(x.toList == y.toList))) [] []
 | .lss => K (.raw (.bool (Op.bytesLess x.toList y.toList))) [] []
 | .leq => K (.raw (.bool (Op.bytesLess x.toList y.toList || x.toList == y.toList))) [] []
 | .gtr => K (.raw (.bool !(Op.bytesLess x.toList y.toList || x.toList == y.toList))) [] []
 | .geq => K (.raw (.bool !(Op.bytesLess x.toList y.toList))) [] []
 | _ => False
def N4 (P : Program) (t : TypeId) (xs ys : List Value) (r : Bool) : Prop :=
 ∀ (x y : Operand) (w : World), (do eqGuard .eql t x y (.agg xs.toArray) (.agg ys.toArray); binOp .eql t (.agg xs.toArray) (.agg ys.toArray) : Sem Value).run P w = .ok (.bool r) w ∧
  (do eqGuard .neq t x y (.agg xs.toArray) (.agg ys.toArray); binOp .neq t (.agg xs.toArray) (.agg ys.toArray) : Sem Value).run P w = .ok (.bool !r) w
def l0 : List AV → Option (List Value)
 | [] => some []
 | .raw v :: r => (l0 r).map (v :: ·)
 | _ :: _ => none
open Classical in
noncomputable def eqC (P : Program) (t : TypeId) (xs ys : List Value) : Option Bool := if h : ∃ r, N4 P t xs ys r then some (Classical.choose h) else none
theorem zFD {P : Program} {t : TypeId} {xs ys : List Value} {r : Bool} (h : N4 P t xs ys r) : eqC P t xs ys = some r := by
 unfold eqC
 have hx : ∃ r, N4 P t xs ys r := ⟨r, h⟩
 rw [dif_pos hx]
 have h1 := (Classical.choose_spec hx (.tmp 0) (.tmp 0) default).1
 have h2 := (h (.tmp 0) (.tmp 0) default).1
 rw [h1] at h2
 simp at h2
 rw [h2]
def I4 (P : Program) (op : BinOp) (t : TypeId) (xs ys : List AV) (K : Cont) : Prop := match l0 xs, l0 ys with
 | some xs, some ys => match eqC P t xs ys with
  | some r => (match op with
   | .eql => K (.raw (.bool r)) [] []
   | .neq => K (.raw (.bool !r)) [] []
   | _ => False)
  | none => False
 | _, _ => False
def T7 (op : BinOp) (k : IntKind) (a b : Int) (K : Cont) : Prop := match op with
 | .shl => 0 ≤ b ∧ K (.raw (.int k (k.wrap (a * 2 ^ (min b.toNat k.bits))))) [] []
 | .shr => 0 ≤ b ∧ K (.raw (.int k (a.fdiv (2 ^ (min b.toNat k.bits))))) [] []
 | _ => False
def G9 : AV → Option Bool
 | .list (_ :: _) => some false
 | .own _ _ _ (_ + 1) => some false
 | .raw (.slice a _ _) => some a.isNone
 | _ => none
def G8 (P : Program) (op : BinOp) (t : TypeId) (x : AV) (K : Cont) : Prop := match G9 x, P.underlying t with
 | some r, some (.slice _) => (match op with
  | .eql => K (.raw (.bool r)) [] []
  | .neq => K (.raw (.bool !r)) [] []
  | _ => False)
 | _, _ => False
def zOB (P : Program) (op : BinOp) (t : TypeId) (x y : AV) (K : Cont) : Prop := match x, y with
 | .raw (.int k a), .raw (.int k' b) => (match op with
  | .shl => T7 .shl k a b K
  | .shr => T7 .shr k a b K
  | op => k = k' ∧ zOI op k a b K)
 | .raw (.string a), .raw (.string b) => zOR op a b K
 | .raw (.bool a), .raw (.bool b) => (match P.underlying t with
  | some .bool => (match op with
   | .eql => K (.raw (.bool (a == b))) [] []
   | .neq => K (.raw (.bool !(a == b))) [] []
   | _ => False)
  | _ => False)
 | .agg xs, .agg ys => I4 P op t xs ys K
 | x, .raw (.slice none 0 0) => G8 P op t x K
 | _, _ => False
def unA (op : UnOp) (x : AV) (K : Cont) : Prop := match op, x with
 | .not, .raw (.bool b) => K (.raw (.bool !b)) [] []
 | .neg, .raw (.int k n) => K (.raw (.int k (k.wrap (0 - n)))) [] []
 | _, _ => False
def X6 (P : Program) (s : TypeId) (x : AV) (f : Nat) (K : Cont) : Prop := match y2 P s f with
 | some (u, off) => (match sizeT P u, v8 P u with
  | some n, some ag => n ≠ 0 ∧ (match x with
   | .ptr o p => K (.ptr o (p + off)) [] []
   | .eptr o sz i p => K (.eptr o sz i (p + off)) [] []
   | .elt (.agg cs) => off + n ≤ cs.length ∧ (if ag = true then K (.elt (.agg ((cs.drop off).take n))) [] [] else n = 1 ∧ (cs.getD off .any).cells.length = 1 ∧ (match cs.getD off .any with | .agg _ => False | _ => True) ∧ K (.elt (cs.getD off .any)) [] [])
   | _ => False)
  | _, _ => False)
 | none => False
def T5 (P : Program) (u : TypeId) (cs : List AV) (off : Nat) (K : Cont) : Prop := match v8 P u, sizeT P u with
 | some true, some n => K (.agg ((cs.drop off).take n)) [] []
 | some false, some _ => off < cs.length ∧ K (cs.getD off .any) [] []
 | _, _ => False
def R5 (P : Program) (s : TypeId) (x : AV) (f : Nat) (K : Cont) : Prop := match y2 P s f, x with
 | some (u, off), .agg cs => T5 P u cs off K
 | _, _ => False
def W1 (P : Program) (t : TypeId) (x i : AV) (K : Cont) : Prop := match i with
 | .raw (.int _ n) => (match sliceT P t, x with
  | some e, .list xs => (0 ≤ n ∧ n < xs.length) ∧ sizeT P e = some (xs.getD n.toNat .any).cells.length ∧ K (.elt (xs.getD n.toNat .any)) [] []
  | some e, .own o sz off len => (0 ≤ n ∧ n < len) ∧ sizeT P e = some sz ∧ K (.eptr o sz (off + n.toNat) 0) [] []
  | none, .ptr o off => (match U3 P t with
   | some (len, e) => (match sizeT P e with
    | some sz => (0 ≤ n ∧ n < len) ∧ K (.ptr o (off + n.toNat * sz)) [] []
    | none => False)
   | none => False)
  | _, _ => False)
 | _ => False
def R8 (P : Program) (t : TypeId) (x i : AV) (K : Cont) : Prop := match i, x with
 | .raw (.int _ n), .raw (.string s) => b8 P t = true ∧ (0 ≤ n ∧ n < s.size) ∧ K (.raw (.int .u8 ((s.data.toList.getD n.toNat 0).toNat : Nat))) [] []
 | .raw (.int _ n), .agg cs => (match U3 P t with
  | some (len, e) => (match sizeT P e with
   | some sz => (0 ≤ n ∧ n < len) ∧ T5 P e cs (n.toNat * sz) K
   | none => False)
  | none => False)
 | _, _ => False
def loA : Option AV → Option Int
 | none => some 0
 | some (.raw (.int _ n)) => some n
 | _ => none
def hiA (len : Nat) : Option AV → Option Int
 | none => some len
 | some (.raw (.int _ n)) => some n
 | _ => none
def O8 (P : Program) (t : TypeId) (x : AV) (lo hi mx : Option AV) (K : Cont) : Prop := match mx with
 | some _ => False
 | none => (match x with
  | .raw (.string s) => b8 P t = true ∧ (match loA lo, hiA s.size hi with
   | some l, some h => (0 ≤ l ∧ l ≤ h ∧ h ≤ s.size) ∧ K (.raw (.string (s.extract l.toNat h.toNat))) [] []
   | _, _ => False)
  | .list xs => (match sliceT P t, loA lo, hiA xs.length hi with
   | some e, some l, some h => (match sizeT P e with
    | some sz => (0 ≤ l ∧ l ≤ h ∧ h ≤ xs.length) ∧ (∀ y, y ∈ xs → y.cells.length = sz) ∧ K (.list ((xs.drop l.toNat).take (h.toNat - l.toNat))) [] []
    | none => False)
   | _, _, _ => False)
  | .own o sz off len => (match sliceT P t, loA lo, hiA len hi with
   | some e, some l, some h => (0 ≤ l ∧ l ≤ h ∧ h ≤ len) ∧ sizeT P e = some sz ∧ K (.own o sz (off + l.toNat) (h.toNat - l.toNat)) [] []
   | _, _, _ => False)
  | _ => False)
def R4 (x : AV) (i : Nat) (K : Cont) : Prop := match x with
 | .tup vs => i < vs.length ∧ K (vs.getD i .any) [] []
 | _ => False
def L5 (P : Program) (t : TypeId) (x : AV) : Option Nat := match P.underlying t, x with
 | some .string, .raw (.string s) => some s.size
 | some (.slice _), .list xs => some xs.length
 | some (.slice _), .own _ _ _ len => some len
 | some (.slice _), .raw (.slice _ n _) => some n
 | some (.map _ _), .fmap ks _ => some ks.length
 | some (.array n _), _ => some n
 | _, _ => none
def r9 (H : Nat → AObj) (sz : Nat) : AV → Option (List AV × List Nat)
 | .list xs => some (xs, [])
 | .own o sz' off len => match H o with
  | .row sz'' xs => if sz' = sz ∧ sz'' = sz ∧ off + len ≤ xs.length then some ((xs.drop off).take len, [o]) else none
  | .box cs => if sz' = 1 ∧ sz = 1 ∧ off + len ≤ cs.length ∧ ((cs.drop off).take len).all AV.one = true then some ((cs.drop off).take len, [o]) else none
  | _ => none
 | .raw (.slice _ 0 _) => some ([], [])
 | _ => none
def X2 : List AV → (List UInt8 → Prop) → Prop
 | [], k => k []
 | .raw (.int .u8 n) :: r, k => (0 ≤ n ∧ n < 256) ∧ X2 r (fun l => k (UInt8.ofNat n.toNat :: l))
 | _, _ => False
def R1 (P : Program) (s d : TypeId) (x : AV) (H : Nat → AObj) (K : Cont) : Prop := match zOP P d, x with
 | some k, .raw (.int _ n) => K (.raw (.int k (k.wrap n))) [] []
 | none, .raw (.int _ n) => b8 P d = true ∧ K (.raw (.string (Utf8.encode n))) [] []
 | none, .raw (.string b) => b8 P d = true ∧ K (.raw (.string b)) [] []
 | none, .own o z off len => b8 P d = true ∧ (match sliceT P s, r9 H 1 (.own o z off len) with
  | some e, some (ys, rd) => zOP P e = some .u8 ∧ ys ≠ [] ∧ X2 ys (fun l => K (.raw (.string ⟨l.toArray⟩)) rd [])
  | _, _ => False)
 | _, _ => False
def appendA (P : Program) (t : TypeId) (s x : AV) (H : Nat → AObj) (nx : Nat) (K : Cont) : Prop := match sliceT P t with
  | some e => (match sizeT P e, bytesT P e, zeroT P e, r9 H ((sizeT P e).getD 0) x with
    | some sz, some by_, some z, some (ys, rd) => 0 < sz ∧ z.cells.size = sz ∧ (∀ y, y ∈ ys → y.cells.length = sz ∧ y.cells.all AV.one = true) ∧ (if zNt z = true then (match s with
      | .own o sz' 0 len => (match H o with
        | .box cs => sz' = 1 ∧ sz = 1 ∧ len = cs.length ∧ (∀ y, y ∈ ys → y.one = true) ∧ H nx = .unb ∧ (len + ys.length) * by_ ≤ 140737488355328 ∧ len + ys.length ≤ 9223372036854775807 ∧
            K (.own nx 1 0 (len + ys.length)) (o :: nx :: rd) [(o, .dead), (nx, .box (cs ++ ys))]
        | _ => False)
      | .raw (.slice none 0 0) => sz = 1 ∧ (∀ y, y ∈ ys → y.one = true) ∧ H nx = .unb ∧ ys.length * by_ ≤ 140737488355328 ∧ ys.length ≤ 9223372036854775807 ∧ K (.own nx 1 0 ys.length) (nx :: rd) [(nx, .box ys)]
      | _ => False) else (∀ y, y ∈ ys → Pure y) ∧ (match s with
      | .own o sz' 0 len => (match H o with
        | .row sz'' xs => sz' = sz ∧ sz'' = sz ∧ len = xs.length ∧ H nx = .unb ∧ (len + ys.length) * by_ ≤ 140737488355328 ∧ len + ys.length ≤ 9223372036854775807 ∧
            K (.own nx sz 0 (len + ys.length)) (o :: nx :: rd) [(o, .dead), (nx, .row sz (xs ++ ys))]
        | _ => False)
      | .raw (.slice none 0 0) => H nx = .unb ∧ ys.length * by_ ≤ 140737488355328 ∧ ys.length ≤ 9223372036854775807 ∧ K (.own nx sz 0 ys.length) (nx :: rd) [(nx, .row sz ys)]
      | _ => False))
    | _, _, _, _ => False)
  | none => False
def zNw (b : ByteArray) : List AV := b.data.toList.map fun c => .raw (.int .u8 (c.toNat : Int))
def zOY (P : Program) (t u : TypeId) (x : AV) (H : Nat → AObj) (F : List UInt8 → List Nat → Prop) : Prop := match x with
 | .raw (.string b) => b8 P u = true ∧ F b.data.toList []
 | .own o z off len => u = t ∧ (match r9 H 1 (.own o z off len) with
  | some (ys, rd) => ys ≠ [] ∧ X2 ys (fun l => F l rd)
  | none => False)
 | _ => False
def zOA (e : TypeId) (s : AV) (l2 : List UInt8) (rd : List Nat) (H : Nat → AObj) (nx : Nat) (K : Cont) : Prop := match s with
 | .own o sz' 0 len => (match H o with
  | .brow e' l => sz' = 1 ∧ e' = e ∧ len = l.length ∧ len + l2.length ≤ 140737488355328 ∧ K (.own nx 1 0 (len + l2.length)) (o :: nx :: rd) [(o, .dead), (nx, .brow e (l ++ l2))]
  | _ => False)
 | .raw (.slice none 0 0) => l2.length ≤ 140737488355328 ∧ K (.own nx 1 0 l2.length) (nx :: rd) [(nx, .brow e l2)]
 | _ => False
def S9 (P : Program) (t u : TypeId) (s x : AV) (H : Nat → AObj) (nx : Nat) (K : Cont) : Prop := match sliceT P t with
 | some e => (sizeT P e = some 1 ∧ bytesT P e = some 1 ∧ zeroT P e = some (.int .u8 0)) ∧ H nx = .unb ∧ zOY P t u x H (fun l2 rd => l2 ≠ [] ∧ zOA e s l2 rd H nx K)
 | none => False
def R2 (P : Program) (s d : TypeId) (x : AV) (H : Nat → AObj) (K : Cont) : Prop := match sliceT P d, x with
 | some e, .raw (.string b) => b8 P s = true ∧ zOP P e = some .u8 ∧ K (.list (zNw b)) [] []
 | _, _ => R1 P s d x H K
def B3 (P : Program) (t : TypeId) : Bool := match P.underlying t with
 | some (.interface _) => false
 | some _ => true
 | none => false
def L2 (P : Program) (t : TypeId) (x : AV) (K : Cont) : Prop := B3 P t = true ∧ (match x with
 | .raw v => K (.raw (.iface t v)) [] []
 | .ptr o off => K (.ifp t o off) [] []
 | .agg cs => (match l0 cs with
  | some l => K (.raw (.iface t (.agg l.toArray))) [] []
  | none => False)
 | _ => False)
def zOX (a b : Int) : Int := if b > a then b else a
def zOh (a b : Int) : Int := if b < a then b else a
def N9 (P : Program) (b : Builtin) (ts : Array TypeId) (xs : List AV) (H : Nat → AObj) (nx : Nat) (K : Cont) : Prop := match b, xs with
 | .len, [x] => 0 < ts.size ∧ (match L5 P (ts.getD 0 0) x with
  | some n => K (.raw (.int .i64 n)) [] []
  | none => False)
 | .append, [s, x] => if ts.getD 0 0 = BYT then ts = #[ts.getD 0 0, ts.getD 1 0] ∧ S9 P (ts.getD 0 0) (ts.getD 1 0) s x H nx K else ts = #[ts.getD 0 0, ts.getD 0 0] ∧ appendA P (ts.getD 0 0) s x H nx K
 | .unsafeSliceData, [.own o sz 0 (len + 1)] => sz = 1 ∧ K (.eptr o 1 0 0) [o] []
 | .unsafeString, [.eptr o sz 0 0, .raw (.int k n)] => (match H o with
  | .brow e l => k = .i64 ∧ sz = 1 ∧ n = (l.length : Int) ∧ l ≠ [] ∧ l.length ≤ 9223372036854775807 ∧ P.cellsOf e = 1 ∧ (match P.underlying (ts.getD 0 0) with | some (.pointer e') => e' = e ∧ 0 < ts.size | _ => False) ∧ K (.raw (.string ⟨l.toArray⟩)) [o] [(o, .dead)]
  | _ => False)
 | .max, [.raw (.int k a), .raw (.int _ b)] => K (.raw (.int k (zOX a b))) [] []
 | .min, [.raw (.int k a), .raw (.int _ b)] => K (.raw (.int k (zOh a b))) [] []
 | _, _ => False
def X7 (P : Program) (t : TypeId) (cs : List AV) : List (Nat × AV) → Option (List AV)
 | [] => some cs
 | (i, x) :: r => match y2 P t i with
  | some (u, off) => if sizeT P u = some x.cells.length ∧ off + x.cells.length ≤ cs.length then X7 P t (splice cs off x.cells) r else none
  | none => none
def X8 (sz : Nat) (cs : List AV) : List (Nat × AV) → Option (List AV)
 | [] => some cs
 | (i, x) :: r => if x.cells.length = sz ∧ i * sz + sz ≤ cs.length then X8 sz (splice cs (i * sz) x.cells) r else none
def buildA (P : Program) (t : TypeId) (ps : List (Nat × AV)) (K : Cont) : Prop := match zeroT P t, P.underlying t with
 | some z, some (.struct fs) => z.cells.all (·.oneCell') = true ∧ (∀ f, f ∈ fs → (sizeT P f.type).isSome = true) ∧ (∀ p, p ∈ ps → p.2.sized = true) ∧ (match X7 P t (z.cells.toList.map .raw) ps with
  | some cs => K (.agg cs) [] []
  | none => False)
 | some z, some (.array _ e) => z.cells.all (·.oneCell') = true ∧ (∀ p, p ∈ ps → p.2.sized = true) ∧ (match sizeT P e with
  | some sz => (match X8 sz (z.cells.toList.map .raw) ps with
   | some cs => K (.agg cs) [] []
   | none => False)
  | none => False)
 | _, _ => False
def u1 : AV → Bool
 | .raw _ | .list _ | .elt _ | .fmap _ _ => true
 | _ => false
def zNW (H : Nat → AObj) : Nat → AV → AV × List Nat
 | 0, x => (x, [])
 | n + 1, x => match x with
  | .own o sz off len => (match H o with
   | .row sz' xs => if sz' = sz ∧ off + len ≤ xs.length then (.list ((xs.drop off).take len), [o]) else (x, [])
   | .box cs => if sz = 1 ∧ off = 0 ∧ len = cs.length ∧ cs.all (fun c => u1 (zNW H n c).1) = true then (.list (cs.map fun c => (zNW H n c).1), o :: (cs.map fun c => (zNW H n c).2).flatten) else (x, [])
   | _ => (x, []))
  | .mp o => (match H o with
   | .mapo ks xs => (.fmap ks xs, [o])
   | _ => (x, []))
  | .agg cs => (.agg (cs.map fun c => (zNW H n c).1), (cs.map fun c => (zNW H n c).2).flatten)
  | .raw (.slice none 0 0) => (.list [], [])
  | x => (x, [])
def w6 (fs : List Nat) : List (Nat × AObj) := fs.map fun o => (o, .dead)
def buildSliceA (P : Program) (t : TypeId) (n : Nat) (ps : List (Nat × AV)) (H : Nat → AObj) (nx : Nat) (K : Cont) : Prop := match sliceT P t with
  | some e => (match sizeT P e, zeroT P e with
    | some sz, some z => 0 < sz ∧ n * sz ≤ 16777216 ∧ z.cells.size = sz ∧ ps.map (·.1) = List.range n ∧ H nx = .unb ∧ (if zNt z = true then sz = 1 ∧ (∀ p, p ∈ ps → p.2.one = true) ∧
        K (.own nx 1 0 n) [nx] [(nx, .box (ps.map (·.2)))]
      else (∀ p, p ∈ ps → Pure (zNW H 3 p.2).1 ∧ (zNW H 3 p.2).1.sized = true ∧ (zNW H 3 p.2).1.cells.length = sz) ∧
        K (.own nx sz 0 n) ((ps.map fun p => (zNW H 3 p.2).2).flatten ++ [nx]) (w6 (ps.map fun p => (zNW H 3 p.2).2).flatten ++ [(nx, .row sz (ps.map fun p => (zNW H 3 p.2).1))]))
    | _, _ => False)
  | none => False
def P2 (P : Program) (t : TypeId) (l c : AV) (H : Nat → AObj) (nx : Nat) (K : Cont) : Prop := match sliceT P t, l, c with
  | some e, .raw (.int _ n), .raw (.int _ m) => (match sizeT P e, bytesT P e, zeroT P e with
    | some sz, some by_, some z => 0 < sz ∧ z.cells.size = sz ∧ z.cells.all (·.oneCell') = true ∧ (r4 z).sized = true ∧ m = n ∧ (0 ≤ n ∧ n ≤ 9223372036854775807 ∧ by_ * n ≤ 140737488355328) ∧ H nx = .unb ∧
        (if zNt z = true then sz = 1 ∧ K (.own nx 1 0 n.toNat) [nx] [(nx, .box (List.replicate n.toNat (.raw z)))] else K (.own nx sz 0 n.toNat) [nx] [(nx, .row sz (List.replicate n.toNat (r4 z)))])
    | _, _, _ => False)
  | _, _, _ => False
def zN4 (P : Program) (k : TypeId) (v : Value) : Prop := ∃ l, keyOf P k v = some l
def zOJ : AV → Option Value
 | .raw v => some v
 | .agg cs => (l0 cs).map fun l => .agg l.toArray
 | _ => none
open Classical in
noncomputable def zNn (k : Value) : List Value → Option Nat
 | [] => none
 | x :: r => if x = k then some 0 else (zNn k r).map (· + 1)
noncomputable def zOE (ks : List Value) (k : Value) : List Value := match zNn k ks with
 | some _ => ks
 | none => ks ++ [k]
noncomputable def zOF (ks : List Value) (xs : List AV) (k : Value) (x : AV) : List AV := match zNn k ks with
 | some i => xs.set i x
 | none => xs ++ [x]
def zAV : Value → AV
 | .slice none 0 0 => .list []
 | .map none => .fmap [] []
 | v => r4 v
noncomputable def c6 (ks : List Value) (xs : List AV) (k : Value) (z : AV) : AV := match zNn k ks with
 | some i => xs.getD i .any
 | none => z
noncomputable def zON (ks : List Value) (k : Value) : Bool := (zNn k ks).isSome
def P1 (P : Program) (t : TypeId) (r : Option AV) (H : Nat → AObj) (nx : Nat) (K : Cont) : Prop := match r with
 | none => H nx = .unb ∧ K (.mp nx) [nx] [(nx, .mapo [] [])]
 | some (.raw (.int _ _)) => (zNr P t).isSome = true ∧ H nx = .unb ∧ K (.mp nx) [nx] [(nx, .mapo [] [])]
 | _ => False
def j9 (P : Program) (t : TypeId) (m k x : AV) (H : Nat → AObj) (K : Cont) : Prop := match zNr P t, m, zOJ k with
  | some (kt, _), .mp o, some kv => (match H o with
    | .mapo ks xs => Maps.Keyed P kt ∧ zN4 P kt kv ∧ (∀ q, q ∈ ks → zN4 P kt q) ∧ Pure (zNW H 3 x).1 ∧ (zNW H 3 x).2.contains o = false ∧
        K (.tup []) (o :: (zNW H 3 x).2) (w6 (zNW H 3 x).2 ++ [(o, .mapo (zOE ks kv) (zOF ks xs kv (zNW H 3 x).1))])
    | _ => False)
  | _, _, _ => False
def Q8 (P : Program) (t : TypeId) (m k : AV) (ok : Bool) (H : Nat → AObj) (K : Cont) : Prop := match zNr P t, zOJ k with
 | some (kt, et), some kv => (match zeroT P et with
  | some z => Maps.Keyed P kt ∧ zN4 P kt kv ∧ z.cells.all (·.oneCell') = true ∧ (match m with
   | .fmap ks xs => (∀ q, q ∈ ks → zN4 P kt q) ∧ K (if ok = true then .tup [c6 ks xs kv (zAV z), .raw (.bool (zON ks kv))] else c6 ks xs kv (zAV z)) [] []
   | .mp o => (match H o with
    | .mapo ks xs => (∀ q, q ∈ ks → zN4 P kt q) ∧ K (if ok = true then .tup [c6 ks xs kv (zAV z), .raw (.bool (zON ks kv))] else c6 ks xs kv (zAV z)) [o] []
    | _ => False)
   | _ => False)
  | none => False)
 | _, _ => False
def O3 (P : Program) (t : TypeId) (x : AV) (H : Nat → AObj) (nx : Nat) (K : Cont) : Prop := match x with
 | .fmap ks xs => (zNr P t).isSome = true ∧ H nx = .unb ∧ K (.ptr nx 0) [nx] [(nx, .iter none ks xs)]
 | .raw (.string s) => b8 P t = true ∧ H nx = .unb ∧ K (.ptr nx 0) [nx] [(nx, .siter s 0)]
 | _ => False
def P6 (x : AV) (H : Nat → AObj) (K : Cont) : Prop := match x with
  | .ptr o 0 => (match H o with
    | .siter s pos => (pos < s.size → K (.tup [.raw (.bool true), .raw (.int .i64 pos), .raw (.int .i32 (Utf8.decode s pos).1)]) [o] [(o, .siter s (pos + (Utf8.decode s pos).2))]) ∧
        (¬ pos < s.size → K (.tup [.raw (.bool false)]) [o] [(o, .siter s pos)])
    | _ => False)
  | _ => False
def R3 (x : AV) (H : Nat → AObj) (K : Cont) : Prop := match x with
 | .ptr o 0 => (match H o with
  | .iter (some (k, x)) _ _ => K (.tup [r4 k, x]) [o] []
  | _ => False)
 | _ => False
end Go.Abs

namespace Go.Abs
open Go
def zNf : Nat → List AObj → List (Nat × AObj)
 | _, [] => []
 | k, A :: r => (k, A) :: zNf (k + 1) r
def hs (fp : List AObj) : AS := ⟨0, [], zNf 0 fp⟩
def W7 : Act := ⟨#[], []⟩
def i4 (w : World) (I : Nat → Prop) (n : Nat) (loc : Nat → Loc) : Env := ⟨w, I, n, loc⟩
structure Post (w : World) (I : Nat → Prop) (loc : Nat → Loc) (n : Nat) (r : AV) (out : List AObj) (v : Value) (w' : World) (I' : Nat → Prop) (loc' : Nat → Loc) : Prop where
 sr : SR (i4 w I n loc) I' loc' (hs out) W7 w'
 val : VR w' I' loc' r v
 len : n ≤ out.length
def zBA (C : (Nat → Loc) → Array Value → World → (Ending → World → Prop) → Prop) (args : List AV) (fp : List AObj) (r : AV) (out : List AObj) : Prop :=
 ∀ (w : World) (I : Nat → Prop) (loc : Nat → Loc) (vs : Array Value), SR (i4 w I fp.length loc) I loc (hs fp) W7 w → vs.size = args.length →
  (∀ i (h : i < args.length) (h' : i < vs.size), VR w I loc args[i] vs[i]) →
  C loc vs w fun e w' => ∃ v I' loc', e = .returned v ∧ Post w I loc fp.length r out v w' I' loc'
def zNV (P : Program) (f : FuncId) (args : List AV) (fp : List AObj) (r : AV) (out : List AObj) : Prop :=
 ∀ (w : World) (I : Nat → Prop) (loc : Nat → Loc) (vs : Array Value), SR (i4 w I fp.length loc) I loc (hs fp) W7 w → vs.size = args.length →
  (∀ i (h : i < args.length) (h' : i < vs.size), VR w I loc args[i] vs[i]) →
  Calls P f vs w fun e w' => ∃ v I' loc', e = .returned v ∧ Post w I loc fp.length r out v w' I' loc'
inductive Scal : AV → Prop
 | any : Scal .any
 | raw (v : Value) : Scal (.raw v)
 | ptr (o off : Nat) : Scal (.ptr o off)
 | eptr (o sz i off : Nat) : Scal (.eptr o sz i off)
 | own (o sz off len : Nat) : Scal (.own o sz off len)
 | mp (o : Nat) : Scal (.mp o)
 | yld (o : Nat) : Scal (.yld o)
 | ifp (t : TypeId) (o off : Nat) : Scal (.ifp t o off)
 | agg (cs : List AV) : (∀ c, c ∈ cs → Scal c) → Scal (.agg cs)
 | tup (cs : List AV) : (∀ c, c ∈ cs → Scal c) → Scal (.tup cs)
 | fn (f : FuncId) (cs : List AV) : (∀ c, c ∈ cs → Scal c) → Scal (.fn f cs)
def N5 : AObj → Prop
 | .box cs => ∀ c, c ∈ cs → Scal c
 | .row _ xs => ∀ x, x ∈ xs → ∀ c, c ∈ x.cells → Scal c
 | .mapo _ xs => ∀ x, x ∈ xs → Scal x
 | .iter _ _ _ => False
 | .tbox _ cs => ∀ c, c ∈ cs → Scal c
 | .loopo _ env _ => ∀ t, Scal (lkV env t)
 | _ => True
mutual
def AV.ren (f : Nat → Nat) : AV → AV
 | .ptr o off => .ptr (f o) off
 | .eptr o sz i off => .eptr (f o) sz i off
 | .own o sz off len => .own (f o) sz off len
 | .mp o => .mp (f o)
 | .yld o => .yld (f o)
 | .ifp t o off => .ifp t (f o) off
 | .agg cs => .agg (zN9 f cs)
 | .tup cs => .tup (zN9 f cs)
 | .fn g cs => .fn g (zN9 f cs)
 | x => x
def zN9 (f : Nat → Nat) : List AV → List AV
 | [] => []
 | c :: r => c.ren f :: zN9 f r
end
theorem l3 (f : Nat → Nat) : ∀ cs, zN9 f cs = cs.map (AV.ren f)
 | [] => rfl
 | c :: r => by simp only [zN9, List.map_cons, l3 f r]
def AObj.ren (f : Nat → Nat) : AObj → AObj
 | .box cs => .box (zN9 f cs)
 | .tbox e cs => .tbox e (zN9 f cs)
 | .loopo L env p => .loopo L (env.map fun q => (q.1, q.2.ren f)) p
 | A => A
def w7 (ids : List Nat) (nx : Nat) (k : Nat) : Nat := if k < ids.length then ids.getD k 0 else nx + (k - ids.length)
def u2 (ids : List Nat) (k : Nat) : Option (Option Nat) := if k < ids.length then some (some (ids.getD k 0)) else none
def u7 (ids : List Nat) (nx : Nat) (out : List AObj) : List (Nat × AObj) := (zNf 0 out).map fun p => (w7 ids nx p.1, p.2.ren (w7 ids nx))
def i7 (ids : List Nat) (nx : Nat) (out : List AObj) : List Nat := (List.range (out.length - ids.length)).map (nx + ·)
inductive All2 (R : AV → AV → Prop) : List AV → List AV → Prop
 | nil : All2 R [] []
 | cons {x y xs ys} : R x y → All2 R xs ys → All2 R (x :: xs) (y :: ys)
structure MetX (C : (Nat → Loc) → Array Value → World → (Ending → World → Prop) → Prop) (avs : List AV) (H : Nat → AObj) (nx : Nat) (ids ex : List Nat) (args : List AV) (fp : List AObj) (r : AV) (out : List AObj) : Prop where
 spec : zBA C args fp r out
 nodup : ids.Nodup
 apart : ∀ o, o ∈ ex → o ∉ ids
 args : All2 (Xp H (u2 ids) (· ∈ ex)) args avs
 fpl : fp.length = ids.length
 fps : ∀ k (h : k < fp.length), fp[k].live = true ∧ OXp H (u2 ids) (· ∈ ex) fp[k] (H (ids.getD k 0))
 scal : ex = [] ∨ (Scal r ∧ ∀ A, A ∈ out → N5 A)
 fresh : ∀ j, j < out.length - ids.length → H (nx + j) = .unb
 unb : ∀ A, A ∈ out → A ≠ .unb
abbrev Met (P : Program) (f : FuncId) (avs : List AV) (H : Nat → AObj) (nx : Nat) (ids ex : List Nat) (args : List AV) (fp : List AObj) (r : AV) (out : List AObj) : Prop :=
 MetX (fun _ vs w R => Calls P f vs w R) avs H nx ids ex args fp r out
def I8 (P : Program) (f : FuncId) (avs : List AV) (H : Nat → AObj) (nx : Nat) (K : Cont) : Prop :=
 ∃ ids ex args fp r out, Met P f avs H nx ids ex args fp r out ∧ K (r.ren (w7 ids nx)) (ids ++ ex ++ i7 ids nx out) (u7 ids nx out)
def y4 (P : Program) (f : FuncId) (avs : List AV) (H : Nat → AObj) (nx : Nat) (K : Cont) : Prop :=
 ∃ gone as', All2 (Xp H idR (· ∈ gone)) as' avs ∧ I8 P f as' (fun o => if o ∈ gone then .dead else H o) nx (fun v rd wr => K v (gone ++ rd) (w6 gone ++ wr))
def r8 (P : Program) (f : FuncId) : Bool := (P.funcs[f]?).any fun fn => fn.body.isSome && !(fn.name == "runtime.NumGoroutine")
def M1 (P : Program) (x : AV) (avs : List AV) (H : Nat → AObj) (nx : Nat) (K : Cont) : Prop := match x with
 | .raw (.func (.func f) fs caps) => r8 P f = true ∧ fs = #[] ∧ caps = #[] ∧ y4 P f avs H nx K
 | .fn f caps => r8 P f = true ∧ y4 P f (avs ++ caps) H nx K
 | _ => False
def zAR (fn : Fn) (first : Array Operand) (cs : List AV) (K : Cont) : Prop := match fn with
 | .func f => first = #[] ∧ K (.fn f cs) [] []
 | _ => False
def R0 (P : Program) (c : Callee) (ts : Array TypeId) (xs : List AV) (ev : Operand → AV) (H : Nat → AObj) (nx : Nat) (K : Cont) : Prop := match c with
 | .builtin b => N9 P b ts xs H nx K
 | .value f => M1 P (ev f) xs H nx K
 | .invoke _ _ => False
def zNj (P : Program) (o : Oper) (ev : Operand → AV) (H : Nat → AObj) (nx : Nat) (K : Cont) : Prop := match o.op with
 | .move x => K (ev x) [] []
 | .assign x => K (ev x) [] []
 | .pick c a b => O0 (ev c) (ev a) (ev b) K
 | .alloc t => S7 P t H nx K
 | .box _ x => zOV (ev x) H nx K
 | .build t ps => buildA P t (ps.toList.map fun p => (p.1, ev p.2)) K
 | .buildSlice t n ps => buildSliceA P t n (ps.toList.map fun p => (p.1, ev p.2)) H nx K
 | .load t a => Z1 P t (ev a) H K
 | .store t a x => V7 P t (ev a) (ev x) H K
 | .nilCheck x => zOQ (ev x) K
 | .binOp op t x y _ => zOB P op t (ev x) (ev y) K
 | .unOp op _ x => unA op (ev x) K
 | .convert s d x => (P.underlying s).isSome = true ∧ R2 P s d (ev x) H K
 | .makeFunc fn first cs => zAR fn first (cs.toList.map ev) K
 | .makeSlice t l c => P2 P t (ev l) (ev c) H nx K
 | .slice t x lo hi mx => O8 P t (ev x) (lo.map ev) (hi.map ev) (mx.map ev) K
 | .fieldAddr s x f => X6 P s (ev x) f K
 | .field s x f => R5 P s (ev x) f K
 | .indexAddr t x i => W1 P t (ev x) (ev i) K
 | .index t x i => R8 P t (ev x) (ev i) K
 | .extract x i => R4 (ev x) i K
 | .makeMap t r => P1 P t (r.map ev) H nx K
 | .mapUpdate t m k x => j9 P t (ev m) (ev k) (ev x) H K
 | .insert t m k x => j9 P t (ev m) (ev k) (ev x) H K
 | .lookup t m k ok => Q8 P t (ev m) (ev k) ok H K
 | .range t x => O3 P t (ev x) H nx K
 | .next x b => b = true ∧ P6 (ev x) H K
 | .entry x => R3 (ev x) H K
 | .makeInterface t x => L2 P t (ev x) K
 | .call c => R0 P c.callee c.argTypes (c.args.toList.map ev) ev H nx K
 | _ => False
def AS.writes (σ : AS) (wr : List (Nat × AObj)) : AS := wr.foldl (fun s p => s.setO p.1 p.2) σ
def AS.putD (σ : AS) (d : Option Tmp) (v : AV) : AS := match d with
 | some d => σ.put d v
 | none => σ
end Go.Abs

namespace Go.Abs
open Go
section
variable {P : Program} {w : World} {t : TypeId}
theorem zAi {b : Bool} (h : v8 P t = some b) : (isAgg t).run P w = .ok b w := by
 unfold v8 at h
 cases hu : P.underlying t with
 | none => rw [hu] at h; cases h
 | some d =>
  simp only [isAgg, Sem.run_bind, run_underlying hu, Result.andThen_ok]
  rw [hu] at h
  cases d <;> simp at h <;> subst h <;> rfl
theorem p3 {n : Nat} (h : sizeT P t = some n) : (sizeOf t).run P w = .ok n w := by
 unfold sizeT at h
 cases hi : P.info? t with
 | none => rw [hi] at h; cases h
 | some i => rw [hi] at h; simp at h; subst h; simp [sizeOf, typeInfo, hi]
theorem O6 {z : Value} (h : zeroT P t = some z) : (zeroValue t).run P w = .ok z w := by
 unfold zeroT at h
 cases hi : P.info? t with
 | none => rw [hi] at h; cases h
 | some i => rw [hi] at h; simp at h; simp [zeroValue, typeInfo, hi, h]
theorem l4 (b off j : Nat) : (⟨b, off, none⟩ : Addr).add j = ⟨b, off + j, none⟩ := by unfold Addr.add; split <;> simp_all
theorem E1 {n b off : Nat} {f : Nat → Value} (h1 : v8 P t = some true) (h2 : sizeT P t = some n) (hc : ∀ j, j < n → w.cell? ⟨b, off + j, none⟩ = some (f j)) :
  (loadVar t ⟨b, off, none⟩).run P w = .ok (.agg ((List.range n).map f).toArray) w := by
 have hl := run_loadCells (P := P) w ⟨b, off, none⟩ n f (fun j hj => by rw [l4]; exact hc j hj)
 simp only [loadVar, Sem.run_bind, zAi h1, Result.andThen_ok, if_true, p3 h2, hl, Sem.run_pure]
theorem K7 {b off : Nat} {v : Value} (h1 : v8 P t = some false) (hc : w.cell? ⟨b, off, none⟩ = some v) : (loadVar t ⟨b, off, none⟩).run P w = .ok v w := by
 simp only [loadVar, Sem.run_bind, zAi h1, Result.andThen_ok, Bool.false_eq_true, if_false]
 simp [hc]
theorem j6 {b i : Nat} {C : Array Value} {e : TypeId} {fr : Nat × Nat} (h : w.heap[b]? = some (.cells C e fr)) (hi : i < C.size) : w.cell? ⟨b, i, none⟩ = some C[i] := by
 simp [World.cell?, h, hi]
end
section
variable {P : Program} {E : Env} {I : Nat → Prop} {loc : Nat → Loc} {σ : AS} {a : Act} {w : World}
theorem PR.one {x : AV} {v : Value} (h : PR w I x v) (hx : x.one = true) : v.oneCell' = true := by
 cases h with
 | raw _ h => exact h
 | any => simp [AV.one] at hx
 | agg => simp [AV.one] at hx
 | _ => rfl
theorem VR.one {x : AV} {v : Value} (h : VR w I loc x v) (hx : x.one = true) : v.oneCell' = true := by
 cases h with
 | pure h => exact h.one hx
 | agg => simp [AV.one] at hx
 | tup => simp [AV.one] at hx
 | _ => rfl
theorem cells_of_one {v : Value} (h : v.oneCell' = true) : v.cells = #[v] := by cases v <;> simp_all [Value.oneCell', Value.cells]
theorem AV.cells_of_one {x : AV} (h : x.one = true) : x.cells = [x] := by cases x <;> simp_all [AV.one, AV.cells]
theorem AV.sized_cases {x : AV} (h : x.sized = true) : x.one = true ∨ ∃ cs, x = .agg cs := by
 cases x <;> simp_all [AV.one, AV.sized]
theorem VR.cells {x : AV} {v : Value} (h : VR w I loc x v) (hx : x.sized = true) :
  v.cells.size = x.cells.length ∧ ∀ i (h1 : i < x.cells.length) (h2 : i < v.cells.size), VR w I loc x.cells[i] v.cells[i] := by
 rcases AV.sized_cases hx with h1 | ⟨cs, rfl⟩
 ·have e1 := AV.cells_of_one h1
  have e2 := cells_of_one (h.one h1)
  refine ⟨by rw [e1, e2]; rfl, fun i hi hi' => ?_⟩
  have hi0 : i = 0 := by rw [e1] at hi; simp at hi; exact hi
  subst hi0
  simp only [e1, e2]
  exact h
 ·cases h with
  | pure h => cases h with
   | agg _ vs h1 h2 => exact ⟨h1.symm, fun i hi hi' => .pure (h2 i hi hi')⟩
  | agg _ vs h1 h2 => exact ⟨h1.symm, h2⟩
theorem PR.cells {x : AV} {v : Value} (h : PR w I x v) (hx : x.sized = true) :
  v.cells.size = x.cells.length ∧ ∀ i (h1 : i < x.cells.length) (h2 : i < v.cells.size), PR w I x.cells[i] v.cells[i] := by
 rcases AV.sized_cases hx with h1 | ⟨cs, rfl⟩
 ·have e1 := AV.cells_of_one h1
  have e2 := cells_of_one (h.one h1)
  refine ⟨by rw [e1, e2]; rfl, fun i hi hi' => ?_⟩
  have hi0 : i = 0 := by rw [e1] at hi; simp at hi; exact hi
  subst hi0
  simp only [e1, e2]
  exact h
 ·cases h with
  | agg _ vs h1 h2 => exact ⟨h1.symm, h2⟩
theorem K3 (v : Value) : VR w I loc (r4 v) v := by
 cases v with
 | agg cs =>
  unfold r4
  by_cases h : cs.all (·.oneCell') = true
  ·simp only [h, if_true]
   refine .pure (.agg _ _ (by simp) (fun i h1 h2 => ?_))
   simp only [List.getElem_map, Array.getElem_toList]
   exact .raw _ (Array.all_eq_true.1 h i h2)
  ·simp only [h]
   exact .pure (.any _)
 | tuple vs => exact .pure (.any _)
 | _ => exact .pure (.raw _ rfl)
theorem SR.ev (hs : SR E I loc σ a w) (x : Operand) : VR w I loc (σ.ev x) (a.eval x) := by
 cases x with
 | tmp t => exact hs.tmps t
 | const v => exact K3 v
 | global g => exact .pure (.raw _ rfl)
 | func f => exact .pure (.raw _ rfl)
theorem VR.aggSlice {cs : List AV} {off n : Nat} {f : Nat → Value} (hn : off + n ≤ cs.length) (h : ∀ j (hj : off + j < cs.length), j < n → VR w I loc cs[off + j] (f j)) :
  VR w I loc (.agg ((cs.drop off).take n)) (.agg ((List.range n).map f).toArray) := by
 refine .agg _ _ (by simp; omega) (fun i h1 h2 => ?_)
 simp at h1 h2
 simp only [List.getElem_take, List.getElem_drop, List.getElem_toArray, List.getElem_map, List.getElem_range]
 exact h i (by omega) (by omega)
theorem PR.aggSlice {cs : List AV} {off n : Nat} {f : Nat → Value} (hn : off + n ≤ cs.length) (h : ∀ j (hj : off + j < cs.length), j < n → PR w I cs[off + j] (f j)) :
  PR w I (.agg ((cs.drop off).take n)) (.agg ((List.range n).map f).toArray) := by
 refine .agg _ _ (by simp; omega) (fun i h1 h2 => ?_)
 simp at h1 h2
 simp only [List.getElem_take, List.getElem_drop, List.getElem_toArray, List.getElem_map, List.getElem_range]
 exact h i (by omega) (by omega)
theorem w9 {α : Type} {l : List α} {i : Nat} {d : α} (h : i < l.length) : l.getD i d = l[i] := by simp [List.getD, h]
theorem zCJ (hs : SR E I loc σ a w) {t : TypeId} {x : AV} {vx : Value} (hx : VR w I loc x vx) {K : Cont} (h : Z1 P t x σ.obj K) :
  ∃ v rd y, K v rd [] ∧ (Instr.loadAt t vx).run P w = .ok y w ∧ VR w I loc v y := by
 unfold Z1 at h
 cases x with
 | ptr o off =>
  cases hx with
  | pure hx => cases hx
  | ptr _ _ b c hl =>
   have ho := hs.objs o
   cases hA : σ.obj o with
   | box cs =>
    simp only [hA] at h ho
    rcases ho with ⟨h1, _⟩ | ⟨b', C, e, h1, h2, h3, h4⟩
    ·rw [hl] at h1; cases h1
    rw [hl] at h1; cases h1
    cases hag : v8 P t with
    | none => simp only [hag] at h
    | some ag =>
     cases hsz : sizeT P t with
     | none => cases ag <;> simp only [hag, hsz] at h
     | some n =>
      cases ag with
      | true =>
       simp only [hag, hsz] at h
       refine ⟨_, _, _, h.2, ?_, VR.aggSlice (f := fun j => C.getD (off + j) undef) h.1 (fun j hj hjn => ?_)⟩
       ·show (loadVar t _).run P w = _
        exact E1 hag hsz (fun j hj => by rw [j6 h2 (by omega)]; simp [show off + j < C.size by omega])
       ·have := h4 (off + j) hj (by omega)
        simpa [show off + j < C.size by omega] using this
      | false =>
       simp only [hag, hsz] at h
       refine ⟨_, _, C[off]'(by omega), h.2, ?_, ?_⟩
       ·show (loadVar t _).run P w = _
        exact K7 hag (j6 h2 (by omega))
       ·rw [w9 h.1]; exact h4 off h.1 (by omega)
   | tbox e0 cs =>
    simp only [hA] at h ho
    obtain ⟨b', C, h1, h2, h0, h3, h4⟩ := ho
    rw [hl] at h1; cases h1
    cases hag : v8 P t with
    | none => simp only [hag] at h
    | some ag =>
     cases hsz : sizeT P t with
     | none => cases ag <;> simp only [hag, hsz] at h
     | some n =>
      cases ag with
      | true => simp only [hag, hsz] at h
      | false =>
       simp only [hag, hsz] at h
       refine ⟨_, _, C.getD off undef, h.2, ?_, ?_⟩
       ·show (loadVar t _).run P w = _
        exact K7 hag (by rw [j6 h2 (by omega)]; simp [show off < C.size by omega])
       ·have := h4 off h.1 (by omega)
        rw [w9 h.1]
        simpa [show off < C.size by omega] using this
   | _ => simp only [hA] at h
 | eptr o sz i off =>
  cases hx with
  | pure hx => cases hx
  | eptr _ _ _ _ b c hl =>
   have ho := hs.objs o
   cases hA : σ.obj o with
   | row sz' xs =>
    simp only [hA] at h ho
    obtain ⟨rfl, hi, h⟩ := h
    obtain ⟨h0, hcl, ho⟩ := ho
    rcases ho with ⟨h1, _⟩ | ⟨b', C, e, h1, h2, h3, h4⟩
    ·rw [hl] at h1; cases h1
    ·rw [hl] at h1; cases h1
     have hlen : (xs[i]).cells.length = sz := hcl i hi
     have hgd : xs.getD i .any = xs[i] := w9 hi
     have hfit : i * sz + sz ≤ C.size := by
      have : (i + 1) * sz ≤ xs.length * sz := Nat.mul_le_mul_right _ hi
      rw [Nat.add_mul] at this; omega
     rw [hgd] at h
     cases hag : v8 P t with
     | none => simp only [hag] at h
     | some ag =>
      cases hsz : sizeT P t with
      | none => cases ag <;> simp only [hag, hsz] at h
      | some n =>
       cases ag with
       | true =>
        simp only [hag, hsz] at h
        refine ⟨_, _, _, h.2, ?_, VR.aggSlice (f := fun j => C.getD (i * sz + off + j) undef) (by omega) (fun j hj hjn => ?_)⟩
        ·show (loadVar t _).run P w = _
         exact E1 hag hsz (fun j hj => by rw [j6 h2 (by omega)]; simp [show i * sz + off + j < C.size by omega])
        ·have := h4 i hi (off + j) hj (by omega)
         refine .pure ?_
         have e1 : C.getD (i * sz + off + j) undef = C[i * sz + (off + j)]'(by omega) := by
          rw [Nat.add_assoc]; simp [show i * sz + (off + j) < C.size by omega]
         rw [e1]; exact this
       | false =>
        simp only [hag, hsz] at h
        refine ⟨_, _, C[i * sz + off]'(by omega), h.2, ?_, ?_⟩
        ·show (loadVar t _).run P w = _
         exact K7 hag (j6 h2 (by omega))
        ·rw [w9 (by omega)]; exact .pure (h4 i hi off (by omega) (by omega))
   | box cs =>
    simp only [hA] at h ho
    rcases ho with ⟨h1, _⟩ | ⟨b', C, e, h1, h2, h3, h4⟩
    ·rw [hl] at h1; cases h1
    rw [hl] at h1; cases h1
    cases hag : v8 P t with
    | none => simp only [hag] at h
    | some ag =>
     cases hsz : sizeT P t with
     | none => cases ag <;> simp only [hag, hsz] at h
     | some n =>
      cases ag with
      | true =>
       simp only [hag, hsz] at h
       refine ⟨_, _, _, h.2, ?_, VR.aggSlice (f := fun j => C.getD (i * sz + off + j) undef) h.1 (fun j hj hjn => ?_)⟩
       ·show (loadVar t _).run P w = _
        exact E1 hag hsz (fun j hj => by rw [j6 h2 (by omega)]; simp [show i * sz + off + j < C.size by omega])
       ·have := h4 (i * sz + off + j) hj (by omega)
        simpa [show i * sz + off + j < C.size by omega] using this
      | false =>
       simp only [hag, hsz] at h
       refine ⟨_, _, C[i * sz + off]'(by omega), h.2, ?_, ?_⟩
       ·show (loadVar t _).run P w = _
        exact K7 hag (j6 h2 (by omega))
       ·rw [w9 h.1]; exact h4 (i * sz + off) h.1 (by omega)
   | _ => simp only [hA] at h
 | elt x =>
  cases hx with
  | pure hx =>
   cases hx with
   | elt b off _ C hb hc hr =>
    simp only at h
    cases hag : v8 P t with
    | none => simp only [hag] at h
    | some ag =>
     cases hsz : sizeT P t with
     | none => cases ag <;> simp only [hag, hsz] at h
     | some n =>
      cases ag with
      | true =>
       simp only [hag, hsz] at h
       refine ⟨_, _, _, h.2, E1 hag hsz (f := C) (fun j hj => hc j (by omega)), .pure ?_⟩
       refine .agg _ _ (by simp; omega) (fun i h1 h2 => ?_)
       simp only [List.getElem_toArray, List.getElem_map, List.getElem_range]
       exact hr i h1
      | false =>
       simp only [hag, hsz] at h
       refine ⟨_, _, C 0, h.2, K7 hag (by have := hc 0 (by omega); simpa using this), .pure ?_⟩
       rw [w9 (by omega)]; exact hr 0 (by omega)
 | any => exact h.elim
 | raw _ => exact h.elim
 | list _ => exact h.elim
 | agg _ => exact h.elim
 | tup _ => exact h.elim
 | own _ _ _ _ => exact h.elim
 | fn _ _ => exact h.elim
 | mp _ => exact h.elim
 | yld _ => exact h.elim
 | ifp _ _ _ => exact h.elim
 | fmap _ _ => exact h.elim
theorem VR.raw_eq {v x : Value} (h : VR w I loc (.raw v) x) : x = v := by
 cases h with
 | pure h => cases h; rfl
theorem VR.agg_inv {cs : List AV} {x : Value} (h : VR w I loc (.agg cs) x) : ∃ vs : Array Value, x = .agg vs ∧ cs.length = vs.size ∧ ∀ i (h : i < cs.length) (h' : i < vs.size), VR w I loc cs[i] vs[i] := by
 cases h with
 | pure h => cases h with
  | agg _ vs h1 h2 => exact ⟨vs, rfl, h1, fun i h h' => .pure (h2 i h h')⟩
 | agg _ vs h1 h2 => exact ⟨vs, rfl, h1, h2⟩
theorem zGh {op : BinOp} {k : IntKind} {x y : Int} {K : Cont} (h : zOI op k x y K) {t : TypeId} (hop : op ≠ .shl ∧ op ≠ .shr) :
  ∃ v r, K v [] [] ∧ v = .raw r ∧ r.oneCell' = true ∧ (binOp op t (.int k x) (.int k y)).run P w = .ok r w := by
 unfold zOI at h
 cases op <;> simp only [zOa] at h
 case quo => exact ⟨_, _, h.2, rfl, rfl, by simp [binOp, Op.intDiv, h.1]⟩
 case rem => exact ⟨_, _, h.2, rfl, rfl, by simp [binOp, Op.intDiv, h.1]⟩
 all_goals exact ⟨_, _, h, rfl, rfl, by simp [binOp, Op.intArith, Op.intBits, Op.intCmp]⟩
theorem zJe {op : BinOp} {x y : ByteArray} {K : Cont} (h : zOR op x y K) {t : TypeId} :
  ∃ v r, K v [] [] ∧ v = .raw r ∧ r.oneCell' = true ∧ (binOp op t (.string x) (.string y)).run P w = .ok r w := by
 unfold zOR at h
 cases op <;> simp only at h
 case add =>
  have h1 : ¬ ((x.size + y.size : Nat) : Int) > IntKind.i64.max := by
   have : IntKind.i64.max = 9223372036854775807 := by decide
   rw [this]; omega
  exact ⟨_, _, h.2, rfl, rfl, by simp only [binOp, Op.stringOp, h1, if_false, Sem.run_pure]⟩
 all_goals exact ⟨_, _, h, rfl, rfl, by simp [binOp, Op.stringOp]⟩
theorem K5 : ∀ {xs : List AV} {vs : List Value}, l0 xs = some vs → ∀ (us : List Value), xs.length = us.length → (∀ i (h : i < xs.length) (h' : i < us.length), VR w I loc xs[i] us[i]) → us = vs
 | [], vs, h, us, hl, _ => by
  simp only [l0, Option.some.injEq] at h; subst h
  exact List.eq_nil_of_length_eq_zero (by simpa using hl.symm)
 | x :: r, vs, h, us, hl, hv => by
  cases x with
  | raw v =>
   simp only [l0] at h
   cases hr : l0 r with
   | none => rw [hr] at h; cases h
   | some ws =>
    rw [hr] at h; simp at h; subst h
    cases us with
    | nil => simp at hl
    | cons u us =>
     have h0 := (hv 0 (by simp) (by simp)).raw_eq
     have ih := K5 hr us (by simpa using hl) (fun i h1 h2 => by have := hv (i + 1) (by simpa using h1) (by simpa using h2); simpa using this)
     simp at h0
     rw [h0, ih]
  | _ => simp [l0] at h
theorem zFE {t : TypeId} {xs ys : List Value} {r : Bool} (h : eqC P t xs ys = some r) : N4 P t xs ys r := by
 unfold eqC at h
 split at h
 ·rename_i hx
  simp at h; subst h
  exact Classical.choose_spec hx
 ·cases h
theorem zFF (op : BinOp) (t : TypeId) (x y : Operand) (u v : Value) (hu : ∀ cs, u ≠ .agg cs) (hu' : u ≠ .nilIface) : (eqGuard op t x y u v).run P w = .ok () w := by
 cases u with
 | agg cs => exact absurd rfl (hu cs)
 | nilIface => exact absurd rfl hu'
 | _ => cases op <;> cases v <;> rfl
theorem zIB (d : Nat) {t : TypeId} (hu : P.underlying t = some .bool) (x y : Bool) : (Op.equalIn (d + 1) t (.bool x) (.bool y)).run P w = .ok (x == y) w := by
 simp only [Op.equalIn, Sem.run_bind, run_underlying hu, Result.andThen_ok, Sem.run_pure]
theorem zCu {t : TypeId} (hu : P.underlying t = some .bool) (x y : Bool) : (Op.equal t (.bool x) (.bool y)).run P w = .ok (x == y) w := by
 unfold Op.equal Op.maxDepth
 exact zIB 9999 hu x y
theorem zIC (d : Nat) {t e : TypeId} (hu : P.underlying t = some (.slice e)) (a : Option Addr) (n c : Nat) : (Op.equalIn (d + 1) t (.slice a n c) (.slice none 0 0)).run P w = .ok a.isNone w := by
 cases a <;> simp only [Op.equalIn, Sem.run_bind, run_underlying hu, Result.andThen_ok, Sem.run_pure] <;> rfl
theorem zCv {t e : TypeId} (hu : P.underlying t = some (.slice e)) (a : Option Addr) (n c : Nat) : (Op.equal t (.slice a n c) (.slice none 0 0)).run P w = .ok a.isNone w := by
 unfold Op.equal Op.maxDepth
 exact zIC 9999 hu a n c
theorem zHN {x : AV} {u : Value} {r : Bool} (hx : VR w I loc x u) (h : G9 x = some r) : ∃ a n c, u = .slice a n c ∧ a.isNone = r := by
 unfold G9 at h
 split at h
 ·cases h
  cases hx with
  | pure hx => cases hx with
   | list b off cap sz xs C => exact ⟨_, _, _, rfl, rfl⟩
 ·cases h
  cases hx with
  | pure hx => cases hx
  | own => exact ⟨_, _, _, rfl, rfl⟩
 ·cases h
  exact ⟨_, _, _, hx.raw_eq, rfl⟩
 ·cases h
def I6 (op : BinOp) (t : TypeId) (x y : Operand) (u v : Value) : Sem Value := do eqGuard op t x y u v; binOp op t u v
theorem zEW {op : BinOp} {t : TypeId} {x y : AV} {ox oy : Operand} {u v : Value} (hx : VR w I loc x u) (hy : VR w I loc y v) {K : Cont} (h : zOB P op t x y K) :
  ∃ z r, K z [] [] ∧ z = .raw r ∧ r.oneCell' = true ∧ (I6 op t ox oy u v).run P w = .ok r w := by
 have plain : ∀ {u v : Value}, (∀ cs, u ≠ .agg cs) → u ≠ .nilIface → (I6 op t ox oy u v).run P w = (binOp op t u v).run P w := fun {u v} h1 h2 => by
  unfold I6; rw [Sem.run_bind, zFF op t ox oy u v h1 h2]; rfl
 unfold zOB at h
 split at h
 ·rename_i k a k' b
  have e1 := hx.raw_eq; have e2 := hy.raw_eq
  subst e1; subst e2
  rw [plain (by simp) (by simp)]
  split at h
  ·simp only [T7] at h
   refine ⟨_, _, h.2, rfl, rfl, ?_⟩
   simp [binOp, Op.shift, show ¬ b < 0 by omega]
  ·simp only [T7] at h
   refine ⟨_, _, h.2, rfl, rfl, ?_⟩
   simp [binOp, Op.shift, show ¬ b < 0 by omega]
  ·rename_i h1 h2
   obtain ⟨rfl, h⟩ := h
   exact zGh h ⟨h1, h2⟩
 ·have e1 := hx.raw_eq; have e2 := hy.raw_eq
  subst e1; subst e2
  rw [plain (by simp) (by simp)]
  exact zJe h
 ·have e1 := hx.raw_eq; have e2 := hy.raw_eq
  subst e1; subst e2
  rw [plain (by simp) (by simp)]
  split at h
  ·rename_i hu
   split at h
   ·exact ⟨_, _, h, rfl, rfl, by simp only [binOp, Sem.run_bind, zCu hu, Result.andThen_ok, Sem.run_pure]⟩
   ·exact ⟨_, _, h, rfl, rfl, by simp only [binOp, Sem.run_bind, zCu hu, Result.andThen_ok, Sem.run_pure]⟩
   ·exact h.elim
  ·exact h.elim
 ·rename_i xs ys
  unfold I4 at h
  obtain ⟨us, rfl, hl1, hv1⟩ := hx.agg_inv
  obtain ⟨vs, rfl, hl2, hv2⟩ := hy.agg_inv
  cases hr1 : l0 xs with
  | none => simp only [hr1] at h
  | some xs' =>
   cases hr2 : l0 ys with
   | none => simp only [hr1, hr2] at h
   | some ys' =>
    simp only [hr1, hr2] at h
    have e1 : us.toList = xs' := K5 hr1 us.toList (by simpa using hl1) (fun i h h' => by have := hv1 i h (by simpa using h'); simpa using this)
    have e2 : vs.toList = ys' := K5 hr2 vs.toList (by simpa using hl2) (fun i h h' => by have := hv2 i h (by simpa using h'); simpa using this)
    cases hq : eqC P t xs' ys' with
    | none => simp only [hq] at h
    | some r =>
     simp only [hq] at h
     have hrun := zFE hq ox oy w
     have e3 : us = xs'.toArray := by rw [← e1]
     have e4 : vs = ys'.toArray := by rw [← e2]
     subst e3; subst e4
     split at h
     ·exact ⟨_, _, h, rfl, rfl, hrun.1⟩
     ·exact ⟨_, _, h, rfl, rfl, hrun.2⟩
     ·exact h.elim
 ·have e2 := hy.raw_eq
  subst e2
  unfold G8 at h
  split at h
  ·rename_i r e hr hu
   obtain ⟨a, n, c, rfl, rfl⟩ := zHN hx hr
   rw [plain (by simp) (by simp)]
   split at h
   ·exact ⟨_, _, h, rfl, rfl, by simp only [binOp, Sem.run_bind, zCv hu, Result.andThen_ok, Sem.run_pure]⟩
   ·exact ⟨_, _, h, rfl, rfl, by simp only [binOp, Sem.run_bind, zCv hu, Result.andThen_ok, Sem.run_pure]⟩
   ·exact h.elim
  ·exact h.elim
 ·exact h.elim
end
end Go.Abs

namespace Go.Abs
open Go
section
variable {P : Program} {E : Env} {I : Nat → Prop} {loc : Nat → Loc} {σ : AS} {a : Act} {w : World}
theorem zHe {c x y : AV} {vc vx vy : Value} (hc : VR w I loc c vc) (hx : VR w I loc x vx) (hy : VR w I loc y vy) {K : Cont} (h : O0 c x y K) :
  ∃ v z, K v [] [] ∧ (do pure (Next.value (if ← asBool vc then vx else vy)) : Sem Next).run P w = .ok (.value z) w ∧ VR w I loc v z := by
 unfold O0 at h
 split at h
 ·rename_i t
  have e := hc.raw_eq; subst e
  refine ⟨_, if t = true then vx else vy, h, by simp [asBool], ?_⟩
  cases t <;> simp <;> assumption
 ·exact h.elim
def zDu : Value → Prop
 | .pointer none => False
 | .nilIface => False
 | .nilFunc => False
 | .func (.method _) _ _ => False
 | _ => True
theorem zHM {x : AV} {v : Value} (hx : VR w I loc x v) {K : Cont} (h : zOQ x K) : K x [] [] ∧ zDu v := by
 unfold zOQ at h
 cases x with
 | ptr => cases hx with
  | pure hx => cases hx
  | ptr => exact ⟨h, trivial⟩
 | eptr => cases hx with
  | pure hx => cases hx
  | eptr => exact ⟨h, trivial⟩
 | elt => cases hx with
  | pure hx => cases hx; exact ⟨h, trivial⟩
 | fn => cases hx with
  | pure hx => cases hx
  | fn => exact ⟨h, trivial⟩
 | _ => exact h.elim
theorem zJq {op : UnOp} {x : AV} {u : Value} (hx : VR w I loc x u) {K : Cont} (h : unA op x K) : ∃ v r, K v [] [] ∧ v = .raw r ∧ r.oneCell' = true ∧ (Op.unary op u).run P w = .ok r w := by
 unfold unA at h
 split at h
 ·have e := hx.raw_eq; subst e; exact ⟨_, _, h, rfl, rfl, by simp [Op.unary]⟩
 ·have e := hx.raw_eq; subst e; exact ⟨_, _, h, rfl, rfl, by simp [Op.unary, Op.intArith]⟩
 ·exact h.elim
theorem zAF {t : TypeId} {k : IntKind} (h : zOP P t = some k) : P.underlying t = some (.int k) := by
 unfold zOP at h
 split at h
 ·simp at h; subst h; assumption
 ·cases h
theorem B6 {s f u off : Nat} (h : y2 P s f = some (u, off)) : ∃ fs x, P.underlying s = some (.struct fs) ∧ fs[f]? = some x ∧ x.type = u ∧ x.offset = off := by
 unfold y2 at h
 split at h
 ·rename_i fs hu
  cases hf : fs[f]? with
  | none => rw [hf] at h; cases h
  | some x => rw [hf] at h; simp at h; exact ⟨fs, x, hu, hf, h.1, h.2⟩
 ·cases h
theorem E0 {s f u off n b p : Nat} (hf : y2 P s f = some (u, off)) (hn : sizeT P u = some n) (h0 : n ≠ 0) :
  (Instr.fieldAt s (.pointer (some ⟨b, p, none⟩)) f).run P w = .ok (.pointer (some ⟨b, p + off, none⟩)) w := by
 obtain ⟨fs, x, h1, h2, h3, h4⟩ := B6 hf
 subst h3; subst h4
 simp only [Instr.fieldAt, Sem.run_bind, run_underlying h1, Result.andThen_ok, h2, Instr.sureAddr, Sem.run_pure, fieldPlace, p3 hn, h0, if_false, l4]
theorem zFM {s f : Nat} {x : AV} {u : Value} (hx : VR w I loc x u) {K : Cont} (h : X6 P s x f K) :
  ∃ v y, K v [] [] ∧ (Instr.fieldAt s u f).run P w = .ok y w ∧ VR w I loc v y := by
 unfold X6 at h
 cases hf : y2 P s f with
 | none => simp only [hf] at h
 | some uo =>
  obtain ⟨ut, off⟩ := uo
  simp only [hf] at h
  cases hn : sizeT P ut with
  | none => simp only [hn] at h
  | some n =>
   cases hg : v8 P ut with
   | none => simp only [hn, hg] at h
   | some ag =>
    simp only [hn, hg] at h
    obtain ⟨h0, h⟩ := h
    cases x with
    | ptr o p =>
     cases hx with
     | pure hx => cases hx
     | ptr _ _ b c hl => exact ⟨_, _, h, E0 hf hn h0, .ptr _ _ b c hl⟩
    | eptr o sz i p =>
     cases hx with
     | pure hx => cases hx
     | eptr _ _ _ _ b c hl => exact ⟨_, _, h, E0 hf hn h0, by rw [Nat.add_assoc]; exact .eptr _ _ _ _ b c hl⟩
    | elt x =>
     cases x with
     | agg cs =>
      cases hx with
      | pure hx =>
       cases hx with
       | elt b p _ C hb hc hr =>
        obtain ⟨hfit, h⟩ := h
        simp only [AV.cells] at hc hr
        split at h
        ·refine ⟨_, _, h, E0 hf hn h0, .pure (.elt b (p + off) _ (fun j => C (off + j)) hb (fun j hj => ?_) (fun j hj => ?_))⟩
         ·simp [AV.cells] at hj
          have := hc (off + j) (by omega)
          rw [← Nat.add_assoc] at this; exact this
         ·simp [AV.cells] at hj
          simp only [AV.cells, List.getElem_take, List.getElem_drop]
          exact hr (off + j) (by omega)
        ·obtain ⟨h1, h2, h3, h⟩ := h
         have hlt : off < cs.length := by omega
         rw [w9 hlt] at h h2 h3
         have hcell : (cs[off]).cells = [cs[off]] := by
          generalize cs[off] = y at *
          cases y with
          | agg _ => exact h3.elim
          | _ => rfl
         refine ⟨_, _, h, E0 hf hn h0, .pure (.elt b (p + off) _ (fun _ => C off) hb (fun j hj => ?_) (fun j hj => ?_))⟩
         ·have hj0 : j = 0 := by omega
          subst hj0
          exact hc off hlt
         ·have hj0 : j = 0 := by omega
          subst hj0
          simp only [hcell, List.getElem_cons_zero]
          exact hr off hlt
     | _ => exact h.elim
    | _ => exact h.elim
theorem E2 {t : TypeId} {vs : Array Value} {off : Nat} : ∀ {b : Bool}, v8 P t = some b → ∃ e, (part t vs off).run P w = (if b = true then (do pure (.agg (vs.extract off (off + (← sizeOf t)))) : Sem Value) else
  (match vs[off]? with | some v => pure v | none => stuck e)).run P w := by
 intro b h
 simp only [part, Sem.run_bind, zAi h, Result.andThen_ok]
 cases b
 ·exact ⟨_, rfl⟩
 ·exact ⟨default, by simp⟩
theorem zCb {t : TypeId} {cs : List AV} {vs : Array Value} {off : Nat} (hl : cs.length = vs.size) (hv : ∀ i (h : i < cs.length) (h' : i < vs.size), VR w I loc cs[i] vs[i]) {K : Cont} (h : T5 P t cs off K) :
  ∃ v y, K v [] [] ∧ (part t vs off).run P w = .ok y w ∧ VR w I loc v y := by
 unfold T5 at h
 cases hg : v8 P t with
 | none => simp only [hg] at h
 | some ag =>
  cases hn : sizeT P t with
  | none => cases ag <;> simp only [hg, hn] at h
  | some n =>
   cases ag with
   | true =>
    simp only [hg, hn] at h
    refine ⟨_, _, h, by obtain ⟨e, hp⟩ := E2 (P := P) (w := w) (vs := vs) (off := off) hg; rw [hp]; simp [p3 hn]; rfl, ?_⟩
    refine .agg _ _ (by simp; omega) (fun i h1 h2 => ?_)
    simp at h1 h2
    simp only [List.getElem_take, List.getElem_drop, Array.getElem_extract]
    exact hv _ _ _
   | false =>
    simp only [hg, hn] at h
    refine ⟨_, vs[off]'(by omega), h.2, ?_, ?_⟩
    ·obtain ⟨e, hp⟩ := E2 (P := P) (w := w) (vs := vs) (off := off) hg; rw [hp]; simp [show off < vs.size by omega]
    ·rw [w9 h.1]; exact hv off h.1 _
theorem zFL {s f : Nat} {x : AV} {u : Value} (hx : VR w I loc x u) {K : Cont} (h : R5 P s x f K) :
  ∃ v y, K v [] [] ∧ (Instr.field s u f).run P w = .ok y w ∧ VR w I loc v y := by
 unfold R5 at h
 split at h
 ·rename_i ut off cs hf
  obtain ⟨vs, rfl, hl, hv⟩ := hx.agg_inv
  obtain ⟨fs, x, h1, h2, h3, h4⟩ := B6 hf
  subst h3; subst h4
  obtain ⟨v, y, hK, hr, hy⟩ := zCb (P := P) hl hv h
  exact ⟨v, y, hK, by simp only [Instr.field, Sem.run_bind, run_underlying h1, Result.andThen_ok, h2, asAgg, Sem.run_pure]; exact hr, hy⟩
 ·exact h.elim
theorem c9 {t e : TypeId} (h : sliceT P t = some e) : P.underlying t = some (.slice e) := by
 unfold sliceT at h
 split at h
 ·simp at h; subst h; assumption
 ·cases h
theorem zBI {t : TypeId} {n e : Nat} (h : U3 P t = some (n, e)) : P.underlying t = some (.array n e) := by
 unfold U3 at h
 split at h
 ·simp at h; obtain ⟨rfl, rfl⟩ := h; assumption
 ·cases h
theorem PR.elem {xs : List AV} {v : Value} (h : PR w I (.list xs) v) {n : Nat} (hn : n < xs.length) :
  ∃ b off cap sz, v = .slice (some ⟨b, off, none⟩) xs.length cap ∧ (xs[n]).cells.length = sz ∧ 0 < sz ∧ PR w I (.elt xs[n]) (.pointer (some ⟨b, off + n * sz, none⟩)) := by
 cases h with
 | nil => simp at hn
 | list b off cap sz _ C hb hs hc hl hcell hr =>
  refine ⟨b, off, cap, sz, rfl, hl n hn, hs, .elt b _ _ (fun j => C n j) hb (fun j hj => hcell n j hn (by rw [← hl n hn]; exact hj)) (fun j hj => hr n hn j hj)⟩
theorem zCw {t e sz len cap : Nat} {k : IntKind} {n : Int} {b off : Nat} (ht : P.underlying t = some (.slice e)) (hs : sizeT P e = some sz) (h0 : 0 ≤ n) (hn : n < len) :
  (Instr.indexAt t (.slice (some ⟨b, off, none⟩) len cap) (.int k n)).run P w = .ok (.pointer (some ⟨b, off + n.toNat * sz, none⟩)) w := by
 have hc : 0 ≤ n ∧ n < (len : Int) := ⟨h0, hn⟩
 simp [Instr.indexAt, asIntOf, run_underlying ht, hc, p3 hs, l4]
theorem zGc {t : TypeId} {x i : AV} {u v : Value} (hx : VR w I loc x u) (hi : VR w I loc i v) {K : Cont} (h : W1 P t x i K) :
  ∃ z y, K z [] [] ∧ (Instr.indexAt t u v).run P w = .ok y w ∧ VR w I loc z y := by
 unfold W1 at h
 split at h
 ·rename_i k n
  have e := hi.raw_eq; subst e
  split at h
  ·rename_i e xs ht
   obtain ⟨⟨h0, hn⟩, hs, h⟩ := h
   have hlt : n.toNat < xs.length := by omega
   rw [w9 hlt] at h hs
   obtain ⟨b, off, cap, sz, rfl, hsz, hpos, hp⟩ := (hx.toPR (.list _)).elem hlt
   rw [hsz] at hs
   exact ⟨_, _, h, zCw (c9 ht) hs h0 (by omega), .pure hp⟩
  ·rename_i e o sz off len ht
   obtain ⟨⟨h0, hn⟩, hs, h⟩ := h
   cases hx with
   | pure hx => cases hx
   | ownN => omega
   | own _ _ _ _ b c ad cap hl h1 h2 h3 =>
    have hcap : 0 < cap := by omega
    have := h3 hcap; subst this
    refine ⟨_, _, h, zCw (c9 ht) hs h0 hn, ?_⟩
    have e1 : off * sz + n.toNat * sz = (off + n.toNat) * sz + 0 := by rw [Nat.add_mul]; rfl
    rw [e1]; exact .eptr _ _ _ _ b c hl
  ·rename_i o off ht
   cases hat : U3 P t with
   | none => simp only [hat] at h
   | some le =>
    obtain ⟨len, e⟩ := le
    simp only [hat] at h
    cases hs : sizeT P e with
    | none => simp only [hs] at h
    | some sz =>
     simp only [hs] at h
     obtain ⟨⟨h0, hn⟩, h⟩ := h
     cases hx with
     | pure hx => cases hx
     | ptr _ _ b c hl =>
      have hc : 0 ≤ n ∧ n < (len : Int) := ⟨h0, hn⟩
      exact ⟨_, _, h, by simp [Instr.indexAt, asIntOf, run_underlying (zBI hat), Instr.sureAddr, hc, p3 hs, l4], .ptr _ _ b c hl⟩
  ·exact h.elim
 ·exact h.elim
theorem V8 {t : TypeId} (h : b8 P t = true) : P.underlying t = some .string := by
 unfold b8 at h
 split at h
 ·assumption
 ·cases h
theorem zGb {t : TypeId} {x i : AV} {u v : Value} (hx : VR w I loc x u) (hi : VR w I loc i v) {K : Cont} (h : R8 P t x i K) :
  ∃ z y, K z [] [] ∧ (Instr.index t u v).run P w = .ok y w ∧ VR w I loc z y := by
 unfold R8 at h
 split at h
 ·rename_i k n s
  have e1 := hi.raw_eq; have e2 := hx.raw_eq; subst e1; subst e2
  obtain ⟨ht, ⟨h0, hn⟩, h⟩ := h
  have hlt : n.toNat < s.size := by omega
  refine ⟨_, _, h, ?_, .pure (.raw _ rfl)⟩
  have hg : s[n.toNat]? = some (s.data.toList.getD n.toNat 0) := by
   have hd : n.toNat < s.data.toList.length := by simpa using hlt
   rw [w9 hd]
   have e3 : s[n.toNat]? = some s[n.toNat] := by simp [hlt]
   rw [e3]; rfl
  simp [Instr.index, asIntOf, run_underlying (V8 ht), h0, hg]
 ·rename_i k n cs
  have e1 := hi.raw_eq; subst e1
  obtain ⟨vs, rfl, hl, hv⟩ := hx.agg_inv
  cases hat : U3 P t with
  | none => simp only [hat] at h
  | some le =>
   obtain ⟨len, e⟩ := le
   simp only [hat] at h
   cases hs : sizeT P e with
   | none => simp only [hs] at h
   | some sz =>
    simp only [hs] at h
    obtain ⟨⟨h0, hn⟩, h⟩ := h
    obtain ⟨z, y, hK, hr, hy⟩ := zCb (P := P) hl hv h
    have hc : 0 ≤ n ∧ n < (len : Int) := ⟨h0, hn⟩
    refine ⟨z, y, hK, ?_, hy⟩
    simp only [Instr.index, asIntOf, Sem.run_bind, Sem.run_pure, Result.andThen_ok, run_underlying (zBI hat), hc, and_self, if_true, p3 hs]
    exact hr
 ·exact h.elim
theorem zFJ {x : AV} {i : Nat} {u : Value} (hx : VR w I loc x u) {K : Cont} (h : R4 x i K) : ∃ v y, K v [] [] ∧ (Instr.extract u i).run P w = .ok y w ∧ VR w I loc v y := by
 unfold R4 at h
 cases x with
 | tup vs =>
  cases hx with
  | pure hx => cases hx
  | tup _ us hl hv =>
   refine ⟨_, us[i]'(by omega), h.2, ?_, ?_⟩
   ·simp [Instr.extract, show i < us.size by omega]
   ·rw [w9 h.1]; exact hv i h.1 _
 | _ => exact h.elim
theorem L6 {lo : Option AV} {vlo : Option Value} {l : Int} (hv : ∀ x, lo = some x → ∃ v, vlo = some v ∧ VR w I loc x v) (hn : lo = none → vlo = none) (h : loA lo = some l) :
  (vlo = none ∧ l = 0) ∨ ∃ k, vlo = some (.int k l) := by
 cases lo with
 | none => simp [loA] at h; exact .inl ⟨hn rfl, h.symm⟩
 | some x =>
  obtain ⟨v, rfl, hx⟩ := hv x rfl
  cases x with
  | raw u =>
   have e := hx.raw_eq; subst e
   cases v <;> simp [loA] at h
   subst h; exact .inr ⟨_, rfl⟩
  | _ => simp [loA] at h
theorem L1 {lo : Option AV} {vlo : Option Value} {l : Int} {len : Nat} (hv : ∀ x, lo = some x → ∃ v, vlo = some v ∧ VR w I loc x v) (hn : lo = none → vlo = none) (h : hiA len lo = some l) :
  (vlo = none ∧ l = len) ∨ ∃ k, vlo = some (.int k l) := by
 cases lo with
 | none => simp [hiA] at h; exact .inl ⟨hn rfl, h.symm⟩
 | some x =>
  obtain ⟨v, rfl, hx⟩ := hv x rfl
  cases x with
  | raw u =>
   have e := hx.raw_eq; subst e
   cases v <;> simp [hiA] at h
   subst h; exact .inr ⟨_, rfl⟩
  | _ => simp [hiA] at h
theorem K8 {isS : Bool} {len cap : Nat} {vlo vhi : Option Value} {l h : Int} (hl : (vlo = none ∧ l = 0) ∨ ∃ k, vlo = some (.int k l)) (hh : (vhi = none ∧ h = len) ∨ ∃ k, vhi = some (.int k h))
  (h0 : 0 ≤ l) (h1 : l ≤ h) (h2 : h ≤ len) (hc : len ≤ cap) : (Instr.sliceBounds isS len cap vlo vhi none).run P w = .ok (l.toNat, h.toNat, cap) w := by
 have e1 : ∀ k, (Instr.sliceBound (.int k h) cap (if isS then .sliceAcap else .sliceAlen)).run P w = .ok h.toNat w := fun k => by
  have hb : 0 ≤ h ∧ h ≤ (cap : Int) := ⟨by omega, by omega⟩
  simp [Instr.sliceBound, asIntOf, hb]
 have e2 : ∀ k, (Instr.sliceBound (.int k l) h.toNat .sliceB).run P w = .ok l.toNat w := fun k => by
  have hb : 0 ≤ l ∧ l ≤ ((h.toNat : Nat) : Int) := ⟨h0, by omega⟩
  simp only [Instr.sliceBound, asIntOf, Sem.run_bind, Sem.run_pure, Result.andThen_ok, hb, and_self, if_true]
 rcases hh with ⟨rfl, rfl⟩ | ⟨k, rfl⟩
 ·rcases hl with ⟨rfl, rfl⟩ | ⟨k', rfl⟩
  ·simp [Instr.sliceBounds]
  ·have e3 := e2 k'
   simp only [Int.toNat_natCast] at e3
   simp [Instr.sliceBounds, e3]
 ·rcases hl with ⟨rfl, rfl⟩ | ⟨k', rfl⟩
  ·simp only [Instr.sliceBounds, Sem.run_bind, Sem.run_pure, Result.andThen_ok, e1 k]; rfl
  ·simp only [Instr.sliceBounds, Sem.run_bind, Sem.run_pure, Result.andThen_ok, e1 k, Option.isSome, Bool.false_eq_true, if_false, e2 k']
theorem zIR {t : TypeId} {x : AV} {lo hi mx : Option AV} {u : Value} {vlo vhi vmx : Option Value} (hx : VR w I loc x u)
  (hlo : ∀ x, lo = some x → ∃ v, vlo = some v ∧ VR w I loc x v) (hlo' : lo = none → vlo = none) (hhi : ∀ x, hi = some x → ∃ v, vhi = some v ∧ VR w I loc x v) (hhi' : hi = none → vhi = none) (hmx : mx = none → vmx = none)
  {K : Cont} (h : O8 P t x lo hi mx K) : ∃ v y, K v [] [] ∧ (Instr.sliceAt t u vlo vhi vmx).run P w = .ok y w ∧ VR w I loc v y := by
 unfold O8 at h
 cases mx with
 | some m => exact h.elim
 | none =>
  have := hmx rfl; subst this
  simp only at h
  split at h
  ·rename_i s
   have e := hx.raw_eq; subst e
   obtain ⟨ht, h⟩ := h
   split at h
   ·rename_i l hh hl1 hh1
    obtain ⟨⟨h0, h1, h2⟩, h⟩ := h
    have hb := K8 (P := P) (w := w) (isS := false) (L6 hlo hlo' hl1) (L1 hhi hhi' hh1) h0 h1 h2 (Nat.le_refl _)
    have hu := V8 ht
    refine ⟨_, _, h, ?_, .pure (.raw _ rfl)⟩
    simp only [Instr.sliceAt, Sem.run_bind, run_underlying hu, Result.andThen_ok, Instr.slice, hb, Sem.run_pure, Option.isSome, Bool.false_eq_true, if_false]
   ·exact h.elim
  ·rename_i xs
   split at h
   ·rename_i e l hh ht hl1 hh1
    cases hsz : sizeT P e with
    | none => simp only [hsz] at h
    | some sz =>
     simp only [hsz] at h
     obtain ⟨⟨h0, h1, h2⟩, hall, h⟩ := h
     have hu := c9 ht
     have hp := hx.toPR (.list _)
     cases hp with
     | nil ad cap =>
      have e1 : hh = 0 := by simp at h2; omega
      have e2 : l = 0 := by omega
      subst e1; subst e2
      have hb := K8 (P := P) (w := w) (isS := true) (cap := cap) (len := 0) (L6 hlo hlo' hl1) (L1 hhi hhi' hh1) (by omega) (by omega) (by simp) (Nat.zero_le _)
      refine ⟨_, .slice (if cap = 0 then ad else ad.map (·.add (0 * sz))) 0 cap, h, ?_, by simpa using VR.pure (PR.nil _ _)⟩
      simp only [Instr.sliceAt, Sem.run_bind, run_underlying hu, Result.andThen_ok, Instr.slice, hb, p3 hsz, Sem.run_pure, Int.toNat_zero, Nat.sub_zero]
     | list b off cap sz' _ C hb hs hc hl hcell hr =>
      have hbd := K8 (P := P) (w := w) (isS := true) (cap := cap) (L6 hlo hlo' hl1) (L1 hhi hhi' hh1) h0 h1 h2 hc
      refine ⟨_, .slice (if cap = l.toNat then some ⟨b, off, none⟩ else some ⟨b, off + l.toNat * sz, none⟩) (hh.toNat - l.toNat) (cap - l.toNat), h, ?_, ?_⟩
      ·simp only [Instr.sliceAt, Sem.run_bind, run_underlying hu, Result.andThen_ok, Instr.slice, hbd, p3 hsz, Sem.run_pure, Option.map_some, l4]
      ·refine .pure ?_
       by_cases hz : hh.toNat - l.toNat = 0
       ·rw [hz]; simpa using PR.nil _ _
       ·have hne : ¬ cap = l.toNat := by omega
        rw [if_neg hne]
        have hlen : ((xs.drop l.toNat).take (hh.toNat - l.toNat)).length = hh.toNat - l.toNat := by simp; omega
        have hxs : ∀ i, i < xs.length → sz' = sz := fun i hi => by rw [← hl i hi]; exact hall _ (List.getElem_mem hi)
        have hss : sz' = sz := hxs l.toNat (by omega)
        subst hss
        have key := PR.list (w := w) (I := I) b (off + l.toNat * sz') (cap - l.toNat) sz' ((xs.drop l.toNat).take (hh.toNat - l.toNat)) (fun i j => C (l.toNat + i) j) hb hs (by omega)
         (fun i hi => by simp only [List.getElem_take, List.getElem_drop]; exact hl _ _)
         (fun i j hi hj => by
          have := hcell (l.toNat + i) j (by omega) hj
          rw [Nat.add_mul] at this
          rw [Nat.add_assoc off]
          exact this)
         (fun i hi j hj => by
          simp only [List.getElem_take, List.getElem_drop]
          exact hr (l.toNat + i) (by omega) j (by simpa only [List.getElem_take, List.getElem_drop] using hj))
        rw [hlen] at key
        exact key
   ·exact h.elim
  ·rename_i o sz off len
   split at h
   ·rename_i e l hh ht hl1 hh1
    obtain ⟨⟨h0, h1, h2⟩, hsz, h⟩ := h
    have hu := c9 ht
    cases hx with
    | pure hx => cases hx
    | ownN _ _ hn =>
     have e1 : hh = 0 := by simp at h2; omega
     have e2 : l = 0 := by omega
     subst e1; subst e2
     have hb := K8 (P := P) (w := w) (isS := true) (cap := 0) (len := 0) (L6 hlo hlo' hl1) (L1 hhi hhi' hh1) (by omega) (by omega) (by simp) (Nat.zero_le _)
     refine ⟨_, .slice none 0 0, h, ?_, .ownN _ _ hn⟩
     simp [Instr.sliceAt, run_underlying hu, Instr.slice, hb, p3 hsz]
    | own _ _ _ _ b c ad cap hl g1 g2 g3 =>
     have hb := K8 (P := P) (w := w) (isS := true) (cap := cap) (L6 hlo hlo' hl1) (L1 hhi hhi' hh1) h0 h1 h2 g1
     refine ⟨_, .slice (some (if cap = l.toNat then ad else ad.add (l.toNat * sz))) (hh.toNat - l.toNat) (cap - l.toNat), h, ?_, ?_⟩
     ·simp only [Instr.sliceAt, Sem.run_bind, run_underlying hu, Result.andThen_ok, Instr.slice, hb, p3 hsz, Sem.run_pure, Option.map_some]
      split <;> rfl
     ·refine .own _ _ _ _ b c _ _ hl (by omega) ?_ ?_
      ·have e3 : off + l.toNat + (cap - l.toNat) = off + cap := by omega
       rw [e3]; exact g2
      ·intro hpos
       have hne : ¬ cap = l.toNat := by omega
       rw [if_neg hne, g3 (by omega), l4, Nat.add_mul]
   ·exact h.elim
  ·exact h.elim
theorem zGu {t : TypeId} {x : AV} {u : Value} (hx : VR w I loc x u) {n : Nat} (h : L5 P t x = some n) (ts : Array TypeId) (hts : ts.getD 0 0 = t) (h0 : 0 < ts.size) (ty : TypeId) :
  (Builtin.len_ ts ty #[u]).run P w = .ok (.int .i64 n) w := by
 have h1 : ts[0]? = some t := by
  have : ts[0]? = some ts[0] := by simp [h0]
  rw [this]; simp [h0] at hts; rw [hts]
 unfold L5 at h
 split at h
 ·rename_i s hu
  have e := hx.raw_eq; subst e
  simp at h; subst h
  simp [Builtin.len_, h1, run_underlying hu, goInt]
 ·rename_i e xs hu
  simp at h; subst h
  cases hx.toPR (.list _) <;> simp [Builtin.len_, h1, run_underlying hu, goInt]
 ·rename_i e o sz off len hu
  simp at h; subst h
  cases hx with
  | pure hx => cases hx
  | ownN => simp [Builtin.len_, h1, run_underlying hu, goInt]
  | own => simp [Builtin.len_, h1, run_underlying hu, goInt]
 ·rename_i e ad n' c hu
  have e := hx.raw_eq; subst e
  simp at h; subst h
  simp [Builtin.len_, h1, run_underlying hu, goInt]
 ·rename_i kt et ks xs hu
  simp at h; subst h
  cases hx.toPR (.fmap _ _) with
  | nmap => simp [Builtin.len_, h1, run_underlying hu, goInt]
  | fmap b es clock _ _ V hb hh hm =>
   have : es.size = ks.length := by have h1 := hm.1; have h2 := hm.2.1; simp at h2; omega
   simp [Builtin.len_, h1, run_underlying hu, goInt, MapKept.run_getObj_map hh, this]
 ·rename_i m e hu
  simp at h; subst h
  simp [Builtin.len_, h1, run_underlying hu, goInt]
 ·cases h
end
end Go.Abs

namespace Go.Abs
open Go
theorem zBn (off : Nat) : ∀ (us : List Value) (k : Nat) (C : Array Value), off + k + us.length ≤ C.size →
  (us.zipIdx k).foldl (fun (cs : Array Value) (p : Value × Nat) => cs.setIfInBounds (off + p.2) p.1) C = (C.toList.take (off + k) ++ us ++ C.toList.drop (off + k + us.length)).toArray
 | [], k, C, h => by simp
 | u :: us, k, C, h => by
  simp only [List.zipIdx_cons, List.foldl_cons]
  rw [zBn off us (k + 1) (C.setIfInBounds (off + k) u) (by simp at h ⊢; omega)]
  congr 1
  have := list_seg_step C.toList (off + k) u us (by simp at h ⊢; omega)
  rw [Array.toList_setIfInBounds]
  have e : off + (k + 1) = off + k + 1 := by omega
  rw [e]
  simpa using this
def spl (C : Array Value) (off : Nat) (us : Array Value) : Array Value := (C.toList.take off ++ us.toList ++ C.toList.drop (off + us.size)).toArray
theorem p4 {C : Array Value} {off : Nat} {us : Array Value} (h : off + us.size ≤ C.size) : (spl C off us).size = C.size := by simp [spl]; omega
theorem M9 {C : Array Value} {off : Nat} {us : Array Value} (h : off + us.size ≤ C.size) (i : Nat) (hi : i < (spl C off us).size) (hi' : i < C.size) :
  (spl C off us)[i] = if h2 : off ≤ i ∧ i < off + us.size then us[i - off]'(by omega) else C[i] := by
 have hl : (C.toList.take off).length = off := by simp; omega
 simp only [spl, List.getElem_toArray]
 by_cases h1 : i < off
 ·rw [dif_neg (by omega), List.getElem_append_left (by simp; omega), List.getElem_append_left (by simp; omega)]
  simp
 ·by_cases h2 : i < off + us.size
  ·rw [dif_pos ⟨by omega, h2⟩, List.getElem_append_left (by simp; omega), List.getElem_append_right (by omega)]
   simp [hl]
  ·rw [dif_neg (by omega), List.getElem_append_right (by simp; omega)]
   simp only [List.getElem_drop, Array.getElem_toList]
   congr 1
   simp only [List.length_append, hl, Array.length_toList]
   omega
theorem B8 {place : Nat → Option (Nat × Nat)} {C : Array Value} {i off size : Nat} {v : Value} {rest : List (Nat × Value)} (hp : place i = some (off, size)) (hs : v.cells.size = size) (hf : off + size ≤ C.size) :
  Instr.fill place C ((i, v) :: rest) = Instr.fill place (spl C off v.cells) rest := by
 have h1 : ¬ (v.cells.size ≠ size || off + v.cells.size > C.size) = true := by simp [hs]; omega
 simp only [Instr.fill, hp, h1, if_false]
 have := zBn off v.cells.toList 0 C (by simp; omega)
 simp only [Nat.add_zero] at this
 unfold spl
 rw [← Array.foldl_toList, Array.toList_zipIdx]
 have h2 := congrArg (fun c => Instr.fill place c rest) this
 simpa using h2
theorem zAL {cs ds : List AV} {off : Nat} (h : off + ds.length ≤ cs.length) : (splice cs off ds).length = cs.length := by simp [splice]; omega
theorem A6 {cs ds : List AV} {off : Nat} (h : off + ds.length ≤ cs.length) (i : Nat) (hi : i < (splice cs off ds).length) (hi' : i < cs.length) :
  (splice cs off ds)[i] = if h2 : off ≤ i ∧ i < off + ds.length then ds[i - off]'(by omega) else cs[i] := by
 have hl : (cs.take off).length = off := by simp; omega
 simp only [splice]
 by_cases h1 : i < off
 ·rw [dif_neg (by omega), List.getElem_append_left (by simp; omega), List.getElem_append_left (by simp; omega)]
  simp
 ·by_cases h2 : i < off + ds.length
  ·rw [dif_pos ⟨by omega, h2⟩, List.getElem_append_left (by simp; omega), List.getElem_append_right (by omega)]
   simp [hl]
  ·rw [dif_neg (by omega), List.getElem_append_right (by simp; omega)]
   simp only [List.getElem_drop]
   congr 1
   simp only [List.length_append, hl]
   omega
section
variable {P : Program} {E : Env} {I : Nat → Prop} {loc : Nat → Loc} {σ : AS} {a : Act} {w : World}
def CV (w : World) (I : Nat → Prop) (loc : Nat → Loc) (cs : List AV) (C : Array Value) : Prop := cs.length = C.size ∧ ∀ i (h : i < cs.length) (h' : i < C.size), VR w I loc cs[i] C[i]
def CL (w : World) (I : Nat → Prop) (loc : Nat → Loc) (cs : List AV) (C : Array Value) : Prop := cs.length ≤ C.size ∧ ∀ i (h : i < cs.length) (h' : i < C.size), VR w I loc cs[i] C[i]
theorem CL.splice {cs ds : List AV} {C us : Array Value} {off : Nat} (h : CL w I loc cs C) (hd : CV w I loc ds us) (hf : off + ds.length ≤ cs.length) : CL w I loc (splice cs off ds) (spl C off us) := by
 obtain ⟨h1, h2⟩ := h
 obtain ⟨h3, h4⟩ := hd
 have hf' : off + us.size ≤ C.size := by omega
 refine ⟨by rw [p4 hf']; simp [Go.Abs.splice]; omega, fun i hi hi' => ?_⟩
 rw [p4 hf'] at hi'
 have hic : i < cs.length := by rw [zAL hf] at hi; exact hi
 rw [M9 hf' i (by rw [p4 hf']; exact hi') hi']
 rw [A6 hf i hi hic]
 by_cases g : off ≤ i ∧ i < off + ds.length
 ·rw [dif_pos g, dif_pos (by omega)]; exact h4 _ _ _
 ·rw [dif_neg g, dif_neg (by omega)]; exact h2 i hic hi'
theorem CV.splice {cs ds : List AV} {C us : Array Value} {off : Nat} (h : CV w I loc cs C) (hd : CV w I loc ds us) (hf : off + ds.length ≤ cs.length) : CV w I loc (splice cs off ds) (spl C off us) := by
 obtain ⟨h1, h2⟩ := h
 obtain ⟨h3, h4⟩ := hd
 have hf' : off + us.size ≤ C.size := by omega
 refine ⟨by rw [p4 hf']; simp [Go.Abs.splice]; omega, fun i hi hi' => ?_⟩
 rw [p4 hf'] at hi'
 have hic : i < cs.length := by omega
 rw [M9 hf' i (by rw [p4 hf']; exact hi') hi']
 rw [A6 hf i hi hic]
 by_cases g : off ≤ i ∧ i < off + ds.length
 ·rw [dif_pos g, dif_pos (by omega)]; exact h4 _ _ _
 ·rw [dif_neg g, dif_neg (by omega)]; exact h2 i hic hi'
theorem zA7 {z : Value} (h : z.cells.all (·.oneCell') = true) : CV w I loc (z.cells.toList.map .raw) z.cells := by
 refine ⟨by simp, fun i h1 h2 => ?_⟩
 simp only [List.getElem_map, Array.getElem_toList]
 exact .pure (.raw _ (Array.all_eq_true.1 h i h2))
theorem VR.toCV {x : AV} {v : Value} (h : VR w I loc x v) (hx : x.sized = true) : CV w I loc x.cells v.cells := by
 obtain ⟨h1, h2⟩ := h.cells hx
 exact ⟨h1.symm, h2⟩
theorem zDx {t : TypeId} {nx : Nat} {K : Cont} (hs : SR E I loc σ a w) (h : S7 P t σ.obj nx K) :
  ∃ v rd A w' loc' y, K v rd [(nx, A)] ∧ (Instr.alloc t true (.tuple #[])).run P w = .ok y w' ∧ SR E I loc' (σ.setO nx A) a w' ∧ VR w' I loc' v y := by
 unfold S7 at h
 cases hz : zeroT P t with
 | none => simp only [hz] at h
 | some z =>
  simp only [hz] at h
  obtain ⟨h1, h2, h⟩ := h
  refine ⟨_, _, _, w.alloc (.cells z.cells t), q7 loc nx (.blk w.heap.size z.cells.size), .pointer (some ⟨w.heap.size, 0, none⟩), h, ?_, ?_, ?_⟩
  ·simp [Instr.alloc, O6 hz, newVar, newRow]
  ·have hc := zA7 (w := w.alloc (.cells z.cells t)) (I := I) (loc := q7 loc nx (.blk w.heap.size z.cells.size)) h1
   exact hs.born h2 _ (.inr ⟨w.heap.size, z.cells, t, by simp [q7], heap_alloc_new w _, Nat.le_of_eq hc.1, hc.2⟩)
  ·exact .ptr _ _ _ z.cells.size (by simp [q7])
theorem VR.alloc (hs : SR E I loc σ a w) {nx : Nat} (hn : σ.obj nx = .unb) {x : AV} {v : Value} (hx : VR w I loc x v) (ob : Obj) (L : Loc) : VR (w.alloc ob) I (q7 loc nx L) x v :=
 hx.mono (fun b hb => r6 _ _ _ (hs.imm b hb)) (fun _ hb => hb) (fun o ho => by unfold q7; rw [if_neg]; intro e; subst e; exact ho (hs.un hn))
theorem PR.alloc (hs : SR E I loc σ a w) {x : AV} {v : Value} (hx : PR w I x v) (ob : Obj) : PR (w.alloc ob) I x v :=
 hx.mono (fun b hb => r6 _ _ _ (hs.imm b hb)) (fun _ hb => hb)
theorem zEX {t : TypeId} {x : AV} {u : Value} {nx : Nat} {K : Cont} (hs : SR E I loc σ a w) (hx : VR w I loc x u) (h : zOV x σ.obj nx K) :
  ∃ v rd A w' loc' y, K v rd [(nx, A)] ∧ (Instr.box t u).run P w = .ok y w' ∧ SR E I loc' (σ.setO nx A) a w' ∧ VR w' I loc' v y := by
 obtain ⟨h1, h2, h⟩ := h
 have hc := (VR.alloc hs h2 hx (.cells u.cells t) (.blk w.heap.size u.cells.size)).toCV h1
 refine ⟨_, _, _, w.alloc (.cells u.cells t), q7 loc nx (.blk w.heap.size u.cells.size), .pointer (some ⟨w.heap.size, 0, none⟩), h, ?_, ?_, ?_⟩
 ·simp [Instr.box, newVar, newRow]
 ·exact hs.born h2 _ (.inr ⟨w.heap.size, u.cells, t, by simp [q7], heap_alloc_new w _, Nat.le_of_eq hc.1, hc.2⟩)
 ·exact .ptr _ _ _ u.cells.size (by simp [q7])
theorem zJa {C V : Array Value} {off : Nat} (h0 : 0 < off) (h : off + V.size ≤ C.size) : (spl C off V)[0]? = C[0]? := by
 have hc : 0 < C.size := by omega
 unfold spl
 rw [List.getElem?_toArray, List.append_assoc, List.getElem?_append_left (by simp; omega), List.getElem?_take, if_pos h0]
 simp
theorem zJd {t : TypeId} {x y : AV} {u v : Value} {K : Cont} (hs : SR E I loc σ a w) (hx : VR w I loc x u) (hy : VR w I loc y v) (h : V7 P t x y σ.obj K) :
    ∃ rd o A w', K (.tup []) rd [(o, A)] ∧ (Instr.storeAt t u v).run P w = .ok () w' ∧ SR E I loc (σ.setO o A) a w' := by
  have hcells : y.cells.all AV.one = true → y.sized = true := fun hh => by
    cases y <;> simp_all [AV.cells, AV.one, AV.sized]
  have hone : y.cells.all AV.one = true → ∀ z, z ∈ v.cells.toList → z.oneCell' = true := fun hh z hz => by
    obtain ⟨e1, e2⟩ := hy.cells (hcells hh)
    obtain ⟨i, hi, rfl⟩ := List.getElem_of_mem hz
    have hi' : i < y.cells.length := by rw [← e1]; simpa using hi
    have := e2 i hi' (by simpa using hi)
    have hyo := (List.all_eq_true.1 hh) _ (List.getElem_mem hi')
    simpa using this.one hyo
  unfold V7 at h
  cases x with
  | ptr o off =>
    cases hx with
    | pure hx => cases hx
    | ptr _ _ b c hl =>
      have ho := hs.objs o
      cases hA : σ.obj o with
      | box cs =>
        simp only [hA] at h ho
        rcases ho with ⟨h1, _⟩ | ⟨b', C, e, h1, h2, h3, h4⟩
        · rw [hl] at h1; cases h1
        rw [hl] at h1; cases h1
        obtain ⟨g1, g2, g3, h⟩ := h
        have hyc := hy.toCV (hcells g2)
        have hvs := hyc.1
        have hst := run_storeCells_at P b off e v.cells.toList 0 C w h2 (by simp; omega) (hone g2)
        have hspl : (C.toList.take (off + 0) ++ v.cells.toList ++ C.toList.drop (off + 0 + v.cells.toList.length)).toArray = spl C off v.cells := by simp [spl]
        rw [hspl] at hst
        refine ⟨_, _, _, w.setRow b (spl C off v.cells), h, ?_, ?_⟩
        · simp only [Instr.storeAt, Instr.sureAddr, Sem.run_bind, Sem.run_pure, Result.andThen_ok, storeVar, p3 g1]
          rw [if_neg (by simp; omega)]
          exact hst
        · have hlive : (σ.obj o).live = true := by rw [hA]; rfl
          have hI := (hs.sep o b C.size hlive hl)
          have hcv : CL (w.setRow b (spl C off v.cells)) I loc (splice cs off y.cells) (spl C off v.cells) := by
            have hmono : ∀ k, I k → (w.setRow b (spl C off v.cells)).heap[k]? = w.heap[k]? := fun k hk => setRow_other w b k _ (fun e => hI.1 (e ▸ hk))
            have hc1 : CL (w.setRow b (spl C off v.cells)) I loc cs C := ⟨h3, fun i hi hi' => (h4 i hi hi').mono hmono (fun _ x => x) (fun _ _ => rfl)⟩
            have hc2 : CV (w.setRow b (spl C off v.cells)) I loc y.cells v.cells := ⟨hyc.1, fun i hi hi' => (hyc.2 i hi hi').mono hmono (fun _ x => x) (fun _ _ => rfl)⟩
            exact hc1.splice hc2 g3
          refine hs.write hlive hl h2 (A := .box (splice cs off y.cells)) (.inr ⟨b, spl C off v.cells, e, ?_, setRow_heap w b C _ e _ h2, hcv.1, hcv.2⟩) (by simp)
          rw [p4 (by omega)]; exact hl
      | tbox e cs =>
        simp only [hA] at h ho
        obtain ⟨b', C, h1, h2, h0, h3', h4⟩ := ho
        have h3 : cs.length ≤ C.size := by omega
        rw [hl] at h1; cases h1
        obtain ⟨hoff, g1, g2, g3, h⟩ := h
        have hyc := hy.toCV (hcells g2)
        have hvs := hyc.1
        have hst := run_storeCells_at P b off e v.cells.toList 0 C w h2 (by simp; omega) (hone g2)
        have hspl : (C.toList.take (off + 0) ++ v.cells.toList ++ C.toList.drop (off + 0 + v.cells.toList.length)).toArray = spl C off v.cells := by simp [spl]
        rw [hspl] at hst
        refine ⟨_, _, _, w.setRow b (spl C off v.cells), h, ?_, ?_⟩
        · simp only [Instr.storeAt, Instr.sureAddr, Sem.run_bind, Sem.run_pure, Result.andThen_ok, storeVar, p3 g1]
          rw [if_neg (by simp; omega)]
          exact hst
        · have hlive : (σ.obj o).live = true := by rw [hA]; rfl
          have hI := (hs.sep o b C.size hlive hl)
          have hcv : CL (w.setRow b (spl C off v.cells)) I loc (splice cs off y.cells) (spl C off v.cells) := by
            have hmono : ∀ k, I k → (w.setRow b (spl C off v.cells)).heap[k]? = w.heap[k]? := fun k hk => setRow_other w b k _ (fun e => hI.1 (e ▸ hk))
            have hc1 : CL (w.setRow b (spl C off v.cells)) I loc cs C := ⟨h3, fun i hi hi' => (h4 i hi hi').mono hmono (fun _ x => x) (fun _ _ => rfl)⟩
            have hc2 : CV (w.setRow b (spl C off v.cells)) I loc y.cells v.cells := ⟨hyc.1, fun i hi hi' => (hyc.2 i hi hi').mono hmono (fun _ x => x) (fun _ _ => rfl)⟩
            exact hc1.splice hc2 g3
          refine hs.write hlive hl h2 (A := .tbox e (splice cs off y.cells)) ⟨b, spl C off v.cells, ?_, setRow_heap w b C _ e _ h2, by rw [zJa hoff (by omega)]; exact h0, by rw [p4 (by omega)]; unfold splice; simp; omega, hcv.2⟩ (by simp)
          rw [p4 (by omega)]; exact hl
      | _ => simp only [hA] at h
  | eptr o sz i off =>
    cases hx with
    | pure hx => cases hx
    | eptr _ _ _ _ b c hl =>
      have ho := hs.objs o
      cases hA : σ.obj o with
      | row sz' xs =>
        simp only [hA] at h ho
        obtain ⟨rfl, hi, g1, g2, g3, h⟩ := h
        obtain ⟨h0, hcl, ho⟩ := ho
        rcases ho with ⟨h1, _⟩ | ⟨b', C, e, h1, h2, h3, h4⟩
        · rw [hl] at h1; cases h1
        rw [hl] at h1; cases h1
        have hlen : (xs[i]).cells.length = sz := hcl i hi
        have hfit : i * sz + sz ≤ C.size := by
          have : (i + 1) * sz ≤ xs.length * sz := Nat.mul_le_mul_right _ hi
          rw [Nat.add_mul] at this; omega
        have hyp := hy.toPR g3
        obtain ⟨hvs, hvc⟩ := hyp.cells (hcells g2)
        have hlive : (σ.obj o).live = true := by rw [hA]; rfl
        have hI := (hs.sep o b C.size hlive hl)
        have hmono : ∀ k, I k → (w.setRow b (spl C (i * sz + off) v.cells)).heap[k]? = w.heap[k]? := fun k hk => setRow_other w b k _ (fun e => hI.1 (e ▸ hk))
        -- whatever the element becomes, cell by cell
        have key : ∀ z : AV, off + y.cells.length ≤ sz → ∀ (_ : z.cells.length = sz), (∀ j (hj : j < z.cells.length), z.cells[j] = if hh : off ≤ j ∧ j < off + y.cells.length then y.cells[j - off]'(by omega) else (xs[i]).cells[j]'(by omega)) →
            K (.tup []) [o] [(o, .row sz (xs.set i z))] → ∃ rd o A w', K (.tup []) rd [(o, A)] ∧ (Instr.storeAt t (.pointer (some ⟨b, i * sz + off, none⟩)) v).run P w = .ok () w' ∧ SR E I loc (σ.setO o A) a w' := by
          intro z hoff hz hzc hK
          have hfit' : i * sz + off + v.cells.size ≤ C.size := by omega
          have hst := run_storeCells_at P b (i * sz + off) e v.cells.toList 0 C w h2 (by simp; omega) (hone g2)
          have hspl : (C.toList.take (i * sz + off + 0) ++ v.cells.toList ++ C.toList.drop (i * sz + off + 0 + v.cells.toList.length)).toArray = spl C (i * sz + off) v.cells := by simp [spl]
          rw [hspl] at hst
          refine ⟨_, _, _, w.setRow b (spl C (i * sz + off) v.cells), hK, ?_, ?_⟩
          · simp only [Instr.storeAt, Instr.sureAddr, Sem.run_bind, Sem.run_pure, Result.andThen_ok, storeVar, p3 g1]
            rw [if_neg (by simp; omega)]
            exact hst
          · refine hs.write hlive hl h2 (A := .row sz (xs.set i z)) ⟨h0, fun k hk => ?_, .inr ⟨b, spl C (i * sz + off) v.cells, e, by rw [p4 hfit']; exact hl, setRow_heap w b C _ e _ h2, by rw [p4 hfit']; simpa using h3, fun k hk j hj h' => ?_⟩⟩ (by simp)
            · rw [List.getElem_set]
              split
              · exact hz
              · exact hcl _ _
            · have hk' : k < xs.length := by simpa using hk
              rw [p4 hfit'] at h'
              rw [M9 hfit' _ (by rw [p4 hfit']; exact h') h']
              by_cases e1 : i = k
              · subst e1
                have hset : (xs.set i z)[i]'hk = z := by simp
                have hj' : j < z.cells.length := by rw [hset] at hj; exact hj
                have e2 : ((xs.set i z)[i]'hk).cells[j] = z.cells[j] := by congr 2
                rw [e2, hzc j hj']
                by_cases e3 : off ≤ j ∧ j < off + y.cells.length
                · rw [dif_pos e3, dif_pos (by omega)]
                  have e4 : i * sz + j - (i * sz + off) = j - off := by omega
                  have := hvc (j - off) (by omega) (by omega)
                  simp only [e4]
                  exact this.mono hmono (fun _ x => x)
                · rw [dif_neg e3, dif_neg (by omega)]
                  exact (h4 i hi j (by omega) h').mono hmono (fun _ x => x)
              · have hset : (xs.set i z)[k]'hk = xs[k] := by rw [List.getElem_set, if_neg e1]
                have hj' : j < (xs[k]).cells.length := by rw [hset] at hj; exact hj
                have e2 : ((xs.set i z)[k]'hk).cells[j] = (xs[k]).cells[j] := by congr 2
                rw [e2, dif_neg]
                · exact (h4 k hk' j hj' h').mono hmono (fun _ x => x)
                · have hjs : j < sz := by rw [← hcl k hk']; exact hj'
                  rcases Nat.lt_or_gt_of_ne e1 with g | g
                  · have : (i + 1) * sz ≤ k * sz := Nat.mul_le_mul_right _ g
                    rw [Nat.add_mul] at this; omega
                  · have : (k + 1) * sz ≤ i * sz := Nat.mul_le_mul_right _ g
                    rw [Nat.add_mul] at this; omega
        split at h
        · rename_i hw
          obtain ⟨rfl, hw⟩ := hw
          refine key y (by omega) hw (fun j hj => ?_) h
          rw [dif_pos ⟨Nat.zero_le _, by omega⟩]; rfl
        · obtain ⟨hw, h⟩ := h
          have hgd : xs.getD i .any = xs[i] := w9 hi
          rw [hgd] at h
          have hw' : off + y.cells.length ≤ (xs[i]).cells.length := by omega
          refine key (.agg (splice (xs[i]).cells off y.cells)) hw ((zAL hw').trans hlen) (fun j hj => ?_) h
          have hj2 : j < (splice (xs[i]).cells off y.cells).length := hj
          have hj' : j < (xs[i]).cells.length := by rw [zAL hw'] at hj2; exact hj2
          exact A6 hw' j hj hj'
      | box cs =>
        simp only [hA] at h ho
        rcases ho with ⟨h1, _⟩ | ⟨b', C, e, h1, h2, h3, h4⟩
        · rw [hl] at h1; cases h1
        rw [hl] at h1; cases h1
        obtain ⟨g1, g2, g3, h⟩ := h
        have hyc := hy.toCV (hcells g2)
        have hvs := hyc.1
        have hst := run_storeCells_at P b (i * sz + off) e v.cells.toList 0 C w h2 (by simp; omega) (hone g2)
        have hspl : (C.toList.take (i * sz + off + 0) ++ v.cells.toList ++ C.toList.drop (i * sz + off + 0 + v.cells.toList.length)).toArray = spl C (i * sz + off) v.cells := by simp [spl]
        rw [hspl] at hst
        refine ⟨_, _, _, w.setRow b (spl C (i * sz + off) v.cells), h, ?_, ?_⟩
        · simp only [Instr.storeAt, Instr.sureAddr, Sem.run_bind, Sem.run_pure, Result.andThen_ok, storeVar, p3 g1]
          rw [if_neg (by simp; omega)]
          exact hst
        · have hlive : (σ.obj o).live = true := by rw [hA]; rfl
          have hI := (hs.sep o b C.size hlive hl)
          have hcv : CL (w.setRow b (spl C (i * sz + off) v.cells)) I loc (splice cs (i * sz + off) y.cells) (spl C (i * sz + off) v.cells) := by
            have hmono : ∀ k, I k → (w.setRow b (spl C (i * sz + off) v.cells)).heap[k]? = w.heap[k]? := fun k hk => setRow_other w b k _ (fun e => hI.1 (e ▸ hk))
            have hc1 : CL (w.setRow b (spl C (i * sz + off) v.cells)) I loc cs C := ⟨h3, fun i hi hi' => (h4 i hi hi').mono hmono (fun _ x => x) (fun _ _ => rfl)⟩
            have hc2 : CV (w.setRow b (spl C (i * sz + off) v.cells)) I loc y.cells v.cells := ⟨hyc.1, fun i hi hi' => (hyc.2 i hi hi').mono hmono (fun _ x => x) (fun _ _ => rfl)⟩
            exact hc1.splice hc2 g3
          refine hs.write hlive hl h2 (A := .box (splice cs (i * sz + off) y.cells)) (.inr ⟨b, spl C (i * sz + off) v.cells, e, ?_, setRow_heap w b C _ e _ h2, hcv.1, hcv.2⟩) (by simp)
          rw [p4 (by omega)]; exact hl
      | _ => simp only [hA] at h
  | _ => exact h.elim
end
end Go.Abs

namespace Go.Abs
open Go
section
variable {P : Program} {E : Env} {I : Nat → Prop} {loc : Nat → Loc} {σ : AS} {a : Act} {w : World}
theorem G3 {t sz : Nat} (h : sizeT P t = some sz) : ∃ i, P.info? t = some i ∧ i.size = sz := by
 unfold sizeT at h
 cases hi : P.info? t with
 | none => rw [hi] at h; cases h
 | some i => rw [hi] at h; simp at h; exact ⟨i, rfl, h⟩
theorem B7 {R : AV → Value → Prop} (sz n : Nat) {ev : Operand → AV} {ρ : Operand → Value} : ∀ (ps : List (Nat × Operand)) (k : Nat) (C : Array Value),
  ps.map (·.1) = List.range' k ps.length → k + ps.length = n → C.size = n * sz → (∀ p, p ∈ ps → (ev p.2).cells.length = sz ∧ (ρ p.2).cells.size = sz ∧ ∀ j (h : j < (ev p.2).cells.length) (h' : j < (ρ p.2).cells.size), R (ev p.2).cells[j] (ρ p.2).cells[j]) →
  ∃ C' : Array Value, Instr.fill (fun i => some (i * sz, sz)) C (ps.map fun p => (p.1, ρ p.2)) = some C' ∧ C'.size = n * sz ∧ (∀ i (h : i < C.size) (h' : i < C'.size), i < k * sz → C'[i] = C[i]) ∧
   ∀ m (hm : m < ps.length) j (hj : j < (ev (ps[m]).2).cells.length) (h' : (k + m) * sz + j < C'.size), R (ev (ps[m]).2).cells[j] C'[(k + m) * sz + j]
 | [], k, C, _, _, hC, _ => ⟨C, rfl, hC, fun _ _ _ _ => rfl, fun m hm => by simp at hm⟩
 | p :: ps, k, C, hr, hk, hC, hp => by
  simp only [List.map_cons, List.length_cons, List.range'_succ, List.cons.injEq] at hr
  obtain ⟨hp1, hr⟩ := hr
  obtain ⟨hpl, hcs, hcv⟩ := hp p (by simp)
  have hfit : k * sz + sz ≤ C.size := by
   rw [hC, ← Nat.succ_mul]; exact Nat.mul_le_mul_right _ (by simp at hk; omega)
  have hfit' : k * sz + (ρ p.2).cells.size ≤ C.size := by omega
  obtain ⟨C', h1, h2, h3, h4⟩ := B7 (R := R) sz n (ev := ev) ps (k + 1) (spl C (k * sz) (ρ p.2).cells) hr (by simp at hk; omega) (by rw [p4 hfit']; exact hC) (fun q hq => hp q (by simp [hq]))
  refine ⟨C', ?_, h2, fun i hi hi' hlt => ?_, fun m hm j hj h' => ?_⟩
  ·rw [List.map_cons, B8 (off := k * sz) (size := sz) (by rw [hp1]) (by omega) hfit]
   exact h1
  ·rw [h3 i (by rw [p4 hfit']; exact hi) hi' (by rw [Nat.add_mul]; omega), M9 hfit' i (by rw [p4 hfit']; exact hi) hi, dif_neg (by omega)]
  ·cases m with
   | zero =>
    simp only [List.getElem_cons_zero, Nat.add_zero] at hj h' ⊢
    have hlt : k * sz + j < C.size := by omega
    rw [h3 _ (by rw [p4 hfit']; exact hlt) h' (by rw [Nat.add_mul]; omega), M9 hfit' _ (by rw [p4 hfit']; exact hlt) hlt, dif_pos (by omega)]
    have e : k * sz + j - k * sz = j := by omega
    simp only [e]
    exact hcv j hj (by omega)
   | succ m =>
    simp only [List.getElem_cons_succ] at hj ⊢
    have e : k + (m + 1) = k + 1 + m := by omega
    simp only [e] at h' ⊢
    exact h4 m (by simpa using hm) j hj h'
theorem AV.cells_zero {x : AV} (h : x.one = true) : ∃ hl : 0 < x.cells.length, x.cells[0] = x := by
 have := AV.cells_of_one h
 refine ⟨by simp [this], by simp [this]⟩
theorem M6 {x : AV} (h : u1 x = true) : Pure x ∧ x.one = true := by
 cases x <;> simp_all [u1, AV.one]
 ·exact .raw _
 ·exact .list _
 ·exact .elt _
 ·exact .fmap _ _
theorem H6 (H : Nat → AObj) (F : Nat → Prop) : ∀ (n : Nat) (x : AV), (∀ o, o ∈ (zNW H n x).2 → F o) → Xp H idR F (zNW H n x).1 x
 | 0, x, _ => Xp.refl H F x
 | n + 1, x, h => by
  unfold zNW at h ⊢
  cases x with
  | own o sz off len =>
   simp only at h ⊢
   cases hA : H o with
   | row sz' xs =>
    simp only [hA] at h ⊢
    split at h
    ·rename_i hc
     obtain ⟨rfl, hc⟩ := hc
     rw [if_pos ⟨rfl, hc⟩]
     exact .froz o sz' off len xs hA (h o (by simp)) hc
    ·rename_i hc
     rw [if_neg hc]; exact Xp.refl H F _
   | box cs =>
    simp only [hA] at h ⊢
    split at h
    ·rename_i hc
     rw [if_pos hc]
     obtain ⟨rfl, rfl, rfl, hall⟩ := hc
     rw [List.all_eq_true] at hall
     refine .frozb o 0 _ cs _ hA (h o (by simp)) (by omega) rfl (by simp) (fun y hy => ?_) (fun i hi hi' => ?_)
     ·obtain ⟨c, hc, rfl⟩ := List.mem_map.1 hy
      exact M6 (hall c hc)
     ·simp only [List.getElem_map]
      exact H6 H F n cs[i] (fun q hq => h q (by simp; exact .inr ⟨_, ⟨cs[i], List.getElem_mem hi', rfl⟩, hq⟩))
    ·rename_i hc
     rw [if_neg hc]; exact Xp.refl H F _
   | _ => simp only [hA] at h ⊢; exact Xp.refl H F _
  | mp o =>
   simp only at h ⊢
   cases hA : H o with
   | mapo ks xs => simp only [hA] at h ⊢; exact .frozm o ks ks xs xs hA (h o (by simp)) (MPerm.refl _ _)
   | _ => simp only [hA] at h ⊢; exact Xp.refl H F _
  | agg cs =>
   simp only at h ⊢
   refine .agg _ _ (by simp) (fun i hi hi' => ?_)
   simp only [List.getElem_map]
   exact H6 H F n cs[i] (fun q hq => h q (by simp; exact ⟨_, ⟨cs[i], List.getElem_mem hi', rfl⟩, hq⟩))
  | raw v =>
   clear h
   split
   ·rename_i e; cases e
   ·rename_i e; cases e
   ·rename_i e; cases e
   ·rename_i e; cases e; exact .nill
   ·exact Xp.refl H F _
  | _ => exact Xp.refl H F _
theorem A5 (H : Nat → AObj) : ∀ (n : Nat) (x : AV) (o : Nat), o ∈ (zNW H n x).2 → (H o).live = true
 | 0, x, o, h => by simp [zNW] at h
 | n + 1, x, o, h => by
  unfold zNW at h
  cases x with
  | own k sz off len =>
   simp only at h
   cases hA : H k with
   | row sz' xs =>
    simp only [hA] at h
    split at h
    ·simp at h; subst h; rw [hA]; rfl
    ·simp at h
   | box cs =>
    simp only [hA] at h
    split at h
    ·simp only [List.mem_cons, List.mem_flatten, List.mem_map] at h
     rcases h with rfl | ⟨l, ⟨c, hc, rfl⟩, h⟩
     ·rw [hA]; rfl
     ·exact A5 H n c o h
    ·simp at h
   | _ => simp [hA] at h
  | mp k =>
   simp only at h
   cases hA : H k with
   | mapo ks xs => simp only [hA] at h; simp at h; subst h; rw [hA]; rfl
   | _ => simp [hA] at h
  | agg cs =>
   simp only [List.mem_flatten, List.mem_map] at h
   obtain ⟨l, ⟨c, hc, rfl⟩, h⟩ := h
   exact A5 H n c o h
  | raw v =>
   split at h
   ·rename_i e; cases e
   ·rename_i e; cases e
   ·rename_i e; cases e
   ·simp at h
   ·simp at h
  | _ => simp at h
theorem zDj (σ : AS) (l r : List (Nat × AObj)) : σ.writes (l ++ r) = (σ.writes l).writes r := List.foldl_append
theorem zA2 : ∀ (fs : List Nat) (σ : AS), (σ.writes (w6 fs)).n = σ.n ∧ (∀ t, (σ.writes (w6 fs)).get t = σ.get t) ∧ ∀ o, (σ.writes (w6 fs)).obj o = if o ∈ fs then .dead else σ.obj o
 | [], σ => ⟨rfl, fun _ => rfl, fun o => by simp [w6, AS.writes]⟩
 | k :: r, σ => by
  obtain ⟨h1, h2, h3⟩ := zA2 r (σ.setO k .dead)
  refine ⟨h1, h2, fun o => ?_⟩
  have e : (σ.writes (w6 (k :: r))).obj o = ((σ.setO k .dead).writes (w6 r)).obj o := rfl
  rw [e, h3, AS.obj_setO]
  by_cases hr : o ∈ r
  ·simp [hr]
  ·by_cases hk : k = o
   ·subst hk; simp
   ·have hk' : ¬ o = k := fun e => hk e.symm
    simp [hr, hk, hk']
theorem SR.congr {σ' : AS} (h : SR E I loc σ a w) (h1 : σ'.n = σ.n) (h2 : ∀ t, σ'.get t = σ.get t) (h3 : ∀ o, σ'.obj o = σ.obj o) : SR E I loc σ' a w :=
 ⟨h.defers.imp (fun r g1 g2 g3 g4 => ⟨g1, g2, g3, fun o c hl => g4 o c (by rw [← h3]; exact hl)⟩), h.size.trans h1.symm, fun t => by rw [h2]; exact h.tmps t, fun o => by rw [h3]; exact h.objs o, fun o o' b c c' => by rw [h3, h3]; exact h.inj o o' b c c', h.imm, fun o b c => by rw [h3]; exact h.sep o b c, h.fr, h.base, h.top, h.keep⟩
theorem SR.thenWrite {fs : List Nat} {o : Nat} {A : AObj} (h : SR E I loc ((o9 σ fs).setO o A) a w) : SR E I loc (σ.writes (w6 fs ++ [(o, A)])) a w := by
 obtain ⟨h1, h2, h3⟩ := zA2 fs σ
 obtain ⟨g1, g2⟩ := P0 σ fs
 rw [zDj]
 refine h.congr (h1.trans g1.symm) (fun t => (h2 t).trans (g2 t).symm) (fun k => ?_)
 show ((σ.writes (w6 fs)).setO o A).obj k = _
 rw [AS.obj_setO, AS.obj_setO, h3, W3]
theorem zBo (hs : SR E I loc σ a w) {fs : List Nat} {n : Nat} {x : AV} {v : Value} (hx : VR w I loc x v) (hf : ∀ o, o ∈ (zNW σ.obj n x).2 → o ∈ fs) : VR w (zNg σ.obj (· ∈ fs) loc I) loc (zNW σ.obj n x).1 v :=
 Xp.sound hs (H6 σ.obj (· ∈ fs) n x hf) hx
theorem zEc {t n nx : Nat} {ps : Array (Nat × Operand)} {K : Cont} (hs : SR E I loc σ a w) (h : buildSliceA P t n (ps.toList.map fun p => (p.1, σ.ev p.2)) σ.obj nx K) :
    ∃ v rd wr w' I' loc' y, K v rd wr ∧ (Instr.buildSlice t n (ps.map fun (i, x) => (i, a.eval x))).run P w = .ok y w' ∧ SR E I' loc' (σ.writes wr) a w' ∧ VR w' I' loc' v y := by
  unfold buildSliceA at h
  cases ht : sliceT P t with
  | none => simp only [ht] at h
  | some e =>
    simp only [ht] at h
    cases hsz : sizeT P e with
    | none => simp only [hsz] at h
    | some sz =>
      cases hz : zeroT P e with
      | none => simp only [hsz, hz] at h
      | some z =>
        simp only [hsz, hz] at h
        obtain ⟨h0, hlim, hzs, hidx, hn, hK⟩ := h
        have hlen : ps.toList.length = n := by
          have := congrArg List.length hidx
          simpa using this
        have hidx' : ps.toList.map (·.1) = List.range' 0 ps.toList.length := by
          rw [hlen, ← List.range_eq_range', ← hidx]; simp
        have hrun : ∀ C' : Array Value, Instr.fill (fun i => some (i * sz, sz)) ((Array.range (n * sz)).map (z.cells[· % z.cells.size]!)) (ps.toList.map fun p => (p.1, a.eval p.2)) = some C' →
            (Instr.buildSlice t n (ps.map fun (i, x) => (i, a.eval x))).run P w = .ok (.slice (some ⟨w.heap.size, 0, none⟩) n n) (w.alloc (.cells C' e)) := by
          intro C' f1
          have hl : ¬ (n * sz > 2 ^ 24) := by omega
          have e2 : (ps.map fun (i, x) => (i, a.eval x)).toList = ps.toList.map fun p => (p.1, a.eval p.2) := by simp
          have hZ : ∀ zz : Array Value, n * sz = 0 → (Array.range (n * sz)).map (zz[· % zz.size]!) = (Array.range (n * sz)).map (z.cells[· % z.cells.size]!) := fun zz h => by rw [h, Array.range_zero']; simp
          by_cases hnz : n * sz = 0
          · simp only [Instr.buildSlice, Sem.run_bind, run_underlying (c9 ht), Result.andThen_ok, p3 hsz, hl, if_false, if_pos hnz, Sem.run_pure]
            rw [hZ #[] hnz, e2, f1]
            simp [newRow]
          · simp only [Instr.buildSlice, Sem.run_bind, run_underlying (c9 ht), Result.andThen_ok, p3 hsz, hl, if_false, if_neg hnz, O6 hz, Sem.run_pure]
            rw [e2, f1]
            simp [newRow]
        split at hK
        · obtain ⟨rfl, hall, hK⟩ := hK
          obtain ⟨C', f1, f2, _, f4⟩ := B7 (R := VR w I loc) 1 n (ev := σ.ev) (ρ := a.eval) ps.toList 0 ((Array.range (n * 1)).map (z.cells[· % z.cells.size]!)) hidx' (by omega) (by simp)
            (fun p hp => by
              have h1 := hall (p.1, σ.ev p.2) (List.mem_map.2 ⟨p, hp, rfl⟩)
              have h2 := AV.cells_of_one h1
              have h3 := cells_of_one ((hs.ev p.2).one h1)
              refine ⟨by simp [h2], by simp [h3], fun j hj hj' => ?_⟩
              have hj0 : j = 0 := by simp [h2] at hj; exact hj
              subst hj0
              have e1 : (σ.ev p.2).cells[0] = σ.ev p.2 := by simp [h2]
              have e2 : (a.eval p.2).cells[0] = a.eval p.2 := by simp [h3]
              rw [e1, e2]; exact hs.ev p.2)
          refine ⟨_, _, _, w.alloc (.cells C' e), I, q7 loc nx (.blk w.heap.size C'.size), .slice (some ⟨w.heap.size, 0, none⟩) n n, hK, hrun C' f1, ?_, ?_⟩
          · refine hs.born hn _ (.inr ⟨w.heap.size, C', e, by simp [q7], heap_alloc_new w _, by simp [f2]; simp at hlen; omega, fun i hi h' => ?_⟩)
            have hi' : i < ps.toList.length := by simpa using hi
            have hel : ((ps.toList.map fun (p : Nat × Operand) => (p.1, σ.ev p.2)).map (·.2))[i]'hi = σ.ev (ps.toList[i]).2 := by simp
            rw [hel]
            have h1 : (σ.ev (ps.toList[i]).2).one = true := hall (_, σ.ev (ps.toList[i]).2) (List.mem_map.2 ⟨ps.toList[i], List.getElem_mem hi', rfl⟩)
            obtain ⟨g0, e1⟩ := AV.cells_zero h1
            have := f4 i hi' 0 g0 (by omega)
            have e2 : (0 + i) * 1 + 0 = i := by omega
            simp only [e2] at this
            rw [e1] at this
            exact VR.alloc hs hn this _ _
          · refine .own _ _ _ _ w.heap.size C'.size _ _ (by simp [q7]) (Nat.le_refl _) (by rw [f2]; simp) (fun _ => by simp)
        · obtain ⟨hall, hK⟩ := hK
          let fs : List Nat := (ps.toList.map fun (p : Nat × Operand) => (zNW σ.obj 3 (σ.ev p.2)).2).flatten
          have hfs : ((ps.toList.map fun (p : Nat × Operand) => (p.1, σ.ev p.2)).map fun p => (zNW σ.obj 3 p.2).2).flatten = fs := by simp [fs, Function.comp_def]
          have hmem : ∀ p, p ∈ ps.toList → ∀ o, o ∈ (zNW σ.obj 3 (σ.ev p.2)).2 → o ∈ fs := fun p hp o ho => List.mem_flatten.2 ⟨_, List.mem_map.2 ⟨p, hp, rfl⟩, ho⟩
          have hs1 := hs.freeze fs
          have hnfs : nx ∉ fs := fun hin => by
            obtain ⟨l, hl, ho⟩ := List.mem_flatten.1 hin
            obtain ⟨p, _, rfl⟩ := List.mem_map.1 hl
            have := A5 σ.obj 3 _ nx ho
            rw [hn] at this; cases this
          have hn1 : (o9 σ fs).obj nx = .unb := by rw [W3, if_neg hnfs]; exact hn
          have hvr : ∀ p, p ∈ ps.toList → PR w (zNg σ.obj (· ∈ fs) loc I) (zNW σ.obj 3 (σ.ev p.2)).1 (a.eval p.2) := fun p hp =>
            (zBo hs (hs.ev p.2) (hmem p hp)).toPR (hall _ (List.mem_map.2 ⟨p, hp, rfl⟩)).1
          obtain ⟨C', f1, f2, _, f4⟩ := B7 (R := PR w (zNg σ.obj (· ∈ fs) loc I)) sz n (ev := fun x => (zNW σ.obj 3 (σ.ev x)).1) (ρ := a.eval) ps.toList 0 ((Array.range (n * sz)).map (z.cells[· % z.cells.size]!)) hidx' (by omega) (by simp)
            (fun p hp => by
              obtain ⟨g1, g2, g3⟩ := hall (p.1, σ.ev p.2) (List.mem_map.2 ⟨p, hp, rfl⟩)
              have g3' : (zNW σ.obj 3 (σ.ev p.2)).1.cells.length = sz := g3
              obtain ⟨q1, q2⟩ := (hvr p hp).cells g2
              exact ⟨g3', by omega, q2⟩)
          have hn' : ((ps.toList.map fun (p : Nat × Operand) => (p.1, σ.ev p.2)).map fun p => (zNW σ.obj 3 p.2).1).length = n := by simp [← hlen]
          rw [hfs] at hK
          refine ⟨_, _, _, w.alloc (.cells C' e), zNg σ.obj (· ∈ fs) loc I, q7 loc nx (.blk w.heap.size C'.size), .slice (some ⟨w.heap.size, 0, none⟩) n n, hK, hrun C' f1, SR.thenWrite ?_, ?_⟩
          · refine hs1.born hn1 _ ⟨h0, fun i hi => ?_, .inr ⟨w.heap.size, C', e, by simp [q7], heap_alloc_new w _, by rw [hn', f2]; exact Nat.le_refl _, fun i hi j hj h' => ?_⟩⟩
            · simp only [List.getElem_map]
              exact (hall _ (List.mem_map.2 ⟨_, List.getElem_mem (by simpa using hi), rfl⟩)).2.2
            · have hi' : i < ps.toList.length := by omega
              have hel : ((ps.toList.map fun (p : Nat × Operand) => (p.1, σ.ev p.2)).map fun p => (zNW σ.obj 3 p.2).1)[i]'hi = (zNW σ.obj 3 (σ.ev (ps.toList[i]).2)).1 := by simp
              have hj' : j < (zNW σ.obj 3 (σ.ev (ps.toList[i]).2)).1.cells.length := by rw [hel] at hj; exact hj
              have e3 : ∀ (x y : AV) (e : x = y) (h1 : j < x.cells.length) (h2 : j < y.cells.length), x.cells[j] = y.cells[j] := fun x y e h1 h2 => by subst e; rfl
              rw [e3 _ _ hel hj hj']
              have e4 : 0 + i = i := Nat.zero_add i
              have := f4 i hi' j hj' (by rw [e4]; exact h')
              simp only [e4] at this
              exact PR.alloc hs1 this _
          · refine .own _ _ _ _ w.heap.size C'.size _ _ (by simp [q7]) (Nat.le_refl _) (by rw [f2]; simp) (fun _ => by simp)
theorem zG6 {t nx : Nat} {x y : AV} {u v : Value} {K : Cont} (hs : SR E I loc σ a w) (hx : VR w I loc x u) (hy : VR w I loc y v) (h : P2 P t x y σ.obj nx K) :
    ∃ z rd A w' loc' r, K z rd [(nx, A)] ∧ (Instr.makeSlice t u v).run P w = .ok r w' ∧ SR E I loc' (σ.setO nx A) a w' ∧ VR w' I loc' z r := by
  unfold P2 at h
  split at h
  · rename_i e k n k' m ht
    have e1 := hx.raw_eq; have e2 := hy.raw_eq; subst e1; subst e2
    cases hsz : sizeT P e with
    | none => simp only [hsz] at h
    | some sz =>
      cases hby : bytesT P e with
      | none => simp only [hsz, hby] at h
      | some by_ =>
        cases hz : zeroT P e with
        | none => simp only [hsz, hby, hz] at h
        | some z =>
          simp only [hsz, hby, hz] at h
          obtain ⟨h0, hzs, hzo, hzsz, rfl, ⟨hn0, hn1, hn2⟩, hnx, hK⟩ := h
          obtain ⟨i, hi, his⟩ := G3 hsz
          have hib : i.bytes = by_ := by unfold bytesT at hby; rw [hi] at hby; simpa using hby
          have hiz : i.zero = some z := by unfold zeroT at hz; rw [hi] at hz; simpa using hz
          have hrun := run_make (P := P) w t e i z (c9 ht) hi hiz k k' m m hn0 (Int.le_refl _) (by rw [hib]; omega) hn1
          split at hK
          · rename_i hrz
            obtain ⟨rfl, hK⟩ := hK
            have hone : z.oneCell' = true := by
              unfold zNt at hrz
              split at hrz <;> first | rfl | cases hrz
            have hzcell := cells_of_one hone
            refine ⟨_, _, _, _, q7 loc nx (.blk w.heap.size (m.toNat * i.size)), _, hK, hrun, ?_, ?_⟩
            · refine hs.born hnx _ (.inr ⟨w.heap.size, madeCells z.cells (m.toNat * i.size), e, by simp [q7, size_madeCells], heap_alloc_new w _, by simp [size_madeCells, his], fun q hq h' => ?_⟩)
              have e4 : (madeCells z.cells (m.toNat * i.size))[q] = z := by
                simp only [madeCells, Array.getElem_map, Array.getElem_range, hzcell]
                simp [Nat.mod_one]
              rw [e4]
              simp only [List.getElem_replicate]
              exact .pure (.raw _ hone)
            · refine .own _ _ _ _ w.heap.size (m.toNat * i.size) _ _ (by simp [q7]) (Nat.le_refl _) (by rw [his]; simp) (fun _ => by simp)
          · have hzc : (r4 z).cells.length = sz := by
              have := (K3 (w := w) (I := I) (loc := loc) z).cells hzsz
              omega
            have hcz : ∀ j (hj : j < (r4 z).cells.length) (hj' : j < z.cells.size), PR (w.alloc (.cells (madeCells z.cells (m.toNat * i.size)) e)) I (r4 z).cells[j] z.cells[j] := by
              intro j hj hj'
              have hp : Pure (r4 z) := by
                unfold r4
                cases z with
                | agg cs =>
                  simp only
                  split
                  · refine .agg _ (fun c hc => ?_)
                    obtain ⟨v, _, rfl⟩ := List.mem_map.1 hc
                    exact .raw _
                  · exact .any
                | tuple _ => exact .any
                | _ => exact .raw _
              exact ((K3 (loc := loc) z).toPR hp |>.cells hzsz).2 j hj hj'
            refine ⟨_, _, _, _, q7 loc nx (.blk w.heap.size (m.toNat * i.size)), _, hK, hrun, ?_, ?_⟩
            · refine hs.born hnx _ ⟨h0, fun q hq => by simp [hzc], .inr ⟨w.heap.size, madeCells z.cells (m.toNat * i.size), e, by simp [q7, size_madeCells], heap_alloc_new w _, by simp [size_madeCells, his], fun q hq j hj h' => ?_⟩⟩
              have hel : (List.replicate m.toNat (r4 z))[q] = r4 z := by simp
              have hj' : j < (r4 z).cells.length := by rw [hel] at hj; exact hj
              have e3 : ((List.replicate m.toNat (r4 z))[q]).cells[j] = (r4 z).cells[j] := by congr 2
              rw [e3]
              have hjz : j < z.cells.size := by omega
              have e4 : (madeCells z.cells (m.toNat * i.size))[q * sz + j] = z.cells[j] := by
                simp only [madeCells, Array.getElem_map, Array.getElem_range]
                have : (q * sz + j) % z.cells.size = j := by rw [hzs, Nat.mul_comm, Nat.mul_add_mod]; exact Nat.mod_eq_of_lt (by omega)
                rw [this]; simp [hjz]
              rw [e4]
              exact hcz j hj' hjz
            · refine .own _ _ _ _ w.heap.size (m.toNat * i.size) _ _ (by simp [q7]) (Nat.le_refl _) (by rw [his]; simp) (fun _ => by simp)
  · exact h.elim
theorem SR.moveG (h : SR E I loc σ a w) {o nx : Nat} {A : AObj} (ho : σ.obj o = A) (hol : A.live = true) (hOR : ∀ loc' : Nat → Loc, loc' nx = loc o → (∀ k, loc k ≠ .un → loc' k = loc k) → OR w I loc o A → OR w I loc' nx A) (hn : σ.obj nx = .unb) :
  SR E I (q7 loc nx (loc o)) ((σ.setO o .dead).setO nx A) a w := by
 have hun := h.un hn
 have hne : o ≠ nx := fun e => by rw [e, hn] at ho; rw [← ho] at hol; cases hol
 have hloc : ∀ k, loc k ≠ .un → q7 loc nx (loc o) k = loc k := fun k hk => by
  unfold q7; rw [if_neg]; intro e; subst e; exact hk hun
 have hlive : ∀ k, (((σ.setO o .dead).setO nx A).obj k).live = true → (k = nx ∨ (k ≠ nx ∧ k ≠ o ∧ (σ.obj k).live = true)) := fun k hk => by
  rw [AS.obj_setO, AS.obj_setO] at hk
  by_cases e : nx = k
  ·exact .inl e.symm
  ·rw [if_neg e] at hk
   by_cases e' : o = k
   ·rw [if_pos e'] at hk; simp [AObj.live] at hk
   ·rw [if_neg e'] at hk; exact .inr ⟨fun x => e x.symm, fun x => e' x.symm, hk⟩
 have hk0 : ∀ k, k ≠ nx → q7 loc nx (loc o) k = loc k := fun k hk => by unfold q7; rw [if_neg hk]
 have hol : (σ.obj o).live = true := by rw [ho]; exact hol
 have hmk : Marks E I (q7 loc nx (loc o)) ((σ.setO o .dead).setO nx A) a.defers w := h.defers.imp (fun r g1 g2 g3 g4 => ⟨g1, g2, g3, fun k c hk e => by
  rcases hlive k hk with rfl | ⟨q1, q2, q3⟩
  ·simp only [q7, if_true] at e
   exact g4 o c hol e
  ·rw [hk0 k q1] at e
   exact g4 k c q3 e⟩)
 refine ⟨hmk, h.size, fun t => (h.tmps t).mono (fun _ _ => rfl) (fun _ x => x) hloc, fun k => ?_, fun k k' b c c' hk hk' e e' => ?_, h.imm, fun k b c hk e => ?_, h.fr, h.base, h.top, fun k hk => by rw [hloc k (h.keep k hk).2]; exact h.keep k hk⟩
 ·rw [AS.obj_setO, AS.obj_setO]
  by_cases e : nx = k
  ·subst e
   rw [if_pos rfl]
   have := h.objs o
   rw [ho] at this
   exact hOR _ (by simp only [q7, if_true]) hloc this
  ·rw [if_neg e]
   by_cases e' : o = k
   ·rw [if_pos e']; exact trivial
   ·rw [if_neg e']
    exact (h.objs k).mono (fun _ _ => rfl) (fun _ x => x) hloc (fun e2 => by rw [hk0 k (fun x => e x.symm)]; exact h.un e2) (fun _ _ _ _ => rfl)
 ·rcases hlive k hk with rfl | ⟨g1, g2, g3⟩
  ·rcases hlive k' hk' with rfl | ⟨g1', g2', g3'⟩
   ·rfl
   ·rw [hk0 k' g1'] at e'
    simp only [q7, if_true] at e
    exact absurd (h.inj o k' b c c' hol g3' e e').symm g2'
  ·rw [hk0 k g1] at e
   rcases hlive k' hk' with rfl | ⟨g1', g2', g3'⟩
   ·simp only [q7, if_true] at e'
    exact absurd (h.inj k o b c c' g3 hol e e') g2
   ·rw [hk0 k' g1'] at e'
    exact h.inj k k' b c c' g3 g3' e e'
 ·rcases hlive k hk with rfl | ⟨g1, g2, g3⟩
  ·simp only [q7, if_true] at e
   exact h.sep o b c hol e
  ·rw [hk0 k g1] at e
   exact h.sep k b c g3 e
theorem SR.move (h : SR E I loc σ a w) {o nx : Nat} {sz : Nat} {xs : List AV} (ho : σ.obj o = .row sz xs) (hn : σ.obj nx = .unb) : SR E I (q7 loc nx (loc o)) ((σ.setO o .dead).setO nx (.row sz xs)) a w :=
 h.moveG ho rfl (fun loc' e _ ⟨h0, hx, h1⟩ => ⟨h0, hx, by
  rcases h1 with ⟨h1, h2⟩ | ⟨b, C, e', h1, h2⟩
  ·exact .inl ⟨by rw [e, h1], h2⟩
  ·exact .inr ⟨b, C, e', by rw [e, h1], h2⟩⟩) hn
theorem SR.moveBox (h : SR E I loc σ a w) {o nx : Nat} {xs : List AV} (ho : σ.obj o = .box xs) (hn : σ.obj nx = .unb) : SR E I (q7 loc nx (loc o)) ((σ.setO o .dead).setO nx (.box xs)) a w :=
 h.moveG ho rfl (fun loc' e hl h1 => by
  rcases h1 with ⟨h1, h2⟩ | ⟨b, C, e', h1, h2, h3, h4⟩
  ·exact .inl ⟨by rw [e, h1], h2⟩
  ·exact .inr ⟨b, C, e', by rw [e, h1], h2, h3, fun i hi hi' => (h4 i hi hi').mono (fun _ _ => rfl) (fun _ x => x) hl⟩) hn
theorem SR.bornNilG (h : SR E I loc σ a w) {nx : Nat} {A : AObj} (hA : OR w I (q7 loc nx .nil) nx A) (hn : σ.obj nx = .unb) : SR E I (q7 loc nx .nil) (σ.setO nx A) a w := by
 have hun := h.un hn
 have hloc : ∀ k, loc k ≠ .un → q7 loc nx .nil k = loc k := fun k hk => by
  unfold q7; rw [if_neg]; intro e; subst e; exact hk hun
 have hk0 : ∀ k, k ≠ nx → q7 loc nx .nil k = loc k := fun k hk => by unfold q7; rw [if_neg hk]
 have hob : ∀ k b c, q7 loc nx .nil k = .blk b c → ((σ.setO nx A).obj k).live = true → loc k = .blk b c ∧ (σ.obj k).live = true := fun k b c e hk => by
  by_cases e' : k = nx
  ·subst e'; simp only [q7, if_true] at e; cases e
  ·rw [hk0 k e'] at e; rw [AS.obj_setO, if_neg (fun x => e' x.symm)] at hk; exact ⟨e, hk⟩
 have hmk : Marks E I (q7 loc nx .nil) (σ.setO nx A) a.defers w := h.defers.imp (fun r g1 g2 g3 g4 => ⟨g1, g2, g3, fun k c hk e => by
  obtain ⟨q1, q2⟩ := hob k r c e hk
  exact g4 k c q2 q1⟩)
 refine ⟨hmk, h.size, fun t => (h.tmps t).mono (fun _ _ => rfl) (fun _ x => x) hloc, fun k => ?_, fun k k' b c c' hk hk' e e' => ?_, h.imm, fun k b c hk e => ?_, h.fr, h.base, h.top, fun k hk => by rw [hloc k (h.keep k hk).2]; exact h.keep k hk⟩
 ·rw [AS.obj_setO]
  by_cases e : nx = k
  ·subst e; rw [if_pos rfl]; exact hA
  ·rw [if_neg e]
   exact (h.objs k).mono (fun _ _ => rfl) (fun _ x => x) hloc (fun e2 => by rw [hk0 k (fun x => e x.symm)]; exact h.un e2) (fun _ _ _ _ => rfl)
 ·obtain ⟨g1, g2⟩ := hob k b c e hk
  obtain ⟨g1', g2'⟩ := hob k' b c' e' hk'
  exact h.inj k k' b c c' g2 g2' g1 g1'
 ·obtain ⟨g1, g2⟩ := hob k b c e hk
  exact h.sep k b c g2 g1
theorem SR.bornNil (h : SR E I loc σ a w) {nx sz : Nat} (h0 : 0 < sz) (hn : σ.obj nx = .unb) : SR E I (q7 loc nx .nil) (σ.setO nx (.row sz [])) a w :=
 h.bornNilG ⟨h0, fun i hi => by simp at hi, .inl ⟨by simp only [q7, if_true], rfl⟩⟩ hn
def Elems (w : World) (I : Nat → Prop) (sz : Nat) (ys : List AV) (news : List Value) : Prop :=
 news.length = ys.length * sz ∧ ∀ i (h : i < ys.length) j (hj : j < (ys[i]).cells.length) (h' : i * sz + j < news.length), PR w I (ys[i]).cells[j] news[i * sz + j]
def ElemsW (w : World) (I : Nat → Prop) (loc : Nat → Loc) (sz : Nat) (ys : List AV) (news : List Value) : Prop :=
 news.length = ys.length * sz ∧ ∀ i (h : i < ys.length) j (hj : j < (ys[i]).cells.length) (h' : i * sz + j < news.length), VR w I loc (ys[i]).cells[j] news[i * sz + j]
theorem Elems.toW {sz : Nat} {ys : List AV} {news : List Value} (h : Elems w I sz ys news) : ElemsW w I loc sz ys news := ⟨h.1, fun i hi j hj h' => .pure (h.2 i hi j hj h')⟩
theorem Pure.cell {x : AV} (h : Pure x) {j : Nat} (hj : j < x.cells.length) : Pure x.cells[j] := by
 cases x with
 | agg cs => cases h with | agg _ hc => exact hc _ (List.getElem_mem hj)
 | _ => simp only [AV.cells, List.getElem_singleton] at *; exact h
theorem ElemsW.pure {sz : Nat} {ys : List AV} {news : List Value} (h : ElemsW w I loc sz ys news) (hp : ∀ y, y ∈ ys → Pure y) : Elems w I sz ys news :=
 ⟨h.1, fun i hi j hj h' => (h.2 i hi j hj h').toPR ((hp _ (List.getElem_mem hi)).cell hj)⟩
theorem zAd (hs : SR E I loc σ a w) {sz : Nat} {x : AV} {u : Value} (hx : VR w I loc x u) {ys : List AV} {rd : List Nat} (h : r9 σ.obj sz x = some (ys, rd)) (hsz : ∀ y, y ∈ ys → y.cells.length = sz) :
    (ys = [] ∧ ∃ ad c, u = .slice ad 0 c) ∨ ∃ ad c news, u = .slice (some ad) ys.length c ∧ ElemsW w I loc sz ys news ∧ ∀ j v, news[j]? = some v → w.cell? (ad.add j) = some v := by
  have mk : ∀ (n : Nat) (C : Nat → Nat → Value) (b off : Nat), (∀ i j, i < ys.length → j < sz → w.cell? ⟨b, off + i * sz + j, none⟩ = some (C i j)) → (∀ i (h : i < ys.length) j (hj : j < (ys[i]).cells.length), PR w I (ys[i]).cells[j] (C i j)) → 0 < sz →
      ∃ news, Elems w I sz ys news ∧ ∀ j v, news[j]? = some v → w.cell? ((⟨b, off, none⟩ : Addr).add j) = some v := by
    intro _ C b off h1 h2 h0
    refine ⟨(List.range (ys.length * sz)).map (fun k => C (k / sz) (k % sz)), ⟨by simp, fun i hi j hj h' => ?_⟩, fun j v hj => ?_⟩
    · simp only [List.getElem_map, List.getElem_range]
      have hjs : j < sz := by rw [← hsz _ (List.getElem_mem hi)]; exact hj
      have e1 : (i * sz + j) / sz = i := by rw [Nat.mul_comm, Nat.mul_add_div h0, Nat.div_eq_of_lt hjs]; omega
      have e2 : (i * sz + j) % sz = j := by rw [Nat.mul_comm, Nat.mul_add_mod]; exact Nat.mod_eq_of_lt hjs
      rw [e1, e2]; exact h2 i hi j hj
    · rw [List.getElem?_map] at hj
      by_cases hlt : j < ys.length * sz
      · rw [List.getElem?_range hlt] at hj
        simp at hj; subst hj
        rw [l4]
        have hd : j / sz < ys.length := by rw [Nat.div_lt_iff_lt_mul h0]; exact hlt
        have hm := Nat.mod_lt j h0
        have := h1 (j / sz) (j % sz) hd hm
        have e : off + j / sz * sz + j % sz = off + j := by have := Nat.div_add_mod j sz; rw [Nat.mul_comm] at this; omega
        rw [e] at this; exact this
      · rw [List.getElem?_eq_none (by simp; omega)] at hj; cases hj
  unfold r9 at h
  split at h
  · rename_i xs
    simp at h; obtain ⟨rfl, rfl⟩ := h
    have hp := hx.toPR (.list _)
    cases hp with
    | nil ad c => exact .inl ⟨rfl, ad, c, rfl⟩
    | list b off cap sz' _ C hb hs0 hc hl hcell hr =>
      by_cases hemp : xs = []
      · subst hemp; exact .inl ⟨rfl, _, _, rfl⟩
      · have hpos : 0 < xs.length := List.length_pos_iff.2 hemp
        have : sz' = sz := by rw [← hl 0 hpos]; exact hsz _ (List.getElem_mem hpos)
        subst this
        obtain ⟨news, g1, g2⟩ := mk 0 C b off hcell hr hs0
        exact .inr ⟨_, _, news, rfl, g1.toW, g2⟩
  · rename_i o sz' off len
    cases hA : σ.obj o with
    | row sz'' xs =>
      simp only [hA] at h
      split at h
      · rename_i hc
        obtain ⟨rfl, rfl, hle⟩ := hc
        simp at h; obtain ⟨rfl, rfl⟩ := h
        have ho := hs.objs o
        rw [hA] at ho
        have hlist := zCY (I' := fun b => I b ∨ ∃ c, loc o = .blk b c) hx ho hle (fun b hb => .inl hb) (fun b c e => .inr ⟨c, e⟩)
        have hlen : ((xs.drop off).take len).length = len := by simp; omega
        obtain ⟨h0, hcl, ho⟩ := ho
        cases hx with
        | pure hx => cases hx
        | ownN _ _ hn => exact .inl ⟨by simp, _, _, rfl⟩
        | own _ _ _ _ b c ad cap hl g1 g2 g3 =>
          by_cases hz : len = 0
          · subst hz; exact .inl ⟨by simp, _, _, rfl⟩
          · have := g3 (by omega); subst this
            rcases ho with ⟨h1, _⟩ | ⟨b', C, e, h1, h2, h3, h4⟩
            · rw [hl] at h1; cases h1
            · rw [hl] at h1; cases h1
              have hcb : ∀ i j, i < len → j < sz'' → off * sz'' + i * sz'' + j < C.size := fun i j hi hj => by
                have : (off + i + 1) * sz'' ≤ xs.length * sz'' := Nat.mul_le_mul_right _ (by omega)
                have e1 : (off + i + 1) * sz'' = off * sz'' + i * sz'' + sz'' := by rw [Nat.add_mul, Nat.add_mul]; omega
                omega
              obtain ⟨news, q1, q2⟩ := mk 0 (fun i j => C.getD (off * sz'' + i * sz'' + j) undef) b (off * sz'')
                (fun i j hi hj => by
                  have := hcb i j (by omega) hj
                  rw [j6 h2 this]; simp [this])
                (fun i hi j hj => by
                  have hi' : i < len := by omega
                  have hj' : j < (xs[off + i]'(by omega)).cells.length := by simpa only [List.getElem_take, List.getElem_drop] using hj
                  have hjs : j < sz'' := by rw [← hcl (off + i) (by omega)]; exact hj'
                  have hcb' := hcb i j hi' hjs
                  have e2 : (off + i) * sz'' + j = off * sz'' + i * sz'' + j := by rw [Nat.add_mul]
                  have := h4 (off + i) (by omega) j hj' (by rw [e2]; exact hcb')
                  simp only [e2] at this
                  have e3 : C.getD (off * sz'' + i * sz'' + j) undef = C[off * sz'' + i * sz'' + j] := by simp [hcb']
                  rw [e3]
                  simpa only [List.getElem_take, List.getElem_drop] using this) h0
              refine .inr ⟨_, cap, news, ?_, q1.toW, q2⟩
              rw [hlen]
      · cases h
    | box cs =>
      simp only [hA] at h
      split at h
      · rename_i hc
        obtain ⟨rfl, rfl, hle, hall⟩ := hc
        simp only [Option.some.injEq, Prod.mk.injEq] at h; obtain ⟨rfl, rfl⟩ := h
        have ho := hs.objs o
        rw [hA] at ho
        have hlen : ((cs.drop off).take len).length = len := by simp; omega
        cases hx with
        | pure hx => cases hx
        | ownN _ _ hn => exact .inl ⟨by simp, _, _, rfl⟩
        | own _ _ _ _ b c ad cap hl g1 g2 g3 =>
          by_cases hz : len = 0
          · subst hz; exact .inl ⟨by simp, _, _, rfl⟩
          · have := g3 (by omega); subst this
            rcases ho with ⟨h1, _⟩ | ⟨b', C, e, h1, h2, h3, h4⟩
            · rw [hl] at h1; cases h1
            · rw [hl] at h1; cases h1
              refine .inr ⟨(⟨b, off * 1, none⟩ : Addr), cap, (List.range len).map (fun i => C.getD (off + i) undef), ?_, ?_, fun j v hj => ?_⟩
              · rw [hlen]
              · refine ⟨by simp [hlen], fun i hi j hj hz => ?_⟩
                have hi' : i < len := by omega
                obtain ⟨g0, e1⟩ := AV.cells_zero (List.all_eq_true.1 hall _ (List.getElem_mem hi))
                have hj0 : j = 0 := by
                  have := hsz _ (List.getElem_mem hi)
                  omega
                subst hj0
                rw [e1]
                have hC : off + i < C.size := by omega
                have hv := h4 (off + i) (by omega) hC
                have e2 : ((List.range len).map (fun i => C.getD (off + i) undef))[i * 1 + 0]'hz = C[off + i] := by simp [hC]
                rw [e2]
                have e3 : ((cs.drop off).take len)[i] = cs[off + i]'(by omega) := by simp
                rw [e3]; exact hv
              · rw [List.getElem?_map] at hj
                by_cases hlt : j < len
                · rw [List.getElem?_range hlt] at hj
                  simp only [Option.map_some, Option.some.injEq] at hj; subst hj
                  have hC : off + j < C.size := by omega
                  rw [l4, show off * 1 + j = off + j by omega, j6 h2 hC]
                  simp [hC]
                · rw [List.getElem?_eq_none (by simp; omega)] at hj; cases hj
      · cases h
    | _ => simp [hA] at h
  · simp at h; obtain ⟨rfl, rfl⟩ := h
    have e := hx.raw_eq; subst e
    exact .inl ⟨rfl, _, _, rfl⟩
  · cases h
end
end Go.Abs

namespace Go.Abs
open Go
section
variable {P : Program} {E : Env} {I : Nat → Prop} {loc : Nat → Loc} {σ : AS} {a : Act} {w : World}
theorem zHS {ys : List AV} {news : List Value} {sz : Nat} (h : Elems w I sz ys news) (h0 : 0 < sz) (hall : ∀ y, y ∈ ys → y.cells.length = sz ∧ y.cells.all AV.one = true) : ∀ u, u ∈ news → u.oneCell' = true := by
 intro u hu
 obtain ⟨k, hk, rfl⟩ := List.getElem_of_mem hu
 have hkl : k < ys.length * sz := by rw [← h.1]; exact hk
 have hd : k / sz < ys.length := by rw [Nat.div_lt_iff_lt_mul h0]; exact hkl
 have hm := Nat.mod_lt k h0
 obtain ⟨g1, g2⟩ := hall _ (List.getElem_mem hd)
 have e : k / sz * sz + k % sz = k := by have := Nat.div_add_mod k sz; rw [Nat.mul_comm] at this; omega
 have := h.2 (k / sz) hd (k % sz) (by omega) (by rw [e]; exact hk)
 simp only [e] at this
 exact this.one ((List.all_eq_true.1 g2) _ (List.getElem_mem (by omega)))
theorem Elems.append {xs ys : List AV} {os ns : List Value} {sz : Nat} (h1 : Elems w I sz xs os) (h2 : Elems w I sz ys ns) (hx : ∀ x, x ∈ xs → x.cells.length = sz) : Elems w I sz (xs ++ ys) (os ++ ns) := by
 refine ⟨by rw [List.length_append, List.length_append, h1.1, h2.1, Nat.add_mul], fun i hi j hj h' => ?_⟩
 have hcell : ∀ (x y : AV) (e : x = y) (g1 : j < x.cells.length) (g2 : j < y.cells.length), x.cells[j] = y.cells[j] := fun x y e g1 g2 => by subst e; rfl
 by_cases hlt : i < xs.length
 ·have e1 : (xs ++ ys)[i] = xs[i] := List.getElem_append_left hlt
  have hj' : j < (xs[i]).cells.length := by rw [← e1]; exact hj
  rw [hcell _ _ e1 hj hj']
  have hjs : j < sz := by rw [← hx _ (List.getElem_mem hlt)]; exact hj'
  have hb : i * sz + j < os.length := by
   rw [h1.1]
   have : (i + 1) * sz ≤ xs.length * sz := Nat.mul_le_mul_right _ hlt
   rw [Nat.add_mul] at this; omega
  rw [List.getElem_append_left hb]
  exact h1.2 i hlt j hj' hb
 ·have hi' : i - xs.length < ys.length := by simp at hi; omega
  have e1 : (xs ++ ys)[i] = ys[i - xs.length] := List.getElem_append_right (by omega)
  have hj' : j < (ys[i - xs.length]).cells.length := by rw [← e1]; exact hj
  rw [hcell _ _ e1 hj hj']
  have e2 : i * sz = xs.length * sz + (i - xs.length) * sz := by rw [← Nat.add_mul]; congr 1; omega
  have hb : ¬ i * sz + j < os.length := by rw [h1.1]; omega
  rw [List.getElem_append_right (by omega)]
  have e3 : i * sz + j - os.length = (i - xs.length) * sz + j := by rw [h1.1]; omega
  simp only [e3]
  exact h2.2 _ hi' j hj' (by simp at h'; rw [← e3]; omega)
theorem Elems.mono {w' : World} {I' : Nat → Prop} {xs : List AV} {os : List Value} {sz : Nat} (h : Elems w I sz xs os) (hw : ∀ b, I b → w'.heap[b]? = w.heap[b]?) (hI : ∀ b, I b → I' b) : Elems w' I' sz xs os :=
 ⟨h.1, fun i hi j hj h' => (h.2 i hi j hj h').mono hw hI⟩
theorem OR.row_of {o b e sz : Nat} {zs : List AV} {C : Array Value} {cs : List Value} (h0 : 0 < sz) (hz : ∀ z, z ∈ zs → z.cells.length = sz) (hl : loc o = .blk b C.size) (hb : w.heap[b]? = some (.cells C e (0, 0)))
  (hel : Elems w I sz zs cs) (hC : C.toList.take cs.length = cs) : OR w I loc o (.row sz zs) := by
 have hle : cs.length ≤ C.size := by
  have := congrArg List.length hC
  simp at this; omega
 refine ⟨h0, fun i hi => hz _ (List.getElem_mem hi), .inr ⟨b, C, e, hl, hb, by rw [← hel.1]; exact hle, fun i hi j hj h' => ?_⟩⟩
 have hjs : j < sz := by rw [← hz _ (List.getElem_mem hi)]; exact hj
 have hlt : i * sz + j < cs.length := by
  rw [hel.1]
  have : (i + 1) * sz ≤ zs.length * sz := Nat.mul_le_mul_right _ hi
  rw [Nat.add_mul] at this; omega
 have := hel.2 i hi j hj hlt
 have e1 : C[i * sz + j] = cs[i * sz + j] := by
  have h2 : cs[i * sz + j]? = C[i * sz + j]? := by
   have h3 := congrArg (fun l => l[i * sz + j]?) hC
   simp only [List.getElem?_take, if_pos hlt] at h3
   rw [← h3]; simp
  rw [List.getElem?_eq_getElem hlt, Array.getElem?_eq_getElem h'] at h2
  exact (Option.some.inj h2).symm
 rw [e1]; exact this
theorem OR.elems {o sz b c : Nat} {xs : List AV} (h : OR w I loc o (.row sz xs)) (hl : loc o = .blk b c) : ∃ C e, c = C.size ∧ w.heap[b]? = some (.cells C e (0, 0)) ∧ xs.length * sz ≤ C.size ∧ Elems w I sz xs (C.toList.take (xs.length * sz)) := by
 obtain ⟨h0, hx, h⟩ := h
 rcases h with ⟨h1, _⟩ | ⟨b', C, e, h1, h2, h3, h4⟩
 ·rw [hl] at h1; cases h1
 ·rw [hl] at h1; cases h1
  refine ⟨C, e, rfl, h2, h3, by simp; omega, fun i hi j hj h' => ?_⟩
  have : i * sz + j < C.size := by simp at h'; omega
  simp only [List.getElem_take, Array.getElem_toList]
  exact h4 i hi j hj this
theorem locSet_same {loc : Nat → Loc} {k : Nat} {L : Loc} : q7 loc k L k = L := if_pos rfl
theorem VR.own_inv {o sz off len : Nat} {u : Value} (h : VR w I loc (.own o sz off len) u) : (loc o = .nil ∧ off = 0 ∧ len = 0 ∧ u = .slice none 0 0) ∨
  ∃ b c ad cap, loc o = .blk b c ∧ u = .slice (some ad) len cap ∧ len ≤ cap ∧ (off + cap) * sz ≤ c ∧ (0 < cap → ad = ⟨b, off * sz, none⟩) := by
 cases h with
 | pure h => cases h
 | ownN _ _ h => exact .inl ⟨h, rfl, rfl, rfl⟩
 | own _ _ _ _ b c ad cap h h1 h2 h3 => exact .inr ⟨b, c, ad, cap, h, rfl, h1, h2, h3⟩
theorem zBH {t ty e nx : Nat} {i : TypeInfo} {z : Value} (ht : P.underlying t = some (.slice e)) (hi : P.info? e = some i) (hz : i.zero = some z) (hzs : z.cells.size = i.size) (h0 : 0 < i.size) (hs : SR E I loc σ a w) (hnx : σ.obj nx = .unb)
  {ys : List AV} {v : Value} (hall : ∀ y, y ∈ ys → y.cells.length = i.size ∧ y.cells.all AV.one = true)
  (hread : (ys = [] ∧ ∃ ad c, v = .slice ad 0 c) ∨ ∃ ad c news, v = .slice (some ad) ys.length c ∧ Elems w I i.size ys news ∧ ∀ j v, news[j]? = some v → w.cell? (ad.add j) = some v)
  (hb : ys.length * i.bytes ≤ 140737488355328) (h63 : ys.length ≤ 9223372036854775807) :
  ∃ w' loc' r, (Builtin.append_ #[t, t] ty #[.slice none 0 0, v]).run P w = .ok r w' ∧ SR E I loc' (σ.setO nx (.row i.size ys)) a w' ∧ VR w' I loc' (.own nx i.size 0 ys.length) r := by
 by_cases hy : ys = []
 ·subst hy
  refine ⟨w, q7 loc nx .nil, .slice none 0 0, ?_, hs.bornNil h0 hnx, .ownN _ _ (by simp [q7])⟩
  rcases hread with ⟨_, ad, c, rfl⟩ | ⟨ad, c, news, rfl, _, _⟩
  ·cases ad <;> simp [Builtin.append_, run_underlying ht, sizeOf, typeInfo, hi, Builtin.lenOf, Builtin.firstCells, loadCells, loadCellsFrom]
  ·simp [Builtin.append_, run_underlying ht, sizeOf, typeInfo, hi, Builtin.lenOf, Builtin.firstCells, loadCells, loadCellsFrom]
 ·have hpos : 0 < ys.length := List.length_pos_iff.2 hy
  rcases hread with ⟨h, _⟩ | ⟨ad, c, news, rfl, hel, hcells⟩
  ·exact absurd h hy
  ·have hrun := run_append_nil (P := P) w t ty e i z ht hi hz ad ys.length c news hel.1 hcells hpos (by omega) (by omega)
   have hs1 := hs.heap (w' := w.drew) rfl rfl rfl rfl
   refine ⟨_, q7 loc nx (.blk w.heap.size (news.toArray ++ Builtin.zeroCells z.cells (grownCap w ys.length 0 e - ys.length)).size), _, hrun, hs1.born hnx _ ?_, ?_⟩
   ·refine OR.row_of h0 (fun y hy => (hall y hy).1) (by simp [q7]) (heap_alloc_new w.drew _) (hel.mono (fun b hb => r6 _ _ _ (hs.imm b hb)) (fun _ x => x)) (cs := news) ?_
    simp
   ·have hge := grownCap_ge w ys.length 0 e
    have hsize : (news.toArray ++ Builtin.zeroCells z.cells (grownCap w ys.length 0 e - ys.length)).size = grownCap w ys.length 0 e * i.size := by
     simp only [Array.size_append, List.size_toArray, size_zeroCells, hzs, hel.1, ← Nat.add_mul]
     congr 1; omega
    refine .own _ _ _ _ w.heap.size _ _ _ locSet_same hge ?_ (fun _ => by simp)
    rw [hsize]; simp
theorem zD2 {t ty e nx o : Nat} {i : TypeInfo} {z : Value} (ht : P.underlying t = some (.slice e)) (hi : P.info? e = some i) (hz : i.zero = some z) (hzs : z.cells.size = i.size) (h0 : 0 < i.size) (hs : SR E I loc σ a w) (hnx : σ.obj nx = .unb)
    {xs ys : List AV} {v u : Value} (ho : σ.obj o = .row i.size xs) (hu : VR w I loc (.own o i.size 0 xs.length) u) (hall : ∀ y, y ∈ ys → y.cells.length = i.size ∧ y.cells.all AV.one = true)
    (hread : (ys = [] ∧ ∃ ad c, v = .slice ad 0 c) ∨ ∃ ad c news, v = .slice (some ad) ys.length c ∧ Elems w I i.size ys news ∧ ∀ j v, news[j]? = some v → w.cell? (ad.add j) = some v)
    (hb : (xs.length + ys.length) * i.bytes ≤ 140737488355328) (h63 : xs.length + ys.length ≤ 9223372036854775807) :
    ∃ w' loc' r, (Builtin.append_ #[t, t] ty #[u, v]).run P w = .ok r w' ∧ SR E I loc' ((σ.setO o .dead).setO nx (.row i.size (xs ++ ys))) a w' ∧ VR w' I loc' (.own nx i.size 0 (xs.length + ys.length)) r := by
  have hor := hs.objs o
  rw [ho] at hor
  have hxl : ∀ x, x ∈ xs → x.cells.length = i.size := fun x hx => by
    obtain ⟨k, hk, rfl⟩ := List.getElem_of_mem hx
    exact hor.2.1 k hk
  have hzl : ∀ y, y ∈ xs ++ ys → y.cells.length = i.size := fun y hy => by
    rcases List.mem_append.1 hy with hy | hy
    · exact hxl y hy
    · exact (hall y hy).1
  have hlive : (σ.obj o).live = true := by rw [ho]; rfl
  have hne : o ≠ nx := fun e => by rw [e, hnx] at ho; cases ho
  have hnx' : (σ.setO o .dead).obj nx = .unb := by rw [AS.obj_setO, if_neg hne]; exact hnx
  rcases hu.own_inv with ⟨hn, _, hx0, rfl⟩ | ⟨b, c, ad, cap, hl, rfl, g1, g2, g3⟩
  · have hx : xs = [] := by
      rcases hor.2.2 with ⟨_, h⟩ | ⟨b, C, e, h, _⟩
      · exact h
      · rw [hn] at h; cases h
    subst hx
    simp only [List.length_nil, Nat.zero_add, List.nil_append] at *
    exact zBH ht hi hz hzs h0 (hs.kill o) hnx' hall hread hb h63
  · obtain ⟨C, ec, rfl, hC, hfit, hel⟩ := hor.elems hl
    simp only [Nat.zero_add, Nat.zero_mul] at g2 g3
    by_cases hy : ys = []
    · subst hy
      simp only [List.append_nil, List.length_nil, Nat.add_zero] at *
      refine ⟨w, _, .slice (some ad) xs.length cap, ?_, hs.move ho hnx, .own _ _ _ _ b C.size _ _ (locSet_same.trans hl) g1 (by simpa using g2) (by simpa using g3)⟩
      rcases hread with ⟨_, ad', c, rfl⟩ | ⟨ad', c, news, rfl, _, _⟩
      · cases ad' <;> simp [Builtin.append_, run_underlying ht, sizeOf, typeInfo, hi, Builtin.lenOf, Builtin.firstCells, loadCells, loadCellsFrom, storeCells, g1]
      · simp [Builtin.append_, run_underlying ht, sizeOf, typeInfo, hi, Builtin.lenOf, Builtin.firstCells, loadCells, loadCellsFrom, storeCells, g1]
    · have hpos : 0 < ys.length := List.length_pos_iff.2 hy
      rcases hread with ⟨h, _⟩ | ⟨ad', c, news, rfl, heln, hcells⟩
      · exact absurd h hy
      · have hsep := hs.sep o b C.size hlive hl
        by_cases hroom : xs.length + ys.length ≤ cap
        · have had := g3 (by omega)
          subst had
          have hcapC : cap * i.size ≤ C.size := g2
          have hfit2 : xs.length * i.size + news.length ≤ C.size := by
            rw [heln.1, ← Nat.add_mul]
            exact Nat.le_trans (Nat.mul_le_mul_right _ hroom) hcapC
          have hrun := fun (hce : ec = e) => hce
          have hst := run_storeCells_at P b (xs.length * i.size) ec news 0 C w hC (by simpa using hfit2) (zHS heln h0 hall)
          simp only [Nat.add_zero] at hst
          have hf := run_firstCells_some (P := P) w i.size ys.length ad' ys.length c news heln.1 hcells
          refine ⟨w.setRow b (C.toList.take (xs.length * i.size) ++ news ++ C.toList.drop (xs.length * i.size + news.length)).toArray, q7 loc nx (loc o), .slice (some ⟨b, 0, none⟩) (xs.length + ys.length) cap, ?_, ?_, .own _ _ _ _ b C.size _ _ (locSet_same.trans hl) hroom (by simpa using g2) (fun _ => by simp)⟩
          · simp [Builtin.append_, run_underlying ht, sizeOf, typeInfo, hi, Builtin.lenOf, hroom, hf, l4, hst]
          · have hmono : ∀ k, I k → (w.setRow b (C.toList.take (xs.length * i.size) ++ news ++ C.toList.drop (xs.length * i.size + news.length)).toArray).heap[k]? = w.heap[k]? := fun k hk => setRow_other w b k _ (fun e => hsep.1 (e ▸ hk))
            have hnl : (C.toList.take (xs.length * i.size) ++ news ++ C.toList.drop (xs.length * i.size + news.length)).toArray.size = C.size := by simp; omega
            have hwr := hs.write hlive hl hC (A := .row i.size (xs ++ ys)) (OR.row_of h0 hzl (by rw [hnl]; exact hl) (setRow_heap w b C _ ec _ hC) ((hel.append heln hxl).mono hmono (fun _ x => x)) (by
              have e1 : (List.take (xs.length * i.size) C.toList ++ news).length = xs.length * i.size + news.length := by simp; omega
              rw [e1]
              have e2 : (C.toList.take (xs.length * i.size)).length = xs.length * i.size := by simp; omega
              simp only [List.append_assoc]
              rw [← List.append_assoc, ← e1]
              exact List.take_left)) (by simp)
            have hmv := hwr.move (o := o) (nx := nx) (sz := i.size) (xs := xs ++ ys) (by rw [AS.obj_setO, if_pos rfl]) (by rw [AS.obj_setO, if_neg hne]; exact hnx)
            refine hmv.congr rfl (fun _ => rfl) (fun k => ?_)
            simp only [AS.obj_setO]
            by_cases e1 : nx = k
            · rw [if_pos e1, if_pos e1]
            · rw [if_neg e1, if_neg e1]
              by_cases e2 : o = k
              · rw [if_pos e2, if_pos e2]
              · rw [if_neg e2, if_neg e2, if_neg e2]
        · have hg : cap < xs.length + ys.length := by omega
          have holds : ∀ j v, (C.toList.take (xs.length * i.size))[j]? = some v → w.cell? (ad.add j) = some v := fun j v hj => by
            rw [List.getElem?_take] at hj
            split at hj
            · rename_i hlt
              have hx0 : 0 < xs.length := by rcases Nat.eq_zero_or_pos xs.length with h | h; · rw [h] at hlt; simp at hlt
                                             · exact h
              have had := g3 (by omega)
              subst had
              rw [l4]
              have hjC : j < C.size := by omega
              have : C.toList[j]? = some C[j] := by simp [hjC]
              rw [this] at hj; cases hj
              rw [Nat.zero_add]; exact j6 hC hjC
            · cases hj
          have hrun := run_append_grow (P := P) w t ty e i z ht hi hz ad xs.length cap (C.toList.take (xs.length * i.size)) hel.1 holds ad' ys.length c news heln.1 hcells hg (by omega) (growslice_fits hg hb)
          have hs1 := (hs.kill o).heap (w' := w.drew) rfl rfl rfl rfl
          have hge := grownCap_ge w (xs.length + ys.length) cap e
          have hsize : ((C.toList.take (xs.length * i.size)).toArray ++ news.toArray ++ Builtin.zeroCells z.cells (grownCap w (xs.length + ys.length) cap e - (xs.length + ys.length))).size = grownCap w (xs.length + ys.length) cap e * i.size := by
            simp only [Array.size_append, List.size_toArray, size_zeroCells, hzs, hel.1, heln.1, ← Nat.add_mul]
            congr 1; omega
          refine ⟨_, q7 loc nx (.blk w.heap.size ((C.toList.take (xs.length * i.size)).toArray ++ news.toArray ++ Builtin.zeroCells z.cells (grownCap w (xs.length + ys.length) cap e - (xs.length + ys.length))).size), _, hrun, hs1.born hnx' _ ?_, ?_⟩
          · refine OR.row_of h0 hzl (by simp only [q7, if_true]) (heap_alloc_new w.drew _) ((hel.append heln hxl).mono (fun b hb => r6 _ _ _ (hs.imm b hb)) (fun _ x => x)) ?_
            simp only [Array.toList_append, List.append_assoc]
            rw [← List.append_assoc]
            exact List.take_left
          · refine .own _ _ _ _ w.heap.size _ _ _ locSet_same hge ?_ (fun _ => by simp)
            rw [hsize]; simp
def ElemsV (w : World) (I : Nat → Prop) (loc : Nat → Loc) (ys : List AV) (news : List Value) : Prop :=
 news.length = ys.length ∧ ∀ i (h : i < ys.length) (h' : i < news.length), VR w I loc ys[i] news[i]
theorem Elems.toV {ys : List AV} {news : List Value} (h : Elems w I 1 ys news) (hall : ∀ y, y ∈ ys → y.one = true) : ElemsV w I loc ys news := by
 refine ⟨by rw [h.1]; omega, fun i hi hi' => ?_⟩
 obtain ⟨g0, e1⟩ := AV.cells_zero (hall _ (List.getElem_mem hi))
 have := h.2 i hi 0 g0 (by omega)
 have e2 : i * 1 + 0 = i := by omega
 simp only [e2] at this
 rw [e1] at this
 exact .pure this
theorem zHT {ys : List AV} {news : List Value} (h : ElemsV w I loc ys news) (hone : ∀ y, y ∈ ys → y.one = true) : ∀ u, u ∈ news → u.oneCell' = true := fun u hu => by
 obtain ⟨i, hi, rfl⟩ := List.getElem_of_mem hu
 have e := h.1
 exact (h.2 i (by omega) hi).one (hone _ (List.getElem_mem _))
theorem ElemsW.toV {ys : List AV} {news : List Value} (h : ElemsW w I loc 1 ys news) (hall : ∀ y, y ∈ ys → y.one = true) : ElemsV w I loc ys news := by
 refine ⟨by rw [h.1]; omega, fun i hi hi' => ?_⟩
 obtain ⟨g0, e1⟩ := AV.cells_zero (hall _ (List.getElem_mem hi))
 have := h.2 i hi 0 g0 (by omega)
 have e2 : i * 1 + 0 = i := by omega
 simp only [e2] at this
 rw [e1] at this
 exact this
theorem ElemsV.append {xs ys : List AV} {os ns : List Value} (h1 : ElemsV w I loc xs os) (h2 : ElemsV w I loc ys ns) : ElemsV w I loc (xs ++ ys) (os ++ ns) := by
 refine ⟨by simp [h1.1, h2.1], fun i hi hi' => ?_⟩
 have e := h1.1
 by_cases hlt : i < xs.length
 ·rw [List.getElem_append_left hlt, List.getElem_append_left (by omega)]
  exact h1.2 i hlt _
 ·rw [List.getElem_append_right (by omega), List.getElem_append_right (by omega)]
  have e3 : i - os.length = i - xs.length := by omega
  simp only [e3]
  exact h2.2 _ _ _
theorem ElemsV.mono {w' : World} {I' : Nat → Prop} {loc' : Nat → Loc} {xs : List AV} {os : List Value} (h : ElemsV w I loc xs os) (hw : ∀ b, I b → w'.heap[b]? = w.heap[b]?) (hI : ∀ b, I b → I' b) (hl : ∀ o, loc o ≠ .un → loc' o = loc o) : ElemsV w' I' loc' xs os :=
 ⟨h.1, fun i hi hi' => (h.2 i hi hi').mono hw hI hl⟩
theorem OR.box_of {o b e : Nat} {zs : List AV} {C : Array Value} {cs : List Value} (hl : loc o = .blk b C.size) (hb : w.heap[b]? = some (.cells C e (0, 0)))
  (hel : ElemsV w I loc zs cs) (hC : C.toList.take cs.length = cs) : OR w I loc o (.box zs) := by
 have hle : cs.length ≤ C.size := by
  have := congrArg List.length hC
  simp at this; omega
 refine .inr ⟨b, C, e, hl, hb, by rw [← hel.1]; exact hle, fun i hi h' => ?_⟩
 have hlt : i < cs.length := by rw [hel.1]; exact hi
 have := hel.2 i hi hlt
 have e1 : C[i] = cs[i] := by
  have h2 : cs[i]? = C[i]? := by
   have h3 := congrArg (fun l => l[i]?) hC
   simp only [List.getElem?_take, if_pos hlt] at h3
   rw [← h3]; simp
  rw [List.getElem?_eq_getElem hlt, Array.getElem?_eq_getElem h'] at h2
  exact (Option.some.inj h2).symm
 rw [e1]; exact this
theorem OR.elemsV {o b c : Nat} {xs : List AV} (h : OR w I loc o (.box xs)) (hl : loc o = .blk b c) : ∃ C e, c = C.size ∧ w.heap[b]? = some (.cells C e (0, 0)) ∧ xs.length ≤ C.size ∧ ElemsV w I loc xs (C.toList.take xs.length) := by
 rcases h with ⟨h1, _⟩ | ⟨b', C, e, h1, h2, h3, h4⟩
 ·rw [hl] at h1; cases h1
 ·rw [hl] at h1; cases h1
  refine ⟨C, e, rfl, h2, h3, by simp; omega, fun i hi h' => ?_⟩
  have : i < C.size := by omega
  simp only [List.getElem_take, Array.getElem_toList]
  exact h4 i hi this
theorem zCK {nx : Nat} {L : Loc} (hs : SR E I loc σ a w) (hn : σ.obj nx = .unb) : ∀ o, loc o ≠ .un → q7 loc nx L o = loc o := fun o ho => by
 unfold q7; rw [if_neg]; intro e; subst e; exact ho (hs.un hn)
theorem zBG {t ty e nx : Nat} {i : TypeInfo} {z : Value} (ht : P.underlying t = some (.slice e)) (hi : P.info? e = some i) (hz : i.zero = some z) (hzs : z.cells.size = i.size) (h1s : i.size = 1) (hs : SR E I loc σ a w) (hnx : σ.obj nx = .unb)
  {ys : List AV} {v : Value} (hall : ∀ y, y ∈ ys → y.cells.length = i.size ∧ y.cells.all AV.one = true) (hone : ∀ y, y ∈ ys → y.one = true)
  (hread : (ys = [] ∧ ∃ ad c, v = .slice ad 0 c) ∨ ∃ ad c news, v = .slice (some ad) ys.length c ∧ ElemsV w I loc ys news ∧ ∀ j v, news[j]? = some v → w.cell? (ad.add j) = some v)
  (hb : ys.length * i.bytes ≤ 140737488355328) (h63 : ys.length ≤ 9223372036854775807) :
  ∃ w' loc' r, (Builtin.append_ #[t, t] ty #[.slice none 0 0, v]).run P w = .ok r w' ∧ SR E I loc' (σ.setO nx (.box ys)) a w' ∧ VR w' I loc' (.own nx 1 0 ys.length) r := by
 have h0 : 0 < i.size := by omega
 by_cases hy : ys = []
 ·subst hy
  refine ⟨w, q7 loc nx .nil, .slice none 0 0, ?_, hs.bornNilG (.inl ⟨locSet_same, rfl⟩) hnx, .ownN _ _ (by simp [q7])⟩
  rcases hread with ⟨_, ad, c, rfl⟩ | ⟨ad, c, news, rfl, _, _⟩
  ·cases ad <;> simp [Builtin.append_, run_underlying ht, sizeOf, typeInfo, hi, Builtin.lenOf, Builtin.firstCells, loadCells, loadCellsFrom]
  ·simp [Builtin.append_, run_underlying ht, sizeOf, typeInfo, hi, Builtin.lenOf, Builtin.firstCells, loadCells, loadCellsFrom]
 ·have hpos : 0 < ys.length := List.length_pos_iff.2 hy
  rcases hread with ⟨h, _⟩ | ⟨ad, c, news, rfl, hel, hcells⟩
  ·exact absurd h hy
  ·have hrun := run_append_nil (P := P) w t ty e i z ht hi hz ad ys.length c news (by rw [h1s, Nat.mul_one]; exact hel.1) hcells hpos (by omega) (by omega)
   have hs1 := hs.heap (w' := w.drew) rfl rfl rfl rfl
   refine ⟨_, q7 loc nx (.blk w.heap.size (news.toArray ++ Builtin.zeroCells z.cells (grownCap w ys.length 0 e - ys.length)).size), _, hrun, hs1.born hnx _ ?_, ?_⟩
   ·refine OR.box_of (by simp [q7]) (heap_alloc_new w.drew _) (hel.mono (fun b hb => r6 _ _ _ (hs.imm b hb)) (fun _ x => x) (zCK hs hnx)) (cs := news) ?_
    simp
   ·have hge := grownCap_ge w ys.length 0 e
    have hsize : (news.toArray ++ Builtin.zeroCells z.cells (grownCap w ys.length 0 e - ys.length)).size = grownCap w ys.length 0 e * i.size := by
     simp only [Array.size_append, List.size_toArray, size_zeroCells, hzs, hel.1]
     rw [h1s]; omega
    refine .own _ _ _ _ w.heap.size _ _ _ locSet_same hge ?_ (fun _ => by simp)
    rw [hsize, h1s]; simp
theorem zD1 {t ty e nx o : Nat} {i : TypeInfo} {z : Value} (ht : P.underlying t = some (.slice e)) (hi : P.info? e = some i) (hz : i.zero = some z) (hzs : z.cells.size = i.size) (h1s : i.size = 1) (hs : SR E I loc σ a w) (hnx : σ.obj nx = .unb)
    {xs ys : List AV} {v u : Value} (ho : σ.obj o = .box xs) (hu : VR w I loc (.own o 1 0 xs.length) u) (hall : ∀ y, y ∈ ys → y.cells.length = i.size ∧ y.cells.all AV.one = true) (hone : ∀ y, y ∈ ys → y.one = true)
    (hread : (ys = [] ∧ ∃ ad c, v = .slice ad 0 c) ∨ ∃ ad c news, v = .slice (some ad) ys.length c ∧ ElemsV w I loc ys news ∧ ∀ j v, news[j]? = some v → w.cell? (ad.add j) = some v)
    (hb : (xs.length + ys.length) * i.bytes ≤ 140737488355328) (h63 : xs.length + ys.length ≤ 9223372036854775807) :
    ∃ w' loc' r, (Builtin.append_ #[t, t] ty #[u, v]).run P w = .ok r w' ∧ SR E I loc' ((σ.setO o .dead).setO nx (.box (xs ++ ys))) a w' ∧ VR w' I loc' (.own nx 1 0 (xs.length + ys.length)) r := by
  have hor := hs.objs o
  rw [ho] at hor
  have h0 : 0 < i.size := by omega
  have hlive : (σ.obj o).live = true := by rw [ho]; rfl
  have hne : o ≠ nx := fun e => by rw [e, hnx] at ho; cases ho
  have hnx' : (σ.setO o .dead).obj nx = .unb := by rw [AS.obj_setO, if_neg hne]; exact hnx
  rcases hu.own_inv with ⟨hn, _, hx0, rfl⟩ | ⟨b, c, ad, cap, hl, rfl, g1, g2, g3⟩
  · have hx : xs = [] := by
      rcases hor with ⟨_, h⟩ | ⟨b, C, e, h, _⟩
      · exact h
      · rw [hn] at h; cases h
    subst hx
    simp only [List.length_nil, Nat.zero_add, List.nil_append] at *
    exact zBG ht hi hz hzs h1s (hs.kill o) hnx' hall hone hread hb h63
  · obtain ⟨C, ec, rfl, hC, hfit, hel⟩ := hor.elemsV hl
    simp only [Nat.zero_add, Nat.zero_mul] at g2 g3
    by_cases hy : ys = []
    · subst hy
      simp only [List.append_nil, List.length_nil, Nat.add_zero] at *
      refine ⟨w, _, .slice (some ad) xs.length cap, ?_, hs.moveBox ho hnx, .own _ _ _ _ b C.size _ _ (locSet_same.trans hl) g1 (by simpa using g2) (by simpa using g3)⟩
      rcases hread with ⟨_, ad', c, rfl⟩ | ⟨ad', c, news, rfl, _, _⟩
      · cases ad' <;> simp [Builtin.append_, run_underlying ht, sizeOf, typeInfo, hi, Builtin.lenOf, Builtin.firstCells, loadCells, loadCellsFrom, storeCells, g1]
      · simp [Builtin.append_, run_underlying ht, sizeOf, typeInfo, hi, Builtin.lenOf, Builtin.firstCells, loadCells, loadCellsFrom, storeCells, g1]
    · have hpos : 0 < ys.length := List.length_pos_iff.2 hy
      rcases hread with ⟨h, _⟩ | ⟨ad', c, news, rfl, heln, hcells⟩
      · exact absurd h hy
      · have hsep := hs.sep o b C.size hlive hl
        by_cases hroom : xs.length + ys.length ≤ cap
        · have had := g3 (by omega)
          subst had
          have hcapC : cap ≤ C.size := by omega
          have heln1 : news.length = ys.length := heln.1
          have helnV : ElemsV w I loc ys news := heln
          have hfit2 : xs.length + news.length ≤ C.size := by omega
          have hrun := fun (hce : ec = e) => hce
          have hst := run_storeCells_at P b (xs.length) ec news 0 C w hC (by simpa using hfit2) (zHT heln hone)
          simp only [Nat.add_zero] at hst
          have hf := run_firstCells_some (P := P) w i.size ys.length ad' ys.length c news (by rw [h1s, Nat.mul_one]; exact heln.1) hcells
          refine ⟨w.setRow b (C.toList.take (xs.length) ++ news ++ C.toList.drop (xs.length + news.length)).toArray, q7 loc nx (loc o), .slice (some ⟨b, 0, none⟩) (xs.length + ys.length) cap, ?_, ?_, .own _ _ _ _ b C.size _ _ (locSet_same.trans hl) hroom (by simpa using g2) (fun _ => by simp)⟩
          · have hst' := hst
            rw [show (⟨b, xs.length, none⟩ : Addr) = ⟨b, xs.length * i.size, none⟩ by rw [h1s, Nat.mul_one]] at hst'
            simp [Builtin.append_, run_underlying ht, sizeOf, typeInfo, hi, Builtin.lenOf, hroom, hf, l4, hst']
          · have hmono : ∀ k, I k → (w.setRow b (C.toList.take (xs.length) ++ news ++ C.toList.drop (xs.length + news.length)).toArray).heap[k]? = w.heap[k]? := fun k hk => setRow_other w b k _ (fun e => hsep.1 (e ▸ hk))
            have hnl : (C.toList.take (xs.length) ++ news ++ C.toList.drop (xs.length + news.length)).toArray.size = C.size := by simp; omega
            have hwr := hs.write hlive hl hC (A := .box (xs ++ ys)) (OR.box_of (by rw [hnl]; exact hl) (setRow_heap w b C _ ec _ hC) ((hel.append helnV).mono hmono (fun _ x => x) (fun _ _ => rfl)) (by
              have e1 : (List.take (xs.length) C.toList ++ news).length = xs.length + news.length := by simp; omega
              rw [e1]
              have e2 : (C.toList.take (xs.length)).length = xs.length := by simp; omega
              simp only [List.append_assoc]
              rw [← List.append_assoc, ← e1]
              exact List.take_left)) (by simp)
            have hmv := hwr.moveBox (o := o) (nx := nx) (xs := xs ++ ys) (by rw [AS.obj_setO, if_pos rfl]) (by rw [AS.obj_setO, if_neg hne]; exact hnx)
            refine hmv.congr rfl (fun _ => rfl) (fun k => ?_)
            simp only [AS.obj_setO]
            by_cases e1 : nx = k
            · rw [if_pos e1, if_pos e1]
            · rw [if_neg e1, if_neg e1]
              by_cases e2 : o = k
              · rw [if_pos e2, if_pos e2]
              · rw [if_neg e2, if_neg e2, if_neg e2]
        · have hg : cap < xs.length + ys.length := by omega
          have heln1 : news.length = ys.length := heln.1
          have helnV : ElemsV w I loc ys news := heln
          have hel1 : (C.toList.take xs.length).length = xs.length * i.size := by rw [h1s]; have := hel.1; omega
          have holds : ∀ j v, (C.toList.take (xs.length))[j]? = some v → w.cell? (ad.add j) = some v := fun j v hj => by
            rw [List.getElem?_take] at hj
            split at hj
            · rename_i hlt
              have hx0 : 0 < xs.length := by rcases Nat.eq_zero_or_pos xs.length with h | h; · rw [h] at hlt; simp at hlt
                                             · exact h
              have had := g3 (by omega)
              subst had
              rw [l4]
              have hjC : j < C.size := by omega
              have : C.toList[j]? = some C[j] := by simp [hjC]
              rw [this] at hj; cases hj
              rw [Nat.zero_add]; exact j6 hC hjC
            · cases hj
          have hrun := run_append_grow (P := P) w t ty e i z ht hi hz ad xs.length cap (C.toList.take xs.length) hel1 holds ad' ys.length c news (by rw [h1s, Nat.mul_one]; exact heln.1) hcells hg (by omega) (growslice_fits hg hb)
          have hs1 := (hs.kill o).heap (w' := w.drew) rfl rfl rfl rfl
          have hge := grownCap_ge w (xs.length + ys.length) cap e
          have hsize : ((C.toList.take (xs.length)).toArray ++ news.toArray ++ Builtin.zeroCells z.cells (grownCap w (xs.length + ys.length) cap e - (xs.length + ys.length))).size = grownCap w (xs.length + ys.length) cap e * i.size := by
            simp only [Array.size_append, List.size_toArray, size_zeroCells, hzs, hel.1, heln1, h1s]
            omega
          refine ⟨_, q7 loc nx (.blk w.heap.size ((C.toList.take (xs.length)).toArray ++ news.toArray ++ Builtin.zeroCells z.cells (grownCap w (xs.length + ys.length) cap e - (xs.length + ys.length))).size), _, hrun, hs1.born hnx' _ ?_, ?_⟩
          · refine OR.box_of (by simp only [q7, if_true]) (heap_alloc_new w.drew _) ((hel.append helnV).mono (fun b hb => r6 _ _ _ (hs.imm b hb)) (fun _ x => x) (zCK hs hnx)) ?_
            simp only [Array.toList_append, List.append_assoc]
            rw [← List.append_assoc]
            exact List.take_left
          · refine .own _ _ _ _ w.heap.size _ _ _ locSet_same hge ?_ (fun _ => by simp)
            rw [hsize, h1s]; simp
theorem zDy {t ty nx : Nat} {s x : AV} {u v : Value} {K : Cont} (hs : SR E I loc σ a w) (hu : VR w I loc s u) (hv : VR w I loc x v) (h : appendA P t s x σ.obj nx K) :
    ∃ z rd wr w' loc' r, K z rd wr ∧ (Builtin.append_ #[t, t] ty #[u, v]).run P w = .ok r w' ∧ SR E I loc' (σ.writes wr) a w' ∧ VR w' I loc' z r := by
  unfold appendA at h
  cases ht : sliceT P t with
  | none => simp only [ht] at h
  | some e =>
    simp only [ht] at h
    cases hsz : sizeT P e with
    | none => simp only [hsz] at h
    | some sz =>
      cases hby : bytesT P e with
      | none => simp only [hsz, hby] at h
      | some by_ =>
        cases hz : zeroT P e with
        | none => simp only [hsz, hby, hz] at h
        | some z =>
          cases hrd : r9 σ.obj ((some sz).getD 0) x with
          | none => simp only [hsz, hby, hz, hrd] at h
          | some yr =>
            obtain ⟨ys, rd⟩ := yr
            simp only [hsz, hby, hz, hrd] at h
            obtain ⟨h0, hzs, hall, h⟩ := h
            obtain ⟨i, hi, his⟩ := G3 hsz
            have hib : i.bytes = by_ := by unfold bytesT at hby; rw [hi] at hby; simpa using hby
            have hiz : i.zero = some z := by unfold zeroT at hz; rw [hi] at hz; simpa using hz
            have htt := c9 ht
            subst his; subst hib
            have hreadW := zAd hs hv hrd (fun y hy => (hall y hy).1)
            split at h
            · have hreadV : i.size = 1 → (∀ y, y ∈ ys → y.one = true) → ((ys = [] ∧ ∃ ad c, v = .slice ad 0 c) ∨ ∃ ad c news, v = .slice (some ad) ys.length c ∧ ElemsV w I loc ys news ∧ ∀ j v, news[j]? = some v → w.cell? (ad.add j) = some v) := fun h1 ho => by
                rcases hreadW with hr | ⟨ad, c, news, q1, q2, q3⟩
                · exact .inl hr
                · exact .inr ⟨ad, c, news, q1, by simp only [Option.getD_some, h1] at q2; exact q2.toV ho, q3⟩
              split at h
              · rename_i o sz' len
                generalize hA : σ.obj o = A at h
                cases A with
                | box cs =>
                  obtain ⟨rfl, h1s, rfl, hone, hnx, hb, h63, hK⟩ := h
                  obtain ⟨w', loc', r, h1, h2, h3⟩ := zD1 (ty := ty) htt hi hiz hzs h1s hs hnx hA hu hall hone (hreadV h1s hone) hb h63
                  exact ⟨_, _, _, w', loc', r, hK, h1, h2, h3⟩
                | _ => exact h.elim
              · obtain ⟨h1s, hone, hnx, hb, h63, hK⟩ := h
                have e1 := hu.raw_eq; subst e1
                obtain ⟨w', loc', r, h1, h2, h3⟩ := zBG (ty := ty) htt hi hiz hzs h1s hs hnx hall hone (hreadV h1s hone) hb h63
                exact ⟨_, _, _, w', loc', r, hK, h1, h2, h3⟩
              · exact h.elim
            · have hread : (ys = [] ∧ ∃ ad c, v = .slice ad 0 c) ∨ ∃ ad c news, v = .slice (some ad) ys.length c ∧ Elems w I i.size ys news ∧ ∀ j v, news[j]? = some v → w.cell? (ad.add j) = some v := by
                rcases hreadW with hr | ⟨ad, c, news, q1, q2, q3⟩
                · exact .inl hr
                · exact .inr ⟨ad, c, news, q1, q2.pure h.1, q3⟩
              replace h := h.2
              split at h
              · rename_i o sz' len
                generalize hA : σ.obj o = A at h
                cases A with
                | row sz'' xs =>
                  obtain ⟨rfl, rfl, rfl, hnx, hb, h63, hK⟩ := h
                  obtain ⟨w', loc', r, h1, h2, h3⟩ := zD2 (ty := ty) htt hi hiz hzs h0 hs hnx hA hu hall hread hb h63
                  exact ⟨_, _, _, w', loc', r, hK, h1, h2, h3⟩
                | _ => exact h.elim
              · obtain ⟨hnx, hb, h63, hK⟩ := h
                have e1 := hu.raw_eq; subst e1
                obtain ⟨w', loc', r, h1, h2, h3⟩ := zBH (ty := ty) htt hi hiz hzs h0 hs hnx hall hread hb h63
                exact ⟨_, _, _, w', loc', r, hK, h1, h2, h3⟩
              · exact h.elim
abbrev bcs (l : List UInt8) : List Value := l.map fun c => Value.int .u8 c.toNat
theorem zBF {t tx ty e nx : Nat} {i : TypeInfo} (ht : P.underlying t = some (.slice e)) (hi : P.info? e = some i) (hz : i.zero = some (.int .u8 0)) (h1 : i.size = 1) (hb1 : i.bytes = 1) (hs : SR E I loc σ a w) (hnx : σ.obj nx = .unb)
  {l2 : List UInt8} {v : Value} (hsrc : Src P i.size tx v l2.length (bcs l2) w) (hne : l2 ≠ []) (hb : l2.length ≤ 140737488355328) :
  ∃ w' loc' r, (Builtin.append_ #[t, tx] ty #[.slice none 0 0, v]).run P w = .ok r w' ∧ SR E I loc' (σ.setO nx (.brow e l2)) a w' ∧ VR w' I loc' (.own nx 1 0 l2.length) r := by
 have hpos : 0 < l2.length := List.length_pos_iff.2 hne
 have hrun := run_append_grow_src (P := P) w t tx ty e i _ ht hi hz none 0 0 [] (run_firstCells_none w.drew i.size 0 0 0) v l2.length (bcs l2) hsrc (by omega) (by omega) (growslice_fits (by omega) (by rw [Nat.zero_add, hb1]; omega))
 simp only [Nat.zero_add, List.nil_append] at hrun
 have hs1 := hs.heap (w' := w.drew) rfl rfl rfl rfl
 have hge := grownCap_ge w l2.length 0 e
 have hsize : ((bcs l2).toArray ++ Builtin.zeroCells (Value.int .u8 0).cells (grownCap w l2.length 0 e - l2.length)).size = grownCap w l2.length 0 e := by
  simp only [Array.size_append, List.size_toArray, size_zeroCells, List.length_map]
  have : (Value.int .u8 0).cells.size = 1 := rfl
  rw [this]; omega
 refine ⟨_, q7 loc nx (.blk w.heap.size ((bcs l2).toArray ++ Builtin.zeroCells (Value.int .u8 0).cells (grownCap w l2.length 0 e - l2.length)).size), _, hrun, hs1.born hnx _ (.inr ⟨_, _, by simp only [q7, if_true], heap_alloc_new w.drew _, ?_⟩), ?_⟩
 ·have : l2.length = (bcs l2).length := by simp
  rw [this, Array.toList_append]
  exact List.take_left
 ·refine .own _ _ _ _ w.heap.size _ _ _ locSet_same hge ?_ (fun _ => by simp)
  rw [hsize]; omega
theorem zD0 {t tx ty e nx o : Nat} {i : TypeInfo} (ht : P.underlying t = some (.slice e)) (hi : P.info? e = some i) (hz : i.zero = some (.int .u8 0)) (h1 : i.size = 1) (hb1 : i.bytes = 1) (hs : SR E I loc σ a w) (hnx : σ.obj nx = .unb)
    {l l2 : List UInt8} {v u : Value} (ho : σ.obj o = .brow e l) (hu : VR w I loc (.own o 1 0 l.length) u) (hsrc : Src P i.size tx v l2.length (bcs l2) w) (hne : l2 ≠ []) (hb : l.length + l2.length ≤ 140737488355328) :
    ∃ w' loc' r, (Builtin.append_ #[t, tx] ty #[u, v]).run P w = .ok r w' ∧ SR E I loc' ((σ.setO o .dead).setO nx (.brow e (l ++ l2))) a w' ∧ VR w' I loc' (.own nx 1 0 (l.length + l2.length)) r := by
  have hpos : 0 < l2.length := List.length_pos_iff.2 hne
  have hor := hs.objs o
  rw [ho] at hor
  have hlive : (σ.obj o).live = true := by rw [ho]; rfl
  have hno : o ≠ nx := fun e => by rw [e, hnx] at ho; cases ho
  have hnx' : (σ.setO o .dead).obj nx = .unb := by rw [AS.obj_setO, if_neg hno]; exact hnx
  rcases hu.own_inv with ⟨hn, _, hx0, rfl⟩ | ⟨b, c, ad, cap, hl, rfl, g1, g2, g3⟩
  · have hx : l = [] := List.eq_nil_of_length_eq_zero hx0
    subst hx
    simp only [List.length_nil, Nat.zero_add, List.nil_append] at *
    exact zBF ht hi hz h1 hb1 (hs.kill o) hnx' hsrc hne hb
  · rcases hor with ⟨hn, _⟩ | ⟨b', C, hl', hC, hel⟩
    · rw [hl] at hn; cases hn
    rw [hl] at hl'; cases hl'
    simp only [Nat.zero_add, Nat.zero_mul, Nat.mul_one] at g2 g3
    have hlC : l.length ≤ C.size := by omega
    have hsep := hs.sep o b C.size hlive hl
    have hone : ∀ x, x ∈ bcs l2 → x.oneCell' = true := hsrc.one
    have hl2 : (bcs l2).length = l2.length := by simp
    by_cases hroom : l.length + l2.length ≤ cap
    · have had := g3 (by omega)
      subst had
      have hst := run_storeCells_at P b l.length e (bcs l2) 0 C w hC (by rw [hl2]; omega) hone
      simp only [Nat.add_zero] at hst
      have hf := hsrc.cells
      have hlen := hsrc.len
      have hnl : (C.toList.take l.length ++ bcs l2 ++ C.toList.drop (l.length + (bcs l2).length)).toArray.size = C.size := by simp; omega
      refine ⟨w.setRow b (C.toList.take l.length ++ bcs l2 ++ C.toList.drop (l.length + (bcs l2).length)).toArray, q7 loc nx (loc o), .slice (some ⟨b, 0, none⟩) (l.length + l2.length) cap, ?_, ?_, .own _ _ _ _ b C.size _ _ (locSet_same.trans hl) hroom (by simpa using g2) (fun _ => by simp)⟩
      · have hst' := hst
        rw [show (⟨b, l.length, none⟩ : Addr) = ⟨b, l.length * i.size, none⟩ by rw [h1, Nat.mul_one]] at hst'
        rcases hsrc.kind with ⟨e', hk⟩ | hk <;> simp [Builtin.append_, run_underlying ht, run_underlying hk, sizeOf, typeInfo, hi, hlen, hroom, hf, l4, hst']
      · have hOR : OR (w.setRow b (C.toList.take l.length ++ bcs l2 ++ C.toList.drop (l.length + (bcs l2).length)).toArray) I loc o (.brow e (l ++ l2)) := by
          refine .inr ⟨b, _, by rw [hnl]; exact hl, setRow_heap w b C _ e _ hC, ?_⟩
          rw [hel, List.map_append]
          have e1 : (l ++ l2).length = (List.map (fun c => Value.int .u8 c.toNat) l ++ bcs l2).length := by simp
          rw [e1]
          exact List.take_left
        have hwr := hs.write hlive hl hC hOR (by simp)
        have hmv := hwr.moveG (o := o) (nx := nx) (A := .brow e (l ++ l2)) (by rw [AS.obj_setO, if_pos rfl]) rfl (fun loc' e2 _ q => by
          rcases q with ⟨q1, q2⟩ | ⟨b2, C2, q1, q2⟩
          · exact .inl ⟨by rw [e2, q1], q2⟩
          · exact .inr ⟨b2, C2, by rw [e2, q1], q2⟩) (by rw [AS.obj_setO, if_neg hno]; exact hnx)
        refine hmv.congr rfl (fun _ => rfl) (fun k => ?_)
        simp only [AS.obj_setO]
        by_cases e1 : nx = k
        · rw [if_pos e1, if_pos e1]
        · rw [if_neg e1, if_neg e1]
          by_cases e2 : o = k
          · rw [if_pos e2, if_pos e2]
          · rw [if_neg e2, if_neg e2, if_neg e2]
    · have hg : cap < l.length + l2.length := by omega
      have holds : ∀ j v, (bcs l)[j]? = some v → w.cell? (ad.add j) = some v := fun j v hj => by
        have hjl : j < l.length := by
          have := (List.getElem?_eq_some_iff.1 hj).1
          simpa using this
        have had := g3 (by omega)
        subst had
        rw [l4, Nat.zero_add]
        have hjC : j < C.size := by omega
        rw [j6 hC hjC, ← hj]
        have h4 := congrArg (fun q => q[j]?) hel
        simp only [List.getElem?_take, if_pos hjl] at h4
        rw [← h4]; simp [hjC]
      have hrun := run_append_grow_src (P := P) w t tx ty e i _ ht hi hz (some ad) l.length cap (bcs l) (run_firstCells_some (P := P) w.drew i.size l.length ad l.length cap _ (by rw [h1]; simp) (by simpa using holds)) v l2.length (bcs l2) hsrc hg (by omega) (growslice_fits hg (by rw [hb1]; omega))
      have hs1 := (hs.kill o).heap (w' := w.drew) rfl rfl rfl rfl
      have hge := grownCap_ge w (l.length + l2.length) cap e
      have hsize : ((bcs l ++ bcs l2).toArray ++ Builtin.zeroCells (Value.int .u8 0).cells (grownCap w (l.length + l2.length) cap e - (l.length + l2.length))).size = grownCap w (l.length + l2.length) cap e := by
        simp only [Array.size_append, List.size_toArray, size_zeroCells, List.length_append, List.length_map]
        have : (Value.int .u8 0).cells.size = 1 := rfl
        rw [this]; omega
      refine ⟨_, q7 loc nx (.blk w.heap.size ((bcs l ++ bcs l2).toArray ++ Builtin.zeroCells (Value.int .u8 0).cells (grownCap w (l.length + l2.length) cap e - (l.length + l2.length))).size), _, hrun, hs1.born hnx' _ (.inr ⟨_, _, by simp only [q7, if_true], heap_alloc_new w.drew _, ?_⟩), ?_⟩
      · rw [List.map_append]
        have e1 : (l ++ l2).length = (bcs l ++ bcs l2).length := by simp
        rw [e1, Array.toList_append]
        exact List.take_left
      · refine .own _ _ _ _ w.heap.size _ _ _ locSet_same hge ?_ (fun _ => by simp)
        rw [hsize]; omega
theorem zDR (b : ByteArray) : (zNw b).length = b.size := by
 unfold zNw
 rw [List.length_map, Array.length_toList]; rfl
theorem zDQ {b : ByteArray} {i : Nat} (hi : i < (zNw b).length) : ∃ c : UInt8, b.data.toList[i]? = some c ∧ (zNw b)[i] = .raw (.int .u8 (c.toNat : Int)) := by
 have hl : i < b.data.toList.length := by unfold zNw at hi; simpa using hi
 exact ⟨b.data.toList[i], List.getElem?_eq_getElem hl, by simp only [zNw, List.getElem_map]⟩
theorem zFB {l : List UInt8} {news : List Value} (h : ElemsW w I loc 1 (l.map fun b => AV.raw (.int .u8 (b.toNat : Int))) news) : news = bcs l := by
 have hl : news.length = l.length := by have := h.1; simp at this; omega
 refine List.ext_getElem (by simpa using hl) (fun j h1 h2 => ?_)
 have hv := h.2 j (by simpa using (by omega : j < l.length)) 0 (by simp [AV.cells]) (by simp; omega)
 simp only [List.getElem_map, AV.cells, List.getElem_singleton, Nat.mul_one, Nat.add_zero] at hv
 have := hv.raw_eq
 simp only [List.getElem_map]
 exact this
theorem zDz {t tx ty nx : Nat} {s x : AV} {u v : Value} {K : Cont} (hs : SR E I loc σ a w) (hu : VR w I loc s u) (hv : VR w I loc x v) (h : S9 P t tx s x σ.obj nx K)
  (hbs : ∀ (ys : List AV) (k : List UInt8 → Prop), X2 ys k → ∃ l, ys = l.map (fun b => .raw (.int .u8 (b.toNat : Int))) ∧ k l) :
  ∃ z rd wr w' loc' r, K z rd wr ∧ (Builtin.append_ #[t, tx] ty #[u, v]).run P w = .ok r w' ∧ SR E I loc' (σ.writes wr) a w' ∧ VR w' I loc' z r := by
 unfold S9 at h
 split at h
 ·rename_i e ht
  obtain ⟨⟨hsz, hby, hz⟩, hnx, h⟩ := h
  obtain ⟨i, hi, his⟩ := G3 hsz
  have hib : i.bytes = 1 := by unfold bytesT at hby; rw [hi] at hby; simpa using hby
  have hiz : i.zero = some (.int .u8 0) := by unfold zeroT at hz; rw [hi] at hz; simpa using hz
  have htt := c9 ht
  obtain ⟨l2, rd, hsrc, hne, h⟩ : ∃ l2 rd, Src P i.size tx v l2.length (bcs l2) w ∧ l2 ≠ [] ∧ zOA e s l2 rd σ.obj nx K := by
   unfold zOY at h
   split at h
   ·rename_i b
    obtain ⟨h1, h2, h3⟩ := h
    have ev := hv.raw_eq
    subst ev
    refine ⟨_, _, ?_, h2, h3⟩
    have := Src.ofString (P := P) w (V8 h1) b
    rw [his]
    have e1 : b.data.toList.length = b.size := by rw [Array.length_toList]; rfl
    rw [e1]; exact this
   ·rename_i o z off len
    obtain ⟨rfl, h⟩ := h
    cases hr : r9 σ.obj 1 (.own o z off len) with
    | none => simp only [hr] at h
    | some p =>
     obtain ⟨ys, rd⟩ := p
     simp only [hr] at h
     obtain ⟨hne, h⟩ := h
     obtain ⟨l, rfl, h2, h3⟩ := hbs _ _ h
     refine ⟨_, _, ?_, h2, h3⟩
     rcases zAd hs hv hr (fun y hy => by obtain ⟨b, _, rfl⟩ := List.mem_map.1 hy; rfl) with ⟨h0, _⟩ | ⟨ad, c, news, rfl, hel, hc⟩
     ·exact absurd h0 hne
     ·have e1 := zFB hel
      subst e1
      rw [his, List.length_map]
      exact Src.ofSlice w htt ad _ c _ (by simp) hc (fun x hx => by obtain ⟨b, _, rfl⟩ := List.mem_map.1 hx; rfl)
   ·exact h.elim
  unfold zOA at h
  split at h
  ·rename_i o sz' len _
   generalize hA : σ.obj o = A at h
   cases A with
   | brow e' l =>
    obtain ⟨rfl, rfl, rfl, hb, hK⟩ := h
    obtain ⟨w', loc', r, q1, q2, q3⟩ := zD0 (ty := ty) htt hi hiz his hib hs hnx hA hu hsrc hne hb
    exact ⟨_, _, _, w', loc', r, hK, q1, q2, q3⟩
   | _ => exact h.elim
  ·obtain ⟨hb, hK⟩ := h
   have e1 := hu.raw_eq; subst e1
   obtain ⟨w', loc', r, q1, q2, q3⟩ := zBF (ty := ty) htt hi hiz his hib hs hnx hsrc hne hb
   exact ⟨_, _, _, w', loc', r, hK, q1, q2, q3⟩
  ·exact h.elim
 ·exact h.elim
theorem zBZ {t : TypeId} {fs : Array Field} (ht : P.underlying t = some (.struct fs)) {pl : Array (Nat × Nat)} (hpl : ∀ i u off n, y2 P t i = some (u, off) → sizeT P u = some n → pl[i]? = some (off, n)) :
  ∀ (ps : List (Nat × Operand)) {cs ds : List AV} {C : Array Value} {ev : Operand → AV} {ρ : Operand → Value}, (∀ x, VR w I loc (ev x) (ρ x)) → (∀ p, p ∈ ps → (ev p.2).sized = true) → CV w I loc cs C →
   X7 P t cs (ps.map fun p => (p.1, ev p.2)) = some ds → ∃ D, Instr.fill (pl[·]?) C (ps.map fun p => (p.1, ρ p.2)) = some D ∧ CV w I loc ds D
 | [], cs, ds, C, ev, ρ, _, _, hc, h => by
  simp only [List.map_nil, X7, Option.some.injEq] at h; subst h
  exact ⟨C, rfl, hc⟩
 | p :: ps, cs, ds, C, ev, ρ, hev, hps, hc, h => by
  simp only [List.map_cons, X7] at h
  cases hf : y2 P t p.1 with
  | none => simp only [hf] at h; cases h
  | some uo =>
   obtain ⟨u, off⟩ := uo
   simp only [hf] at h
   split at h
   ·rename_i hcond
    obtain ⟨hsz, hfit⟩ := hcond
    have hcv := (hev p.2).toCV (hps p (by simp))
    obtain ⟨D, h1, h2⟩ := zBZ ht hpl ps hev (fun q hq => hps q (by simp [hq])) (hc.splice hcv hfit) h
    refine ⟨D, ?_, h2⟩
    rw [List.map_cons, B8 (off := off) (size := (ρ p.2).cells.size) (by rw [hpl _ _ _ _ hf hsz, hcv.1]) rfl (by rw [← hcv.1, ← hc.1]; exact hfit)]
    exact h1
   ·cases h
theorem zBa {sz : Nat} :
  ∀ (ps : List (Nat × Operand)) {cs ds : List AV} {C : Array Value} {ev : Operand → AV} {ρ : Operand → Value}, (∀ x, VR w I loc (ev x) (ρ x)) → (∀ p, p ∈ ps → (ev p.2).sized = true) → CV w I loc cs C →
   X8 sz cs (ps.map fun p => (p.1, ev p.2)) = some ds → ∃ D, Instr.fill (fun i => some (i * sz, sz)) C (ps.map fun p => (p.1, ρ p.2)) = some D ∧ CV w I loc ds D
 | [], cs, ds, C, ev, ρ, _, _, hc, h => by
  simp only [List.map_nil, X8, Option.some.injEq] at h; subst h
  exact ⟨C, rfl, hc⟩
 | p :: ps, cs, ds, C, ev, ρ, hev, hps, hc, h => by
  simp only [List.map_cons, X8] at h
  split at h
  ·rename_i hcond
   obtain ⟨hsz, hfit⟩ := hcond
   have hcv := (hev p.2).toCV (hps p (by simp))
   obtain ⟨D, h1, h2⟩ := zBa ps hev (fun q hq => hps q (by simp [hq])) (hc.splice hcv (by omega)) h
   refine ⟨D, ?_, h2⟩
   rw [List.map_cons, B8 (off := p.1 * sz) (size := (ρ p.2).cells.size) (by rw [← hcv.1, hsz]) rfl (by rw [← hcv.1, ← hc.1, hsz]; exact hfit)]
   exact h1
  ·cases h
theorem zIF {fs : List Field} (h : ∀ f, f ∈ fs → (sizeT P f.type).isSome = true) : ∃ pl : List (Nat × Nat), (fs.mapM (fun f => do pure (f.offset, ← sizeOf f.type) : Field → Sem (Nat × Nat))).run P w = .ok pl w ∧
  ∀ (i : Nat) (f : Field) (n : Nat), fs[i]? = some f → sizeT P f.type = some n → pl[i]? = some (f.offset, n) := by
 induction fs with
 | nil => exact ⟨[], by simp, fun i f n hf => by simp at hf⟩
 | cons f fs ih =>
  obtain ⟨pl, h1, h2⟩ := ih (fun g hg => h g (by simp [hg]))
  obtain ⟨n, hn⟩ := Option.isSome_iff_exists.1 (h f (by simp))
  refine ⟨(f.offset, n) :: pl, ?_, fun i g m hg hm => ?_⟩
  ·simp only [List.mapM_cons, Sem.run_bind, p3 hn, Result.andThen_ok, Sem.run_pure, h1]
  ·cases i with
   | zero => simp at hg; subst hg; rw [hn] at hm; cases hm; rfl
   | succ i => simp at hg ⊢; exact h2 i g m hg hm
theorem zEa {t : TypeId} {ps : Array (Nat × Operand)} {K : Cont} (hs : SR E I loc σ a w) (h : buildA P t (ps.toList.map fun p => (p.1, σ.ev p.2)) K) :
  ∃ v y, K v [] [] ∧ (Instr.build t (ps.map fun (i, x) => (i, a.eval x))).run P w = .ok y w ∧ VR w I loc v y := by
 unfold buildA at h
 split at h
 ·rename_i z fs hz ht
  obtain ⟨h1, h2, h3, h⟩ := h
  obtain ⟨pl, g1, g2⟩ := zIF (P := P) (w := w) (fs := fs.toList) (fun f hf => h2 f (by simpa using hf))
  cases hfill : X7 P t (z.cells.toList.map .raw) (ps.toList.map fun p => (p.1, σ.ev p.2)) with
  | none => simp only [hfill] at h
  | some cs =>
   simp only [hfill] at h
   obtain ⟨D, f1, f2⟩ := zBZ (w := w) (I := I) (loc := loc) (pl := pl.toArray) ht (fun i u off n hf hn => by
    obtain ⟨fs', x, q1, q2, q3, q4⟩ := B6 hf
    rw [ht] at q1; cases q1
    subst q3; subst q4
    have := g2 i x n (by simpa using q2) hn
    simpa using this) ps.toList (fun x => hs.ev x) (fun p hp => h3 _ (List.mem_map.2 ⟨p, hp, rfl⟩)) (zA7 h1) hfill
   refine ⟨_, .agg D, h, ?_, .agg _ _ f2.1 f2.2⟩
   have e2 : (ps.map fun (i, x) => (i, a.eval x)).toList = ps.toList.map fun p => (p.1, a.eval p.2) := by simp
   have e3 : (fs.mapM (fun f => do pure (f.offset, ← sizeOf f.type) : Field → Sem (Nat × Nat))).run P w = .ok pl.toArray w := by
    have e4 : fs = fs.toList.toArray := by simp
    rw [e4, List.mapM_toArray]
    simp only [Sem.run_map, g1, Result.andThen_ok]
   simp only [Instr.build, Sem.run_bind, O6 hz, Result.andThen_ok, run_underlying ht, e3]
   rw [e2, f1]
   rfl
 ·rename_i z n e hz ht
  obtain ⟨h1, h3, h⟩ := h
  cases hse : sizeT P e with
  | none => simp only [hse] at h
  | some sz =>
   simp only [hse] at h
   cases hfill : X8 sz (z.cells.toList.map .raw) (ps.toList.map fun p => (p.1, σ.ev p.2)) with
   | none => simp only [hfill] at h
   | some cs =>
    simp only [hfill] at h
    obtain ⟨D, f1, f2⟩ := zBa (w := w) (I := I) (loc := loc) ps.toList (fun x => hs.ev x) (fun p hp => h3 _ (List.mem_map.2 ⟨p, hp, rfl⟩)) (zA7 h1) hfill
    refine ⟨_, .agg D, h, ?_, .agg _ _ f2.1 f2.2⟩
    have e2 : (ps.map fun (i, x) => (i, a.eval x)).toList = ps.toList.map fun p => (p.1, a.eval p.2) := by simp
    simp only [Instr.build, Sem.run_bind, O6 hz, Result.andThen_ok, run_underlying ht, p3 hse]
    rw [e2, f1]
    rfl
 ·exact h.elim
end
end Go.Abs

namespace Go.Abs
open Go
theorem zAP (k0 : Nat) : ∀ (fp : List AObj) (k : Nat), lkO (zNf k0 fp) k = if k < k0 then .unb else fp.getD (k - k0) .unb
 | [], k => by simp [zNf, lkO]
 | A :: r, k => by
  simp only [zNf, lkO, zAP (k0 + 1) r k]
  by_cases h : k0 = k
  ·subst h; simp
  ·rw [if_neg h]
   by_cases h1 : k < k0
   ·rw [if_pos (by omega), if_pos h1]
   ·rw [if_neg (by omega), if_neg h1]
    have e : k - k0 = (k - (k0 + 1)) + 1 := by omega
    rw [e]; simp
theorem d7 (fp : List AObj) (k : Nat) : (hs fp).obj k = fp.getD k .unb := by
 show lkO (zNf 0 fp) k = _
 rw [zAP]; simp
theorem PR.ren {w : World} {I : Nat → Prop} {x : AV} {v : Value} (h : PR w I x v) (f : Nat → Nat) : x.ren f = x := by
 induction h with
 | any => rfl
 | raw => rfl
 | nil => rfl
 | list => rfl
 | elt => rfl
 | nmap => rfl
 | fmap => rfl
 | agg cs vs hl _ ih =>
  simp only [AV.ren, l3]
  congr 1
  apply List.ext_getElem (by simp)
  intro i h1 h2
  simp only [List.getElem_map]
  exact ih i h2 (by omega)
theorem PR.scal {w : World} {I I' : Nat → Prop} {x : AV} {v : Value} (h : PR w I x v) (hs : Scal x) : PR w I' x v := by
 induction h with
 | any v => exact .any v
 | raw v h => exact .raw v h
 | nil => cases hs
 | list => cases hs
 | elt => cases hs
 | nmap => cases hs
 | fmap => cases hs
 | agg cs vs hl _ ih =>
  cases hs with
  | agg _ hc => exact .agg cs vs hl (fun i h h' => ih i h h' (hc _ (List.getElem_mem h)))
theorem VR.ren {w : World} {I I' : Nat → Prop} {loc loc' : Nat → Loc} {f : Nat → Nat} (hl : ∀ o, loc o ≠ .un → loc' (f o) = loc o) {x : AV} {v : Value} (h : VR w I loc x v) :
  ((∀ b, I b → I' b) ∨ Scal x) → VR w I' loc' (x.ren f) v := by
 have hk : ∀ {o l}, loc o = l → l ≠ .un → loc' (f o) = l := fun {o l} e hne => (hl o (e ▸ hne)).trans e
 have hsub : ∀ {cs : List AV} {c : AV}, c ∈ cs → ((∀ b, I b → I' b) ∨ Scal (.agg cs)) → ((∀ b, I b → I' b) ∨ Scal c) := fun hc h => by
  rcases h with h | h
  ·exact .inl h
  ·cases h with
   | agg _ h => exact .inr (h _ hc)
 have hsub2 : ∀ {cs : List AV} {c : AV}, c ∈ cs → ((∀ b, I b → I' b) ∨ Scal (.tup cs)) → ((∀ b, I b → I' b) ∨ Scal c) := fun hc h => by
  rcases h with h | h
  ·exact .inl h
  ·cases h with
   | tup _ h => exact .inr (h _ hc)
 have hsub3 : ∀ {g : FuncId} {cs : List AV} {c : AV}, c ∈ cs → ((∀ b, I b → I' b) ∨ Scal (.fn g cs)) → ((∀ b, I b → I' b) ∨ Scal c) := fun hc h => by
  rcases h with h | h
  ·exact .inl h
  ·cases h with
   | fn _ _ h => exact .inr (h _ hc)
 induction h with
 | pure h =>
  intro hI
  rw [h.ren]
  rcases hI with hI | hI
  ·exact .pure (h.mono (fun _ _ => rfl) hI)
  ·exact .pure (h.scal hI)
 | agg cs vs hlen _ ih =>
  intro hI
  simp only [AV.ren, l3]
  refine .agg _ vs (by simpa using hlen) (fun i h h' => ?_)
  simp only [List.getElem_map]
  exact ih i (by simpa using h) h' (hsub (List.getElem_mem _) hI)
 | tup cs vs hlen _ ih =>
  intro hI
  simp only [AV.ren, l3]
  refine .tup _ vs (by simpa using hlen) (fun i h h' => ?_)
  simp only [List.getElem_map]
  exact ih i (by simpa using h) h' (hsub2 (List.getElem_mem _) hI)
 | fn g cs vs hlen _ ih =>
  intro hI
  simp only [AV.ren, l3]
  refine .fn g _ vs (by simpa using hlen) (fun i h h' => ?_)
  simp only [List.getElem_map]
  exact ih i (by simpa using h) h' (hsub3 (List.getElem_mem _) hI)
 | ptr o off b c h => exact fun _ => .ptr _ _ b c (hk h (by simp))
 | eptr o sz i off b c h => exact fun _ => .eptr _ _ _ _ b c (hk h (by simp))
 | ownN o sz h => exact fun _ => .ownN _ _ (hk h (by simp))
 | own o sz off len b c a cap h h1 h2 h3 => exact fun _ => .own _ _ _ _ b c a cap (hk h (by simp)) h1 h2 h3
 | mp o b c h => exact fun _ => .mp _ b c (hk h (by simp))
 | yld o b c h => exact fun _ => .yld _ b c (hk h (by simp))
 | ifp t o off b c h => exact fun _ => .ifp _ _ _ b c (hk h (by simp))
theorem zCI (f : Nat → Nat) (t : Nat) : ∀ env : List (Nat × AV), lkV (env.map fun q => (q.1, q.2.ren f)) t = (lkV env t).ren f
 | [] => rfl
 | (k, v) :: r => by
  simp only [List.map_cons, lkV]
  split
  ·rfl
  ·exact zCI f t r
section
variable {P : Program} {E : Env} {I : Nat → Prop} {loc : Nat → Loc} {σ : AS} {a : Act} {w : World}
theorem SR.bare (h : SR E I loc σ a w) : SR E I loc ⟨0, [], σ.objs⟩ W7 w :=
 ⟨.nil, rfl, fun _ => .pure (.any _), h.objs, h.inj, h.imm, h.sep, h.fr, h.base, h.top, h.keep⟩
theorem C1 {f : AV → AV → Prop} {w' : World} {I' : Nat → Prop} {loc' : Nat → Loc} : ∀ {xs ys : List AV} {vs : List Value}, All2 f xs ys → ys.length = vs.length →
  (∀ i (h : i < ys.length) (h' : i < vs.length), VR w I loc ys[i] vs[i]) → (∀ x y v, f x y → VR w I loc y v → VR w' I' loc' x v) → xs.length = vs.length ∧ ∀ i (h : i < xs.length) (h' : i < vs.length), VR w' I' loc' xs[i] vs[i]
 | [], [], vs, _, hl, _, _ => ⟨hl, fun i h => by simp at h⟩
 | x :: xs, y :: ys, vs, h, hl, hv, hf => by
  cases h with
  | cons h1 h2 =>
   cases vs with
   | nil => simp at hl
   | cons v vs =>
    obtain ⟨g1, g2⟩ := C1 h2 (by simpa using hl) (fun i h h' => by have := hv (i + 1) (by simpa using h) (by simpa using h'); simpa using this) hf
    refine ⟨by simp [g1], fun i h h' => ?_⟩
    cases i with
    | zero => exact hf _ _ _ h1 (hv 0 (by simp) (by simp))
    | succ i => simp only [List.getElem_cons_succ]; exact g2 i _ _
 | [], _ :: _, _, h, _, _, _ => by cases h
 | _ :: _, [], _, h, _, _, _ => by cases h
theorem AObj.ren_live (f : Nat → Nat) (A : AObj) : (A.ren f).live = A.live := by cases A <;> rfl
theorem zA4 : ∀ (wr : List (Nat × AObj)) (σ : AS) (o : Nat), (∀ p q, p ∈ wr → q ∈ wr → p.1 = q.1 → p.2 = q.2) →
  (∀ p, p ∈ wr → p.1 = o → (σ.writes wr).obj o = p.2) ∧ ((∀ p, p ∈ wr → p.1 ≠ o) → (σ.writes wr).obj o = σ.obj o)
 | [], σ, o, _ => ⟨fun p hp => by simp at hp, fun _ => rfl⟩
 | q :: wr, σ, o, hu => by
  have ih := zA4 wr (σ.setO q.1 q.2) o (fun p p' hp hp' => hu p p' (by simp [hp]) (by simp [hp']))
  have e : σ.writes (q :: wr) = (σ.setO q.1 q.2).writes wr := rfl
  rw [e]
  refine ⟨fun p hp hpo => ?_, fun hn => ?_⟩
  ·by_cases hin : ∃ p', p' ∈ wr ∧ p'.1 = o
   ·obtain ⟨p', hp', hpo'⟩ := hin
    rw [ih.1 p' hp' hpo']
    exact hu p' p (by simp [hp']) hp (hpo'.trans hpo.symm)
   ·have hnin : ∀ p', p' ∈ wr → p'.1 ≠ o := fun p' hp' e' => hin ⟨p', hp', e'⟩
    rw [ih.2 hnin]
    rcases List.mem_cons.1 hp with rfl | hp
    ·rw [AS.obj_setO, if_pos hpo]
    ·exact absurd hpo (hnin p hp)
  ·rw [ih.2 (fun p hp => hn p (by simp [hp])), AS.obj_setO, if_neg (hn q (by simp))]
theorem f9 (wr : List (Nat × AObj)) : ∀ (σ : AS), (σ.writes wr).n = σ.n ∧ ∀ t, (σ.writes wr).get t = σ.get t := by
 induction wr with
 | nil => exact fun σ => ⟨rfl, fun _ => rfl⟩
 | cons q wr ih => exact fun σ => ⟨(ih (σ.setO q.1 q.2)).1, fun t => (ih (σ.setO q.1 q.2)).2 t⟩
theorem L8 (k0 : Nat) : ∀ (fp : List AObj) (p : Nat × AObj), p ∈ zNf k0 fp ↔ ∃ i, ∃ h : i < fp.length, p = (k0 + i, fp[i])
 | [], p => by simp [zNf]
 | A :: r, p => by
  simp only [zNf, List.mem_cons, L8 (k0 + 1) r p]
  constructor
  ·rintro (rfl | ⟨i, h, rfl⟩)
   ·exact ⟨0, by simp, by simp⟩
   ·exact ⟨i + 1, by simpa using h, by simp; omega⟩
  ·rintro ⟨i, h, rfl⟩
   cases i with
   | zero => exact .inl (by simp)
   | succ i => exact .inr ⟨i, by simpa using h, by simp; omega⟩
theorem zEf {avs : List AV} {vs : Array Value} {nx : Nat} {ids ex : List Nat} {args : List AV} {fp : List AObj} {r : AV} {out : List AObj} (hs : SR E I loc σ a w)
    (hl : avs.length = vs.size) (hv : ∀ i (h : i < avs.length) (h' : i < vs.size), VR w I loc avs[i] vs[i]) (hm : MetX (fun _ _ _ _ => True) avs σ.obj nx ids ex args fp r out) :
    (SR (i4 w (zNg σ.obj (· ∈ ex) loc I) fp.length (zNc (u2 ids) loc)) (zNg σ.obj (· ∈ ex) loc I) (zNc (u2 ids) loc) (Go.Abs.hs fp) W7 w ∧ vs.size = args.length ∧
      ∀ i (h : i < args.length) (h' : i < vs.size), VR w (zNg σ.obj (· ∈ ex) loc I) (zNc (u2 ids) loc) args[i] vs[i]) ∧
    ∀ (e : Ending) (w' : World), (∃ v I' loc', e = .returned v ∧ Post w (zNg σ.obj (· ∈ ex) loc I) (zNc (u2 ids) loc) fp.length r out v w' I' loc') →
      ∃ v I' loc', e = .returned v ∧ SR E I' loc' (σ.writes (u7 ids nx out)) a w' ∧ VR w' I' loc' (r.ren (w7 ids nx)) v ∧ ∀ o, loc o ≠ .un → loc' o = loc o := by
  have hn : fp.length = ids.length := hm.fpl
  have hid : ∀ k, k < ids.length → ids.getD k 0 ∈ ids ∧ (σ.obj (ids.getD k 0)).live = true := fun k hk => by
    refine ⟨by rw [w9 hk]; exact List.getElem_mem hk, ?_⟩
    obtain ⟨h1, h2⟩ := hm.fps k (by omega)
    exact h2.live h1
  have hinj : ∀ k k', k < ids.length → k' < ids.length → ids.getD k 0 = ids.getD k' 0 → k = k' := fun k k' hk hk' e => by
    rw [w9 hk, w9 hk'] at e
    have hp := List.pairwise_iff_getElem.1 hm.nodup
    rcases Nat.lt_trichotomy k k' with h | h | h
    · exact absurd e (hp k k' hk hk' h)
    · exact h
    · exact absurd e.symm (hp k' k hk' hk h)
  -- what the callee sees
  have hwk : WK (u2 ids) (· ∈ ex) σ (Go.Abs.hs fp) := by
    refine ⟨fun o k ho e => ?_, fun t => .any _, fun k => ?_, fun k k' o _ _ e e' => ?_⟩
    · unfold u2 at e
      split at e
      · rename_i hk
        simp only [Option.some.injEq] at e
        exact (hm.apart o ho (e ▸ (hid k hk).1)).elim
      · cases e
    · rw [d7]
      by_cases hk : k < ids.length
      · simp only [u2, hk, if_true]
        have h2 := (hm.fps k (by omega)).2
        rw [w9 (by omega)]
        exact h2
      · simp only [u2, hk, if_false]
        left; simp [show ¬ k < fp.length by omega]
    · unfold u2 at e e'
      split at e
      · split at e'
        · rename_i hk hk'
          simp only [Option.some.injEq] at e e'
          exact hinj k k' hk hk' (e.trans e'.symm)
        · cases e'
      · cases e
  obtain ⟨_, q2, q3, q4, q5⟩ := WK.core hs hwk
  have hlx : ∀ k, k < ids.length → zNc (u2 ids) loc k = loc (ids.getD k 0) := fun k hk => by simp only [zNc, u2, hk, if_true]
  have hlv : ∀ k, ((Go.Abs.hs fp).obj k).live = true → k < fp.length := fun k hk => by
    rw [d7] at hk
    rcases Nat.lt_or_ge k fp.length with h | h
    · exact h
    · rw [List.getD, List.getElem?_eq_none h] at hk; simp [AObj.live] at hk
  have hlaid : zA8 (i4 w (zNg σ.obj (· ∈ ex) loc I) fp.length (zNc (u2 ids) loc)) := fun p hp => by
    obtain ⟨l1, l2⟩ := hs.fr.laid p hp
    have hlt : p.1 < E.w0.heap.size := by
      rcases Nat.lt_or_ge p.1 E.w0.heap.size with h | h
      · exact h
      · simp [World.cell?, Array.getElem?_eq_none h] at l1
    refine ⟨(I9 (hs.fr.block p.1 hlt l2) 0).trans l1, ?_⟩
    rintro ⟨k, c, hk, e⟩
    have hk' : k < ids.length := by have : k < fp.length := hk; omega
    have e : zNc (u2 ids) loc k = .blk p.1 c := e
    rw [hlx k hk'] at e
    exact l2 ((hs.sep (ids.getD k 0) p.1 c (hid k hk').2 e).2 hlt)
  have hsc : SR (i4 w (zNg σ.obj (· ∈ ex) loc I) fp.length (zNc (u2 ids) loc)) (zNg σ.obj (· ∈ ex) loc I) (zNc (u2 ids) loc) (Go.Abs.hs fp) W7 w := by
    refine ⟨.nil, rfl, fun _ => .pure (.any _), q2, q3, q4, fun o b c hl' e => ⟨(q5 o b c hl' e).1, fun _ => ⟨o, c, hlv o hl', e⟩⟩, ⟨rfl, rfl, rfl, Nat.le_refl _, fun _ _ _ => rfl, fun _ => Nat.le_refl _, hlaid⟩, fun b hb => hb, fun b hb => .inl hb, fun k hk => ⟨rfl, ?_⟩⟩
    have hk' : k < ids.length := by have : k < fp.length := hk; omega
    rw [hlx k hk']
    intro e
    have h1 := (hid k hk').2
    have h2 := hs.objs (ids.getD k 0)
    generalize σ.obj (ids.getD k 0) = A at h1 h2
    cases A with
    | unb => simp [AObj.live] at h1
    | dead => simp [AObj.live] at h1
    | box cs => obtain h3 | ⟨b, C, _, h3, _⟩ := h2
                · rw [e] at h3; cases h3.1
                · rw [e] at h3; cases h3
    | row sz xs => obtain ⟨_, _, h3 | ⟨b, C, _, h3, _⟩⟩ := h2
                   · rw [e] at h3; cases h3.1
                   · rw [e] at h3; cases h3
    | mapo ks xs => obtain ⟨b, C, _, h3, _⟩ := h2; rw [e] at h3; cases h3
    | iter c ks xs => obtain ⟨b, h3, _⟩ := h2; rw [e] at h3; cases h3
    | siter s pos => obtain ⟨b, h3, _⟩ := h2; rw [e] at h3; cases h3
    | tbox _ cs => obtain ⟨b, C, h3, _⟩ := h2; rw [e] at h3; cases h3
    | brow _ l => obtain h3 | ⟨b, C, h3, _⟩ := h2
                  · rw [e] at h3; cases h3.1
                  · rw [e] at h3; cases h3
    | loopo L env p => obtain ⟨b, _, _, h3, _⟩ := h2; rw [e] at h3; cases h3
  obtain ⟨ga, gv⟩ := C1 (w := w) (w' := w) (I' := zNg σ.obj (· ∈ ex) loc I) (loc' := zNc (u2 ids) loc) (vs := vs.toList) hm.args (by simpa using hl) (fun i h h' => by have := hv i h (by simpa using h'); simpa using this)
    (fun x y v hxy hyv => Xp.sound hs hxy hyv)
  refine ⟨⟨hsc, by simpa using ga.symm, fun i h h' => by have := gv i h (by simpa using h'); simpa using this⟩, ?_⟩
  rintro e w' ⟨v, I1, loc1, rfl, hp⟩
  have hlen : ids.length ≤ out.length := by have := hp.len; omega
  -- the caller's own view behind the call
  have hl1 : ∀ k, k < ids.length → loc1 k = loc (ids.getD k 0) := fun k hk => by
    have h1 : loc1 k = zNc (u2 ids) loc k := (hp.sr.keep k (show k < fp.length by omega)).1
    rw [h1]; exact hlx k hk
  have hfix : ∀ b, b < w.heap.size → (∀ k, k < ids.length → ∀ c, loc (ids.getD k 0) ≠ .blk b c) → w'.heap[b]? = w.heap[b]? := fun b hb hno =>
    hp.sr.fr.block b hb (by
      rintro ⟨k, c, hk, e⟩
      have hk' : k < ids.length := by have : k < fp.length := hk; omega
      have e : zNc (u2 ids) loc k = .blk b c := e
      rw [hlx k hk'] at e
      exact hno k hk' c e)
  have hsize : w.heap.size ≤ w'.heap.size := hp.sr.fr.size
  have hIfix : ∀ b, I b → w'.heap[b]? = w.heap[b]? := fun b hb => hfix b (hs.imm b hb) (fun k hk c e => (hs.sep _ b c (hid k hk).2 e).1 hb)
  have hof : ∀ o b c, (σ.obj o).live = true → o ∉ ids → loc o = .blk b c → w'.heap[b]? = w.heap[b]? := fun o b c ho hno e =>
    hfix b ((hs.objs o).lt ho e) (fun k hk c' e' => by
      have := hs.inj o _ b c c' ho (hid k hk).2 e e'
      exact hno (this ▸ (hid k hk).1))
  let isNew : Nat → Prop := fun o => nx ≤ o ∧ o < nx + (out.length - ids.length)
  have hnewunb : ∀ o, isNew o → σ.obj o = .unb := fun o ho => by
    have := hm.fresh (o - nx) (by have := ho.1; have := ho.2; omega)
    have e : nx + (o - nx) = o := by have := ho.1; omega
    rw [e] at this; exact this
  have hback : ∀ k, k < out.length → (k < ids.length ∧ w7 ids nx k = ids.getD k 0) ∨ (ids.length ≤ k ∧ w7 ids nx k = nx + (k - ids.length) ∧ isNew (w7 ids nx k)) := fun k hk => by
    unfold w7
    by_cases h : k < ids.length
    · exact .inl ⟨h, by rw [if_pos h]⟩
    · refine .inr ⟨by omega, by rw [if_neg h], ?_⟩
      rw [if_neg h]; exact ⟨by omega, by omega⟩
  have hidnew : ∀ k, k < ids.length → ¬ isNew (ids.getD k 0) := fun k hk hnew => by
    have := (hid k hk).2; rw [hnewunb _ hnew] at this; simp [AObj.live] at this
  have hbinj : ∀ k k', k < out.length → k' < out.length → w7 ids nx k = w7 ids nx k' → k = k' := fun k k' hk hk' e => by
    rcases hback k hk with ⟨h1, h2⟩ | ⟨h1, h2, h3⟩ <;> rcases hback k' hk' with ⟨g1, g2⟩ | ⟨g1, g2, g3⟩
    · rw [h2, g2] at e; exact hinj k k' h1 g1 e
    · exact absurd (by rw [← e, h2] at g3; exact g3) (hidnew k h1)
    · exact absurd (by rw [e, g2] at h3; exact h3) (hidnew k' g1)
    · rw [h2, g2] at e; omega
  classical
  let loc2 : Nat → Loc := fun o => if isNew o then loc1 (ids.length + (o - nx)) else loc o
  have hloc2 : ∀ k, k < out.length → loc2 (w7 ids nx k) = loc1 k := fun k hk => by
    rcases hback k hk with ⟨h1, h2⟩ | ⟨h1, h2, h3⟩
    · simp only [loc2, h2, if_neg (hidnew k h1)]; exact (hl1 k h1).symm
    · simp only [loc2, if_pos h3]
      congr 1
      omega
  have hun1 : ∀ k, loc1 k ≠ .un → k < out.length := fun k hk => by
    rcases Nat.lt_or_ge k out.length with h | h
    · exact h
    · have := hp.sr.objs k
      rw [d7, List.getD, List.getElem?_eq_none h] at this
      exact absurd this hk
  have hren : ∀ o, loc1 o ≠ .un → loc2 (w7 ids nx o) = loc1 o := fun o ho => hloc2 o (hun1 o ho)
  have hlocold : ∀ o, loc o ≠ .un → loc2 o = loc o := fun o ho => by
    simp only [loc2]
    rw [if_neg]
    intro hnew
    exact ho (hs.un (hnewunb o hnew))
  let fb : Nat → Prop := fun b => ∃ k c, k < ids.length ∧ loc (ids.getD k 0) = .blk b c
  let I2 : Nat → Prop := fun b => I b ∨ (I1 b ∧ (w.heap.size ≤ b ∨ fb b))
  have hI12 : ex = [] → ∀ b, I1 b → I2 b := fun he b hb => by
    rcases hp.sr.top b hb with h | h | ⟨k, c, hk, h⟩
    · rcases h with h | ⟨o, c, _, _, h⟩
      · exact .inl h
      · rw [he] at h; cases h
    · exact .inr ⟨hb, .inl h⟩
    · have hk' : k < ids.length := by have : k < fp.length := hk; omega
      have h : zNc (u2 ids) loc k = .blk b c := h
      rw [hlx k hk'] at h
      exact .inr ⟨hb, .inr ⟨k, c, hk', h⟩⟩
  have hII1 : ∀ b, I b → I1 b := fun b hb => hp.sr.base b (.inl hb)
  have hborn : ∀ k b c, ids.length ≤ k → (hk : k < out.length) → (out[k]).live = true → loc1 k = .blk b c → w.heap.size ≤ b ∨ fb b := fun k b c hk hko hl' e => by
    rcases Nat.lt_or_ge b w.heap.size with hlt | hge
    · obtain ⟨j, c', hj, e'⟩ := (hp.sr.sep k b c (by rw [d7, w9 hko]; exact hl') e).2 hlt
      have hj' : j < ids.length := by have : j < fp.length := hj; omega
      have e' : zNc (u2 ids) loc j = .blk b c' := e'
      rw [hlx j hj'] at e'
      exact .inr ⟨j, c', hj', e'⟩
    · exact .inl hge
  have hfb : ∀ o b c, (σ.obj o).live = true → o ∉ ids → loc o = .blk b c → ¬ (w.heap.size ≤ b ∨ fb b) := fun o b c ho hno e h => by
    rcases h with h | ⟨k, c', hk, h⟩
    · have := (hs.objs o).lt ho e; omega
    · exact hno ((hs.inj o _ b c c' ho (hid k hk).2 e h) ▸ (hid k hk).1)
  have hunq : ∀ p q, p ∈ u7 ids nx out → q ∈ u7 ids nx out → p.1 = q.1 → p.2 = q.2 := by
    intro p q hp' hq' e
    obtain ⟨p0, hp0, rfl⟩ := List.mem_map.1 hp'
    obtain ⟨q0, hq0, rfl⟩ := List.mem_map.1 hq'
    obtain ⟨i, hi, rfl⟩ := (L8 0 out p0).1 hp0
    obtain ⟨j, hj, rfl⟩ := (L8 0 out q0).1 hq0
    simp only [Nat.zero_add] at e ⊢
    have := hbinj i j hi hj e
    subst this; rfl
  have hnewobj : ∀ k (hk : k < out.length), (σ.writes (u7 ids nx out)).obj (w7 ids nx k) = (out[k]).ren (w7 ids nx) := fun k hk => by
    refine (zA4 (u7 ids nx out) σ (w7 ids nx k) hunq).1 (w7 ids nx k, (out[k]).ren (w7 ids nx)) ?_ rfl
    exact List.mem_map.2 ⟨(k, out[k]), (L8 0 out _).2 ⟨k, hk, by simp⟩, rfl⟩
  have holdobj : ∀ o, (∀ k, k < out.length → w7 ids nx k ≠ o) → (σ.writes (u7 ids nx out)).obj o = σ.obj o := fun o ho => by
    refine (zA4 (u7 ids nx out) σ o hunq).2 ?_
    intro p hp'
    obtain ⟨p0, hp0, rfl⟩ := List.mem_map.1 hp'
    obtain ⟨i, hi, rfl⟩ := (L8 0 out p0).1 hp0
    simpa using ho i hi
  have hcase : ∀ o, (∃ k, k < out.length ∧ w7 ids nx k = o) ∨ ((∀ k, k < out.length → w7 ids nx k ≠ o) ∧ o ∉ ids ∧ ¬ isNew o) := fun o => by
    by_cases h : ∃ k, k < out.length ∧ w7 ids nx k = o
    · exact .inl h
    · refine .inr ⟨fun k hk e => h ⟨k, hk, e⟩, fun hin => ?_, fun hnew => ?_⟩
      · obtain ⟨k, hk, rfl⟩ := List.getElem_of_mem hin
        refine h ⟨k, by omega, ?_⟩
        rcases hback k (by omega) with ⟨_, h2⟩ | ⟨h1, _⟩
        · rw [h2, w9 hk]
        · omega
      · have h1 := hnew.1; have h2 := hnew.2
        refine h ⟨ids.length + (o - nx), by omega, ?_⟩
        unfold w7
        rw [if_neg (by omega)]; omega
  have hscal : ∀ x, (ex = [] ∨ Scal x) → (∀ b, I1 b → I2 b) ∨ Scal x := fun x h => h.imp hI12 id
  have hout : ∀ k (hk : k < out.length), OR w' I2 loc2 (w7 ids nx k) ((out[k]).ren (w7 ids nx)) := fun k hk => by
    have ho := hp.sr.objs k
    rw [d7, w9 hk] at ho
    have hsc' : ex = [] ∨ N5 (out[k]) := hm.scal.imp id (fun h => h.2 _ (List.getElem_mem hk))
    have hunb := hm.unb _ (List.getElem_mem hk)
    have hlk := hloc2 k hk
    generalize out[k] = A at *
    cases A with
    | unb => exact absurd rfl hunb
    | dead => exact trivial
    | mapo ks xs =>
      obtain ⟨b, es, clock, h1, h2, h3, h4⟩ := ho
      refine ⟨b, es, clock, by rw [hlk, h1], h2, h3, h4.imp (fun i hi v hv => ?_)⟩
      rcases hsc' with he | hsc'
      · exact hv.mono (fun _ _ => rfl) (hI12 he)
      · exact hv.scal (hsc' _ (List.getElem_mem hi))
    | iter c ks xs =>
      rcases hsc' with he | hsc'
      · obtain ⟨b, h1, h⟩ := ho
        refine ⟨b, by rw [hlk, h1], ?_⟩
        rcases h with h | ⟨m, es, clock, seen, h2, h3, h4, h5, h6, h7, h8⟩
        · exact .inl h
        · exact .inr ⟨m, es, clock, seen, h2, hI12 he _ h3, h4, h5, h6, h7.imp (fun i h v hv => hv.mono (fun _ _ => rfl) (hI12 he)), fun p hp => by
            obtain ⟨e, g1, g2, g3, g4⟩ := h8 p hp
            exact ⟨e, g1, g2, g3, g4.mono (fun _ _ => rfl) (hI12 he)⟩⟩
      · exact hsc'.elim
    | siter s pos =>
      obtain ⟨b, h1, h2⟩ := ho
      exact ⟨b, by rw [hlk, h1], h2⟩
    | brow e0 l =>
      rcases ho with ⟨h1, h2⟩ | ⟨b, C, h1, h2, h3⟩
      · exact .inl ⟨by rw [hlk, h1], h2⟩
      · exact .inr ⟨b, C, by rw [hlk, h1], h2, h3⟩
    | tbox e0 cs =>
      obtain ⟨b, C, h1, h2, h0, h3, h4⟩ := ho
      refine ⟨b, C, by rw [hlk, h1], h2, h0, by simp only [l3, List.length_map]; exact h3, fun i hi hi' => ?_⟩
      simp only [l3, List.length_map] at hi
      simp only [l3, List.getElem_map]
      exact (h4 i hi hi').ren hren (hscal _ (hsc'.imp id (fun h => h _ (List.getElem_mem hi))))
    | loopo L env p =>
      obtain ⟨b, tmps, ds, h1, h2, h3, h4⟩ := ho
      refine ⟨b, tmps, ds, by rw [hlk, h1], h2, h3, fun t => ?_⟩
      rw [zCI]
      exact (h4 t).ren hren (hscal _ (hsc'.imp id (fun h => h t)))
    | box cs =>
      rcases ho with ⟨h1, h2⟩ | ⟨b, C, ec, h1, h2, h3, h4⟩
      · exact .inl ⟨by rw [hlk, h1], by simp only [l3, h2, List.map_nil]⟩
      refine .inr ⟨b, C, ec, by rw [hlk, h1], h2, by simp only [l3, List.length_map]; exact h3, fun i hi hi' => ?_⟩
      simp only [l3, List.length_map] at hi
      simp only [l3, List.getElem_map]
      exact (h4 i hi hi').ren hren (hscal _ (hsc'.imp id (fun h => h _ (List.getElem_mem hi))))
    | row sz xs =>
      obtain ⟨h0, hx, ho⟩ := ho
      refine ⟨h0, hx, ?_⟩
      rcases ho with ⟨h1, h2⟩ | ⟨b, C, ec, h1, h2, h3, h4⟩
      · exact .inl ⟨by rw [hlk, h1], h2⟩
      · refine .inr ⟨b, C, ec, by rw [hlk, h1], h2, h3, fun i hi j hj h' => ?_⟩
        rcases hsc' with he | hsc'
        · exact (h4 i hi j hj h').mono (fun _ _ => rfl) (hI12 he)
        · exact (h4 i hi j hj h').scal (hsc' _ (List.getElem_mem hi) _ (List.getElem_mem hj))
  have hmk : Marks E I2 loc2 (σ.writes (u7 ids nx out)) a.defers w' := hs.defers.imp (fun r g1 g2 g3 g4 => by
    have hr : r < w.heap.size := (Array.getElem?_eq_some_iff.1 g1).1
    have hnf : ¬ (w.heap.size ≤ r ∨ fb r) := by
      rintro (h | ⟨k, c, hk, h⟩)
      · omega
      · exact g4 _ c (hid k hk).2 h
    refine ⟨by rw [hfix r hr (fun k hk c => g4 _ c (hid k hk).2)]; exact g1, ?_, g3, fun o c ho e => ?_⟩
    · rintro (h | ⟨_, h⟩)
      · exact g2 h
      · exact hnf h
    · rcases hcase o with ⟨k, hk, rfl⟩ | ⟨h1, h2, h3⟩
      · rw [hnewobj k hk, AObj.ren_live] at ho
        rw [hloc2 k hk] at e
        rcases Nat.lt_or_ge k ids.length with hk1 | hk1
        · rw [hl1 k hk1] at e
          exact g4 _ c (hid k hk1).2 e
        · exact hnf (hborn k r c hk1 hk ho e)
      · rw [holdobj o h1] at ho
        have e2 : loc o = .blk r c := by simpa only [loc2, if_neg h3] using e
        exact g4 o c ho e2)
  refine ⟨v, I2, loc2, rfl, ⟨hmk, hs.size.trans (f9 _ σ).1.symm, fun t => ?_, fun o => ?_, ?_, ?_, ?_, ?_, fun b hb => .inl (hs.base b hb), fun b hb => ?_, fun k hk => by rw [hlocold k (hs.keep k hk).2]; exact hs.keep k hk⟩, hp.val.ren hren (hscal _ (hm.scal.imp id (·.1))), hlocold⟩
  · rw [(f9 _ σ).2]
    exact (hs.tmps t).mono hIfix (fun _ hb => .inl hb) hlocold
  · rcases hcase o with ⟨k, hk, rfl⟩ | ⟨h1, h2, h3⟩
    · rw [hnewobj k hk]; exact hout k hk
    · rw [holdobj o h1]
      exact (hs.objs o).mono hIfix (fun _ hb => .inl hb) hlocold (fun e => by simp only [loc2, if_neg h3]; exact hs.un e) (fun hlv b c e => hof o b c hlv h2 e)
  · intro o o' b c c' ho ho' e e'
    rcases hcase o with ⟨k, hk, rfl⟩ | ⟨h1, h2, h3⟩ <;> rcases hcase o' with ⟨k', hk', rfl⟩ | ⟨g1, g2, g3⟩
    · rw [hnewobj k hk, AObj.ren_live] at ho
      rw [hnewobj k' hk', AObj.ren_live] at ho'
      rw [hloc2 k hk] at e; rw [hloc2 k' hk'] at e'
      rw [hp.sr.inj k k' b c c' (by rw [d7, w9 hk]; exact ho) (by rw [d7, w9 hk']; exact ho') e e']
    · rw [holdobj o' g1] at ho'
      rw [hnewobj k hk, AObj.ren_live] at ho
      rw [hloc2 k hk] at e
      have e2 : loc o' = .blk b c' := by simpa only [loc2, if_neg g3] using e'
      rcases Nat.lt_or_ge k ids.length with hk1 | hk1
      · rw [hl1 k hk1] at e
        have := hs.inj _ o' b c c' (hid k hk1).2 ho' e e2
        exact absurd (this ▸ (hid k hk1).1) g2
      · exact absurd (hborn k b c hk1 hk ho e) (hfb o' b c' ho' g2 e2)
    · rw [holdobj o h1] at ho
      rw [hnewobj k' hk', AObj.ren_live] at ho'
      rw [hloc2 k' hk'] at e'
      have e2 : loc o = .blk b c := by simpa only [loc2, if_neg h3] using e
      rcases Nat.lt_or_ge k' ids.length with hk1 | hk1
      · rw [hl1 k' hk1] at e'
        have := hs.inj o _ b c c' ho (hid k' hk1).2 e2 e'
        exact absurd (this.symm ▸ (hid k' hk1).1) h2
      · exact absurd (hborn k' b c' hk1 hk' ho' e') (hfb o b c ho h2 e2)
    · rw [holdobj o h1] at ho
      rw [holdobj o' g1] at ho'
      have e2 : loc o = .blk b c := by simpa only [loc2, if_neg h3] using e
      have e2' : loc o' = .blk b c' := by simpa only [loc2, if_neg g3] using e'
      exact hs.inj o o' b c c' ho ho' e2 e2'
  · rintro b (hb | ⟨hb, _⟩)
    · have := hs.imm b hb; omega
    · exact hp.sr.imm b hb
  · intro o b c ho e
    rcases hcase o with ⟨k, hk, rfl⟩ | ⟨h1, h2, h3⟩
    · rw [hnewobj k hk, AObj.ren_live] at ho
      rw [hloc2 k hk] at e
      have hsp := hp.sr.sep k b c (by rw [d7, w9 hk]; exact ho) e
      refine ⟨?_, fun hb => ?_⟩
      · rintro (hb | ⟨hb, _⟩)
        · exact hsp.1 (hII1 b hb)
        · exact hsp.1 hb
      · rcases Nat.lt_or_ge k ids.length with hk1 | hk1
        · rw [hl1 k hk1] at e
          exact (hs.sep _ b c (hid k hk1).2 e).2 hb
        · rcases hborn k b c hk1 hk ho e with h | ⟨j, c', hj, h⟩
          · have := hs.fr.size; omega
          · exact (hs.sep _ b c' (hid j hj).2 h).2 hb
    · rw [holdobj o h1] at ho
      have e2 : loc o = .blk b c := by simpa only [loc2, if_neg h3] using e
      have hsp := hs.sep o b c ho e2
      refine ⟨?_, hsp.2⟩
      rintro (hb | ⟨_, hb⟩)
      · exact hsp.1 hb
      · exact hfb o b c ho h2 e2 hb
  · refine hs.fr.of_same hp.sr.fr.os hp.sr.fr.tape hp.sr.fr.output hsize (fun b hb hf => hfix b (by have := hs.fr.size; omega) (fun k hk c e => ?_)) hp.sr.fr.drawn
    exact hf ((hs.sep _ b c (hid k hk).2 e).2 hb)
  · rcases hb with hb | ⟨_, hb | ⟨k, c, hk, hb⟩⟩
    · exact hs.top b hb
    · exact .inr (.inl (by have := hs.fr.size; omega))
    · rcases Nat.lt_or_ge b E.w0.heap.size with hlt | hge
      · exact .inr (.inr ((hs.sep _ b c (hid k hk).2 hb).2 hlt))
      · exact .inr (.inl hge)
theorem zBP {C : (Nat → Loc) → Array Value → World → (Ending → World → Prop) → Prop} (hC : ∀ loc vs w R R', (∀ e w', R e w' → R' e w') → C loc vs w R → C loc vs w R') {avs : List AV} {vs : Array Value} {nx : Nat} {ids ex : List Nat} {args : List AV} {fp : List AObj} {r : AV} {out : List AObj} (hs : SR E I loc σ a w)
  (hl : avs.length = vs.size) (hv : ∀ i (h : i < avs.length) (h' : i < vs.size), VR w I loc avs[i] vs[i]) (hm : MetX C avs σ.obj nx ids ex args fp r out) :
  C (zNc (u2 ids) loc) vs w fun e w' => ∃ v I' loc', e = .returned v ∧ SR E I' loc' (σ.writes (u7 ids nx out)) a w' ∧ VR w' I' loc' (r.ren (w7 ids nx)) v ∧ ∀ o, loc o ≠ .un → loc' o = loc o := by
 obtain ⟨⟨h1, h2, h3⟩, hb⟩ := zEf hs hl hv (⟨fun _ _ _ _ _ _ _ => trivial, hm.nodup, hm.apart, hm.args, hm.fpl, hm.fps, hm.scal, hm.fresh, hm.unb⟩ : MetX (fun _ _ _ _ => True) avs σ.obj nx ids ex args fp r out)
 exact hC _ _ _ _ _ hb (hm.spec w _ _ vs h1 h2 h3)
theorem zEe {f : FuncId} {avs : List AV} {vs : Array Value} {nx : Nat} {ids ex : List Nat} {args : List AV} {fp : List AObj} {r : AV} {out : List AObj} (hs : SR E I loc σ a w)
  (hl : avs.length = vs.size) (hv : ∀ i (h : i < avs.length) (h' : i < vs.size), VR w I loc avs[i] vs[i]) (hm : Met P f avs σ.obj nx ids ex args fp r out) :
  Calls P f vs w fun e w' => ∃ v I' loc', e = .returned v ∧ SR E I' loc' (σ.writes (u7 ids nx out)) a w' ∧ VR w' I' loc' (r.ren (w7 ids nx)) v ∧ ∀ o, loc o ≠ .un → loc' o = loc o :=
 zBP (C := fun _ vs w R => Calls P f vs w R) (fun _ _ _ _ _ h hc => hc.mono h) hs hl hv hm
theorem zGp {fs : List Nat} {wr : List (Nat × AObj)} (σ : AS) : ((o9 σ fs).writes wr).n = (σ.writes (w6 fs ++ wr)).n ∧ (∀ t, ((o9 σ fs).writes wr).get t = (σ.writes (w6 fs ++ wr)).get t) ∧ ∀ o, ((o9 σ fs).writes wr).obj o = (σ.writes (w6 fs ++ wr)).obj o := by
 obtain ⟨h1, h2, h3⟩ := zA2 fs σ
 obtain ⟨g1, g2⟩ := P0 σ fs
 rw [zDj]
 have key : ∀ (wr : List (Nat × AObj)) (τ τ' : AS), (∀ o, τ.obj o = τ'.obj o) → ∀ o, (τ.writes wr).obj o = (τ'.writes wr).obj o := fun wr => by
  induction wr with
  | nil => exact fun τ τ' h => h
  | cons p wr ih => exact fun τ τ' h => ih (τ.setO p.1 p.2) (τ'.setO p.1 p.2) (fun o => by rw [AS.obj_setO, AS.obj_setO, h])
 refine ⟨by rw [(f9 wr _).1, (f9 wr _).1, g1, h1], fun t => by rw [(f9 wr _).2, (f9 wr _).2, g2, h2], key wr _ _ (fun o => by rw [W3, h3])⟩
theorem zBO {f : FuncId} {avs : List AV} {vs : Array Value} {nx : Nat} {K : Cont} (hs : SR E I loc σ a w)
  (hl : avs.length = vs.size) (hv : ∀ i (h : i < avs.length) (h' : i < vs.size), VR w I loc avs[i] vs[i]) (h : y4 P f avs σ.obj nx K) :
  ∃ r rd wr, K r rd wr ∧ Calls P f vs w fun e w' => ∃ v I' loc', e = .returned v ∧ SR E I' loc' (σ.writes wr) a w' ∧ VR w' I' loc' r v ∧ ∀ o, loc o ≠ .un → loc' o = loc o := by
 obtain ⟨gone, as', hx, ids, ex, args, fp, r, out, hm, hK⟩ := h
 have hs1 := hs.freeze gone
 obtain ⟨ga, gv⟩ := C1 (w := w) (w' := w) (I' := zNg σ.obj (· ∈ gone) loc I) (loc' := loc) (vs := vs.toList) hx (by simpa using hl) (fun i h h' => by have := hv i h (by simpa using h'); simpa using this)
  (fun x y v hxy hyv => by have := Xp.sound hs hxy hyv; rwa [zCL] at this)
 have hobj : (o9 σ gone).obj = (fun o => if o ∈ gone then .dead else σ.obj o) := funext fun o => W3 σ gone o
 rw [← hobj] at hm
 refine ⟨_, _, _, hK, (zEe hs1 (by simpa using ga) (fun i h h' => by have := gv i h (by simpa using h'); simpa using this) hm).mono ?_⟩
 rintro e w' ⟨v, I', loc', he, hsr, hvr, hk⟩
 obtain ⟨h1, h2, h3⟩ := zGp (fs := gone) (wr := u7 ids nx out) σ
 exact ⟨v, I', loc', he, hsr.congr h1.symm (fun t => (h2 t).symm) (fun o => (h3 o).symm), hvr, hk⟩
theorem zEd {f : FuncId} {avs : List AV} {vs : Array Value} {nx : Nat} {K : Cont} (hs : SR E I loc σ a w)
  (hl : avs.length = vs.size) (hv : ∀ i (h : i < avs.length) (h' : i < vs.size), VR w I loc avs[i] vs[i]) (h : y4 P f avs σ.obj nx K) :
  ∃ r rd wr, K r rd wr ∧ Calls P f vs w fun e w' => ∃ v I' loc', e = .returned v ∧ SR E I' loc' (σ.writes wr) a w' ∧ VR w' I' loc' r v := by
 obtain ⟨r, rd, wr, hK, hc⟩ := zBO hs hl hv h
 exact ⟨r, rd, wr, hK, hc.mono (fun e w' ⟨v, I', loc', he, hsr, hvr, _⟩ => ⟨v, I', loc', he, hsr, hvr⟩)⟩
end
end Go.Abs

