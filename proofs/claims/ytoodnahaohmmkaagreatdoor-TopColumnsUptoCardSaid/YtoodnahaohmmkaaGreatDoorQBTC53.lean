/-
  WHAT THE PROOF STANDS ON, PART 3: contracts of the program's functions and the logic that they are proved in. No condition.
-/
import Derived.DeepKeys2
import Derived.Orders
import Derived.RangeFuncRecord
import Derived.Scope
import Derived.RangeFuncCalls
import Derived.Laws.RangeString
import Derived.Test.YtoodnahaohmmkaaGreatDoorProg
import Derived.KernelRfl
import Derived.Below
import Derived.Test.YtoodnahaohmmkaaGreatDoorQBTC52
set_option maxRecDepth 100000
set_option maxHeartbeats 4000000
set_option linter.unnecessarySimpa false
set_option linter.unusedVariables false
set_option linter.unusedSimpArgs false
set_option linter.unusedSectionVars false
namespace Go.Abs
open Go
section
variable {P : Program} {γ : Gh} {n : Nat}
theorem zQU {t : TypeId} : TameV P γ n (isAgg t) (fun b => s9 P t = some b) := by
 unfold isAgg
 refine TameV.bind V6 fun d hd => ?_
 unfold s9
 rw [hd]
 cases d <;> exact TameV.pure rfl
theorem zQr {t : TypeId} {a : Addr} (h : s9 P t = some true) (h0 : sizeT P t = some 0) : zUM P γ n (loadVar t a) := by
 unfold loadVar
 refine TameV.bind zQU fun b hb => ?_
 rw [h] at hb
 cases hb
 refine TameV.bind zHo fun k hk => ?_
 rw [h0] at hk
 cases hk
 exact q7 q8 fun _ => q8
theorem zAQ {f : FuncId} (h : y9 P f = true) {args : Array Value} : zUM P γ n (callFunc f args) := by
 unfold y9 at h
 unfold callFunc
 refine TameV.bind tame_program fun p hp => ?_
 subst hp
 cases hf : p.funcs[f]? with
 | none => rw [hf] at h; cases h
 | some fn =>
  rw [hf] at h
  simp at h
  obtain ⟨h1, h2⟩ := h
  have h4 : (fn.name == "runtime.NumGoroutine") = false := by simpa using h2
  cases hb : fn.body with
  | none => rw [hb] at h1; cases h1
  | some c => simp only [h4, hb, Option.isNone_some, Bool.false_eq_true, if_false]; exact q8
theorem zDz {f : FuncId} : zUM P γ n (mark (.extern f)) := fun w hw => ⟨fun es he => by
 intro e hm
 simp only [mark, Sem.events, Sem.runT] at hm
 rcases Array.mem_push.1 hm with hm | rfl
 ·exact he e hm
 ·exact trivial, fun v w' hr => by cases hr; exact ⟨hw, trivial⟩⟩
theorem zQu {ps : Array TypeId} {t : TypeId} {k : Int} : zUM P γ n (Extern.BytealgMakeNoZero.makeNoZero ps #[t] #[.int .i64 k]) := by
  have hdef : Extern.BytealgMakeNoZero.makeNoZero ps #[t] #[.int .i64 k] =
      (do
        let .slice elem ← underlying t | stuck "bytealg.MakeNoZero: slice type expected"
        if k < 0 || k > 2 ^ 48 then runtimePanic (.error "makeslice: len out of range")
        let cap ← choose (.appendCap k.toNat 0 elem)
        askRoom cap
        let bytes ← choose (.extern "internal/bytealg.MakeNoZero.bytes" 0)
        let a ← newRow elem (Extern.BytealgMakeNoZero.digits cap bytes #[])
        pure (.slice (some a) k.toNat cap)) := rfl
  rw [hdef]
  refine q7 w9 fun d => ?_
  cases d with
  | slice e =>
    have rest : zUM P γ n (do
        let cap ← choose (.appendCap k.toNat 0 e)
        askRoom cap
        let bytes ← choose (.extern "internal/bytealg.MakeNoZero.bytes" 0)
        let a ← newRow e (Extern.BytealgMakeNoZero.digits cap bytes #[])
        pure (.slice (some a) k.toNat cap) : Sem Value) :=
      q7 p9 fun _ => q7 i8 fun _ => q7 p9 fun _ => q7 l9 fun _ => q8
    dsimp only
    by_cases hc : (decide (k < 0) || decide (k > 2 ^ 48)) = true
    · rw [if_pos hc]
      exact q7 (t8 (P := P) (γ := γ) (n := n)) fun _ => rest
    · rw [if_neg hc]
      exact rest
  | _ => exact y5
theorem zQz {e : TypeId} (h : zVz P e) {k : Int} : zUM P γ n (callFunc MKN #[.int .i64 k]) := by
 obtain ⟨fn, ps, t, m1, m2, m3, m4, m5, m6⟩ := h
 unfold callFunc
 refine TameV.bind tame_program fun p hp => ?_
 subst hp
 simp only [m1, m2, m3, m4, m5, Bool.false_eq_true, if_false, if_true]
 refine q7 zDz fun _ => ?_
 exact q7 zQu fun _ => q8
theorem zQ7 {v : Value} {t u : TypeId} {ok : Bool} : zUM P γ n (Instr.typeAssert v t u ok) := by
 unfold Instr.typeAssert
 (repeat' (first | exact tame_program.mono (fun _ _ => trivial) | with_reducible exact q8 | with_reducible exact y5 | with_reducible exact v8 | with_reducible exact l8 | with_reducible exact a5 | with_reducible exact p9 | with_reducible exact a6 | with_reducible exact b8 | with_reducible exact Z3 | with_reducible exact o3 | with_reducible exact w9 | with_reducible exact t7 | with_reducible exact j7 | with_reducible exact j3 | with_reducible exact i7 | with_reducible exact i6 | with_reducible exact e9 | with_reducible exact Z1 | with_reducible exact j9 | with_reducible exact l9 | with_reducible exact j0 | with_reducible exact j6 | with_reducible exact i8 | with_reducible exact t8 | with_reducible exact b7 | with_reducible exact Q3 | with_reducible exact Q4 | with_reducible exact Z4 | with_reducible exact Y9 | with_reducible exact j8 ‹_› | with_reducible exact i9 ‹_› | with_reducible exact j1 ‹_› _ _ | refine q7 ?_ fun _ => ?_ | refine b9 ?_ | split | dsimp only | exact q8))
theorem zHx {t : TypeId} {name : String} {f : FuncId} (h : S6 P t name = some f) (k : Nat) (v : Value) : TameV P γ n (method (k + 1) t v name) (· = (f, v)) := by
 obtain ⟨i, d, m, p, h1, h2, h3, h4, h5, h6⟩ := zGK h
 have hr : ∀ wr, TameV P γ n (receiverAt t (.val v) p wr) (· = v) := fun wr => by
  unfold receiverAt
  refine TameV.bind V6 fun d' hd => ?_
  rw [h2] at hd
  cases hd
  cases p with
  | true =>
   obtain ⟨e, rfl⟩ := h6.2 rfl
   exact TameV.pure rfl
  | false =>
   have hn : ∀ e, d ≠ .pointer e := fun e he => by have := h6.1 ⟨e, he⟩; cases this
   cases d <;> first | exact TameV.pure rfl | exact (hn _ rfl).elim
 unfold method
 refine TameV.bind (p := (· = i)) ?_ fun i' hi => ?_
 ·unfold typeInfo
  refine TameV.bind tame_program fun q hq => ?_
  subst hq
  rw [h1]
  exact TameV.pure rfl
 ·subst hi
  rw [h3]
  refine TameV.bind (p := (· = (t, Place.val v))) (by rw [h4]; exact TameV.pure rfl) fun q hq => ?_
  subst hq
  simp only [h5]
  exact TameV.bind (hr _) fun r hq => by subst hq; exact TameV.pure rfl
theorem zQd {s d e : TypeId} {b : ByteArray} (h1 : sliceT P d = some e) (h2 : zVK P e = some .u8) : zUM P γ n (convert s d (.string b)) := by
  unfold convert
  refine q7 w9 fun u => TameV.bind V6 fun u' hu' => ?_
  rw [V5 h1] at hu'
  cases hu'
  have hin : zUM P γ n (do match ← underlying e with
      | .int .u8 => Conv.stringToBytes e b
      | .int .i32 => Conv.stringToRunes e b
      | _ => stuck "Convert: string to a slice of what?" : Sem Value) := by
    refine TameV.bind V6 fun u2 hu2 => ?_
    rw [A3 h2] at hu2
    cases hu2
    exact zQ6
  cases u <;> exact hin
theorem zQe {s d e : TypeId} {v : Value} (h1 : sliceT P s = some e) (h2 : U0 P d = true) (h3 : zVK P e = some .u8) (hk : ∃ a l c, v = .slice a l c) (hv : ∀ a l c, v = .slice (some a) l c → l ≠ 0 → γ.O a.block ∨ γ.F a.block) : zUM P γ n (convert s d v) := by
  unfold convert
  refine TameV.bind V6 fun u hu => TameV.bind V6 fun u' hu' => ?_
  rw [V5 h1] at hu
  rw [P7 h2] at hu'
  cases hu
  cases hu'
  obtain ⟨a, l, c, rfl⟩ := hk
  show zUM P γ n (do match ← underlying e with
      | .int .u8 => Conv.bytesToString (.slice a l c)
      | .int .i32 => Conv.runesToString (.slice a l c)
      | _ => stuck "Convert: a slice of what to string?" : Sem Value)
  refine TameV.bind V6 fun u2 hu2 => ?_
  rw [A3 h3] at hu2
  cases hu2
  exact zQc hv
theorem zHt : ∀ (k : Nat) (a : Addr) (acc : ByteArray), γ.O a.block ∨ γ.F a.block → zUM P γ n (loadBytes a acc k)
 | 0, _, _, _ => q8
 | k + 1, a, acc, ha => by
  unfold loadBytes
  refine q7 (j8 ha) fun v => ?_
  split
  ·exact zHt k _ _ (by rw [zBI]; exact ha)
  ·exact y5
theorem zRA {a : Addr} {u : TypeId} {k : Nat} : zUM P γ n (variablesAt a u k) := by
 unfold variablesAt
 refine q7 (tame_program.mono fun _ _ => trivial) fun p => q7 a6 fun s => ?_
 split <;> exact q8
theorem zQ9 {ts : Array TypeId} {t : TypeId} {a : Addr} {l : Value} (ha : γ.O a.block ∨ γ.F a.block) : zUM P γ n (Builtin.unsafeString_ ts t #[.pointer (some a), l]) := by
  have key : ∀ (m : Int) (pt : TypeId), zUM P γ n (do
      if m < 0 then runtimePanic (.error "unsafe.String: len out of range")
      if m > IntKind.i64.max then unsupported (.unsafePointer "String: a length above the largest int")
      if m = 0 then pure (.string .empty)
      else if ← variablesAt a (← elemOf pt) m.toNat then do
        let s ← loadBytes a .empty m.toNat
        freeze a m.toNat
        pure (.string s)
      else unsupported (.unsafePointer "String: not so many bytes at ptr") : Sem Value) := fun m pt => by
    have h3 : zUM P γ n (do
        if m = 0 then pure (.string .empty)
        else if ← variablesAt a (← elemOf pt) m.toNat then do
          let s ← loadBytes a .empty m.toNat
          freeze a m.toNat
          pure (.string s)
        else unsupported (.unsafePointer "String: not so many bytes at ptr") : Sem Value) := by
      split
      · exact q8
      · refine q7 j6 fun u => q7 zRA fun b => ?_
        split
        · exact q7 (zHt _ _ _ ha) fun s => q7 b8 fun _ => q8
        · exact v8
    have h2 : zUM P γ n (do
        if m > IntKind.i64.max then unsupported (.unsafePointer "String: a length above the largest int")
        if m = 0 then pure (.string .empty)
        else if ← variablesAt a (← elemOf pt) m.toNat then do
          let s ← loadBytes a .empty m.toNat
          freeze a m.toNat
          pure (.string s)
        else unsupported (.unsafePointer "String: not so many bytes at ptr") : Sem Value) := by
      dsimp only
      split
      · exact q7 v8 fun _ => h3
      · exact h3
    dsimp only
    split
    · exact q7 t8 fun _ => h2
    · exact h2
  unfold Builtin.unsafeString_
  refine q7 i6 fun m => ?_
  cases h : ts[0]? with
  | none => exact y5
  | some pt => exact key m pt
theorem zQ8 {op : UnOp} {v : Value} : zUM P γ n (Op.unary op v) := by
 unfold Op.unary
 repeat' (first | exact q8 | exact y5 | exact v8 | (unfold Op.intArith; exact q8) | (unfold Op.intBits; exact q8) | (unfold Op.intBits; split <;> first | exact q8 | exact y5) | (unfold Op.intArith; split <;> first | exact q8 | exact y5) | split)
theorem zQj {t e : TypeId} (hu : P.underlying t = some (.slice e)) {a : Option Addr} {l c : Nat} : zUM P γ n (Op.equal t (.slice a l c) (.slice none 0 0)) := by
 show zUM P γ n (Op.equalIn (9999 + 1) t _ _)
 unfold Op.equalIn
 refine TameV.bind V6 fun u hu' => ?_
 rw [hu] at hu'
 cases hu'
 cases a <;> exact q8
theorem zHp {t : TypeId} {ms : Array (String × TypeId)} (hu : P.underlying t = some (.interface ms)) {u : Value} (h : u = .nilIface ∨ ∃ t v, u = .iface t v) : zUM P γ n (Op.equal t u .nilIface) := by
 show zUM P γ n (Op.equalIn (9999 + 1) t _ _)
 unfold Op.equalIn
 refine TameV.bind V6 fun d hd => ?_
 rw [hu] at hd
 cases hd
 rcases h with rfl | ⟨t', v, rfl⟩ <;> exact q8
theorem zQp {ts : Array TypeId} {t : TypeId} {v : Value} {x : AV} {w : World} {I : Nat → Prop} {loc : Nat → Loc} {k : Nat} (hx : VR w I loc x v) (h0 : 0 < ts.size) (h : M9 P (ts.getD 0 0) x = some k) (hm : ∀ kt et, P.underlying (ts.getD 0 0) = some (.map kt et) → ∀ r, v = .map (some r) → γ.O r ∨ γ.F r) : zUM P γ n (Builtin.len_ ts t #[v]) := by
  unfold Builtin.len_
  have e0 : ts[0]? = some (ts.getD 0 0) := by
    rw [Array.getElem?_eq_getElem h0]
    simp [h0]
  rw [e0]
  generalize ts.getD 0 0 = t0 at *
  show zUM P γ n (do
      match ← underlying t0, v with
      | .string, .string s => pure (goInt s.size)
      | .array n _, _ => pure (goInt n)
      | .pointer arr, _ =>
        let .array n _ ← underlying arr | stuck "len: pointer to array expected"
        pure (goInt n)
      | .slice _, .slice _ n _ => pure (goInt n)
      | .map _ _, .map none | .chan _ _, .chan none => pure (goInt 0)
      | .map _ _, .map (some r) =>
        let .map entries _ ← getObj r | stuck "len: map expected"
        pure (goInt entries.size)
      | .chan _ _, .chan (some r) =>
        let .chan _ buf _ _ _ timer ← getObj r | stuck "len: channel expected"
        pure (goInt (if timer then 0 else buf.size))
      | _, _ => stuck "len: string, array, pointer to array, slice, map or channel expected" : Sem Value)
  refine TameV.bind V6 fun u hu => ?_
  unfold M9 at h
  split at h
  · rename_i h1; rw [hu] at h1; cases h1
    cases v <;> first | exact q8 | exact y5
  · rename_i h1; rw [hu] at h1; cases h1
    cases v <;> first | exact q8 | exact y5
  · rename_i h1; rw [hu] at h1; cases h1
    cases v <;> first | exact q8 | exact y5
  · rename_i h1; rw [hu] at h1; cases h1
    cases v <;> first | exact q8 | exact y5
  · rename_i h1; rw [hu] at h1; cases h1
    cases v <;> first | exact q8 | exact y5
  · rename_i h1; rw [hu] at h1; cases h1
    cases v with
    | map r =>
      cases r with
      | none => exact q8
      | some r =>
        refine q7 (zA8 (hm _ _ hu r rfl)) fun o => ?_
        cases o <;> first | exact q8 | exact y5
    | _ => exact y5
  · rename_i h1; rw [hu] at h1; cases h1
    cases v <;> exact q8
  · cases h
end
theorem FlatV.of_key {P : Program} {k : TypeId} {v : Value} (h : zVA P k v) : FlatV v := by
 cases v with
 | agg cs =>
  refine .agg cs fun i c hc => ?_
  have h1 : cs.all J8 = true := h.1
  rw [Array.all_eq_true] at h1
  obtain ⟨hi, rfl⟩ := Array.getElem?_eq_some_iff.1 hc
  exact h1 i hi
 | _ => exact .of h.1
section
variable {P : Program} {E : Env} {I : Nat → Prop} {loc : Nat → Loc} {σ : AS} {a : Act} {w : World}
def p7 (I : Nat → Prop) (loc : Nat → Loc) (σ : AS) (a : Act) (w : World) : Gh := ⟨hereFp loc σ a, fun b => I b ∧ ∃ o, w.heap[b]? = some o ∧ L2 o = true, none⟩
def Ev (P : Program) (γ : Gh) (n : Nat) {α : Type} (s : Sem α) (w : World) : Prop := ∀ es, EvsOK γ n es → EvsOK γ n (s.events P w es)
theorem OR.plain {o : Nat} {A : AObj} (h : OR w I loc o A) (hl : A.live = true) {b c : Nat} (e : loc o = .blk b c) : ∃ x, w.heap[b]? = some x ∧ L2 x = true := by
 cases A with
 | unb => cases hl
 | dead => cases hl
 | mapo ks xs => obtain ⟨b', es, clock, h1, h2, _⟩ := h; rw [e] at h1; cases h1; exact ⟨_, h2, rfl⟩
 | iter cur ks xs =>
  obtain ⟨b', h1, h⟩ := h
  rw [e] at h1; cases h1
  rcases h with ⟨s, seen, l, h2, _⟩ | ⟨m, es, clock, seen, h2, _⟩
  ·exact ⟨_, h2, rfl⟩
  ·exact ⟨_, h2, rfl⟩
 | siter s pos => obtain ⟨b', h1, h2⟩ := h; rw [e] at h1; cases h1; exact ⟨_, h2, rfl⟩
 | brow e' l =>
  rcases h with ⟨h1, _⟩ | ⟨b', C, h1, h2, _⟩
  ·rw [e] at h1; cases h1
  ·rw [e] at h1; cases h1; exact ⟨_, h2, rfl⟩
 | tbox e' cs => obtain ⟨b', C, h1, h2, _⟩ := h; rw [e] at h1; cases h1; exact ⟨_, h2, rfl⟩
 | loopo L env pend => obtain ⟨b', tmps, ds, h1, h2, _⟩ := h; rw [e] at h1; cases h1; exact ⟨_, h2, rfl⟩
 | box cs =>
  rcases h with ⟨h1, _⟩ | ⟨b', C, e', h1, h2, _⟩
  ·rw [e] at h1; cases h1
  ·rw [e] at h1; cases h1; exact ⟨_, h2, rfl⟩
 | row sz xs =>
  obtain ⟨_, _, h⟩ := h
  rcases h with ⟨h1, _⟩ | ⟨b', C, e', h1, h2, _⟩
  ·rw [e] at h1; cases h1
  ·rw [e] at h1; cases h1; exact ⟨_, h2, rfl⟩
theorem SR.keeps (hs : SR E I loc σ a w) : Keep (p7 I loc σ a w) w.heap.size w := by
 have hk : ∀ b, (p7 I loc σ a w).O b ∨ (p7 I loc σ a w).F b → ∃ o, w.heap[b]? = some o ∧ L2 o = true := by
  rintro b (hb | ⟨_, hb⟩)
  ·rcases hb with ⟨o, c, hl, e⟩ | ⟨d, hd, e⟩
   ·exact (hs.objs o).plain hl e
   ·obtain ⟨_, h1, _⟩ := hs.defers.get hd e
    exact ⟨_, h1, rfl⟩
  ·exact hb
 exact ⟨fun b hb => by obtain ⟨o, h, _⟩ := hk b hb; exact (Array.getElem?_eq_some_iff.1 h).1, Nat.le_refl _, fun b o hb h => by obtain ⟨o', h1, h2⟩ := hk b hb; rw [h] at h1; cases h1; exact h2⟩
theorem zAe {n : Nat} {es : Array Event} (h : EvsOK (p7 I loc σ a w) n es) : EvsOK ⟨hereFp loc σ a, I, none⟩ n es := fun e he => EvOK.mono (γ := p7 I loc σ a w) (fun _ hb => hb) (fun b hb => .inr (show I b from hb.1)) (h e he)
theorem zGf {b off : Nat} {v : Value} (h : w.cell? ⟨b, off, none⟩ = some v) : ∃ o, w.heap[b]? = some o ∧ L2 o = true := by
 unfold World.cell? at h
 cases hq : w.heap[b]? with
 | none => simp [hq] at h
 | some o => cases o <;> first | exact ⟨_, rfl, rfl⟩ | simp [hq] at h
theorem P4 {o b c : Nat} (hl : (σ.obj o).live = true) (h : loc o = .blk b c) : (p7 I loc σ a w).O b := .inl ⟨o, c, hl, h⟩
theorem zF8 (hs : SR E I loc σ a w) {t : TypeId} {x : AV} {ad : Addr} {K : Cont} (hx : VR w I loc x (.pointer (some ad))) (h : P0 P t x σ.obj K) : zUM P (p7 I loc σ a w) w.heap.size (loadVar t ad) := by
 unfold P0 at h
 cases x with
 | ptr o off =>
  have hl : (σ.obj o).live = true := by
   cases hA : σ.obj o <;> simp only [hA] at h <;> rfl
  cases hx with
  | pure hx => cases hx
  | ptr _ _ b c hb => exact zDy (.inl (P4 hl hb))
 | eptr o sz i off =>
  have hl : (σ.obj o).live = true := by
   cases hA : σ.obj o <;> simp only [hA] at h <;> rfl
  cases hx with
  | pure hx => cases hx
  | eptr _ _ _ _ b c hb => exact zDy (.inl (P4 hl hb))
 | elt x =>
  cases hx with
  | pure hx =>
   cases hx with
   | elt b off _ C hb hc _ =>
    have ok : x.cells.length ≠ 0 → zUM P (p7 I loc σ a w) w.heap.size (loadVar t ⟨b, off, none⟩) := fun h0 => zDy (.inr ⟨hb, zGf (hc 0 (by omega))⟩)
    simp only at h
    cases hag : s9 P t with
    | none => simp only [hag] at h
    | some ag =>
     cases hsz : sizeT P t with
     | none => cases ag <;> simp only [hag, hsz] at h
     | some k =>
      cases ag with
      | true =>
       simp only [hag, hsz] at h
       by_cases h0 : x.cells.length = 0
       ·exact zQr hag (by rw [hsz, ← h.1, h0])
       ·exact ok h0
      | false =>
       simp only [hag, hsz] at h
       exact ok (by omega)
 | _ => exact h.elim
theorem zMb (hs : SR E I loc σ a w) {t : TypeId} {x : AV} {ad : Addr} {K : Cont} (hx : VR w I loc x (.pointer (some ad))) (h : P0 P t x σ.obj K) : Ev P (p7 I loc σ a w) w.heap.size (loadVar t ad) w := (zF8 hs hx h w hs.keeps).1
theorem zDN {o sz off len : Nat} {u : Value} (hx : VR w I loc (.own o sz off len) u) (hl : (σ.obj o).live = true) : ∀ ad l c, u = .slice (some ad) l c → l ≠ 0 ∨ c ≠ 0 → (p7 I loc σ a w).O ad.block := by
 intro ad l c e h
 subst e
 rcases hx.own_inv with ⟨_, _, _, he⟩ | ⟨b, c', ad', cap, h1, he, q1, q2, q3⟩
 ·cases he
 ·cases he
  rw [q3 (by omega)]
  exact P4 hl h1
theorem zDU {sz : Nat} {x : AV} {u : Value} {ys : List AV} {rd : List Nat} (hx : VR w I loc x u) (h : l6 σ.obj sz x = some (ys, rd)) : ∀ ad l c, u = .slice (some ad) l c → l ≠ 0 → (p7 I loc σ a w).O ad.block ∨ (p7 I loc σ a w).F ad.block := by
 intro ad l c e h0
 subst e
 unfold l6 at h
 split at h
 ·rename_i xs
  cases hx with
  | pure hx =>
   cases hx with
   | nil => exact (h0 rfl).elim
   | list b off _ sz' _ C hb hz _ _ hc _ => exact .inr ⟨hb, zGf (hc 0 0 (by omega) hz)⟩
 ·rename_i o sz' off len
  have hl : (σ.obj o).live = true := by
   cases hA : σ.obj o <;> simp only [hA] at h <;> first | rfl | cases h
  exact .inl (zDN hx hl _ _ _ rfl (.inl h0))
 ·have := hx.raw_eq
  cases this
  exact (h0 rfl).elim
 ·cases h
theorem zDE {ks : List Value} {xs : List AV} {v : Value} (hx : VR w I loc (.fmap ks xs) v) : ∀ r, v = .map (some r) → (p7 I loc σ a w).F r ∧ ∃ es clock R, w.heap[r]? = some (.map es clock) ∧ U2 ks xs.length es.toList clock ∧ MapVals R ks xs es.toList := by
 intro r e
 subst e
 cases hx with
 | pure hx =>
  cases hx with
  | fmap _ es clock _ _ V hb hh hsh hv hpr =>
   refine ⟨⟨hb, _, hh, rfl⟩, es, clock, fun _ _ => True, hh, hsh, fun i h h' => ?_⟩
   obtain ⟨e, h1, h2, _⟩ := hv i h
   exact ⟨e, h1, h2, trivial⟩
theorem zC2 {ks : List Value} {xs : List AV} {es : Array MapEntry} {clock : Nat} {R : AV → Value → Prop} {kt : TypeId} {r : Nat} (h1 : w.heap[r]? = some (.map es clock)) (h2 : U2 ks xs.length es.toList clock) (h3 : MapVals R ks xs es.toList) (hk : ∀ q, q ∈ ks → zVA P kt q) : zB7 w r := fun es' clock' h e he => by
 rw [h1] at h
 cases h
 exact .of_key (hk _ ((A5 h2 h3).2 (List.mem_map.2 ⟨e, he, rfl⟩)))
theorem zAf {α β : Type} {γ : Gh} {n : Nat} {s : Sem α} {f : α → β} (h : ∀ es, EvsOK γ n es → EvsOK γ n (s.events P w es)) : EvsOK γ n ((s >>= fun v => Pure.pure (f v)).events P w #[]) := by
 rw [Sem.events_bind]
 cases hr : s.run P w with
 | halt x w' => exact h _ .nil
 | ok v w' => exact h _ .nil
end
end Go.Abs

namespace Go.Abs
open Go
variable [Cur]
section
variable {P : Program} {E : Env} {I : Nat → Prop} {loc : Nat → Loc} {σ : AS} {a : Act} {w : World}
theorem zJC {γ : Gh} {n : Nat} {op : BinOp} {t : TypeId} {x y : AV} {u v : Value} {ox oy : Operand} {K : Cont} (hx : VR w I loc x u) (hy : VR w I loc y v) (h : zVP P op t x y K) : zUM P γ n (do eqGuard op t ox oy u v; binOp op t u v : Sem Value) := by
 refine q7 zQi fun _ => ?_
 unfold zVP at h
 split at h
 ·have e1 := hx.raw_eq; have e2 := hy.raw_eq
  subst e1; subst e2
  exact zQX
 ·have e1 := hx.raw_eq; have e2 := hy.raw_eq
  subst e1; subst e2
  exact zQY
 ·have e1 := hx.raw_eq; have e2 := hy.raw_eq
  subst e1; subst e2
  refine zA6 (zDv (.bool _) (.bool _)) ?_ (by simp) (by simp) (by simp) (by simp)
  split at h
  ·split at h
   ·exact .inl rfl
   ·exact .inr rfl
   ·exact h.elim
  ·exact h.elim
 ·rename_i xs ys
  unfold zAS at h
  obtain ⟨us, rfl, hl1, hv1⟩ := hx.agg_inv
  obtain ⟨vs, rfl, hl2, hv2⟩ := hy.agg_inv
  cases hr1 : Q1 xs with
  | none => simp only [hr1] at h
  | some xs' =>
   cases hr2 : Q1 ys with
   | none => simp only [hr1, hr2] at h
   | some ys' =>
    simp only [hr1, hr2] at h
    have e1 : us.toList = xs' := H4 hr1 us.toList (by simpa using hl1) (fun i h h' => by have := hv1 i h (by simpa using h'); simpa using this)
    have e2 : vs.toList = ys' := H4 hr2 vs.toList (by simpa using hl2) (fun i h h' => by have := hv2 i h (by simpa using h'); simpa using this)
    cases hq : eqC P t xs' ys' with
    | none => simp only [hq] at h
    | some r =>
     simp only [hq] at h
     have hf := (zEu hq).1
     have flat : ∀ (us : Array Value), us.toList.all J8 = true → FlatV (.agg us) := fun us h => .agg us fun i c hc => by
      obtain ⟨hi, rfl⟩ := Array.getElem?_eq_some_iff.1 hc
      exact List.all_eq_true.1 h _ (by simp)
     refine zA6 (zDv (flat us (by rw [e1]; exact hf.1)) (flat vs (by rw [e2]; exact hf.2))) ?_ (by simp) (by simp) (by simp) (by simp)
     split at h
     ·exact .inl rfl
     ·exact .inr rfl
     ·exact h.elim
 ·have e2 := hy.raw_eq
  subst e2
  unfold zAp at h
  split at h
  ·rename_i r e hr hu
   obtain ⟨ad, k, c, rfl, rfl⟩ := zGS hx hr
   refine zA6 (zQj hu) ?_ (by simp) (by simp) (by simp) (by simp)
   split at h
   ·exact .inl rfl
   ·exact .inr rfl
   ·exact h.elim
  ·exact h.elim
 ·have e1 := hx.raw_eq; have e2 := hy.raw_eq
  subst e1; subst e2
  split at h
  ·rename_i ms hu
   refine zA6 (zHp hu (.inr ⟨_, _, rfl⟩)) ?_ (by simp) (by simp) (by simp) (by simp)
   split at h
   ·exact .inl rfl
   ·exact .inr rfl
   ·exact h.elim
  ·exact h.elim
 ·have e1 := hx.raw_eq; have e2 := hy.raw_eq
  subst e1; subst e2
  split at h
  ·rename_i ms hu
   have h := h.2
   refine zA6 (zHp hu (.inl rfl)) ?_ (by simp) (by simp) (by simp) (by simp)
   split at h
   ·exact .inl rfl
   ·exact .inr rfl
   ·exact h.elim
  ·exact h.elim
 ·exact h.elim
theorem zJv {s d : TypeId} {x : AV} {u : Value} {K : Cont} (hx : VR w I loc x u) (h : K9 P s d x σ.obj K) : zUM P (p7 I loc σ a w) w.heap.size (convert s d u) := by
 unfold K9 at h
 split at h
 ·rename_i e b he
  have := hx.raw_eq
  subst this
  exact zQd he h.2.1
 ·unfold F7 at h
  split at h
  ·rename_i he _
   have := hx.raw_eq
   subst this
   exact zQf he
  ·have := hx.raw_eq
   subst this
   exact zQh h.1
  ·have := hx.raw_eq
   subst this
   exact zQg h.1
  ·rename_i o z off len _
   obtain ⟨h1, h⟩ := h
   split at h
   ·rename_i e ys rd he hr
    refine zQe he h1 h.1 ?_ (zDU hx hr)
    rcases hx.own_inv with ⟨_, _, _, q⟩ | ⟨_, _, _, _, _, q, _⟩
    ·exact ⟨_, _, _, q⟩
    ·exact ⟨_, _, _, q⟩
   ·exact h.elim
  ·exact h.elim
theorem zQR {t : TypeId} {x y : AV} {u v : Value} {K : Cont} (hx : VR w I loc x u) (h : H8 P t x y σ.obj K) : zUM P (p7 I loc σ a w) w.heap.size (Instr.storeAt t u v) := by
 unfold H8 at h
 split at h
 ·rename_i o off
  have hl : (σ.obj o).live = true := by
   cases hA : σ.obj o <;> simp only [hA] at h <;> rfl
  cases hx with
  | pure hx => cases hx
  | ptr _ _ b c hb => exact zHy (P4 hl hb)
 ·rename_i o sz i off
  have hl : (σ.obj o).live = true := by
   cases hA : σ.obj o <;> simp only [hA] at h <;> rfl
  cases hx with
  | pure hx => cases hx
  | eptr _ _ _ _ b c hb => exact zHy (P4 hl hb)
 ·exact h.elim
theorem zCH {s x : AV} {u v : Value} {ts : Array TypeId} {ty : TypeId} {sz : Nat} (hx : VR w I loc s u) (hs : (∃ o sz len, s = .own o sz 0 len ∧ (σ.obj o).live = true) ∨ s = .raw (.slice none 0 0) ∨ ∃ xs, s = .clp xs)
  (hy : VR w I loc x v) (hr : (∃ ys rd, l6 σ.obj sz x = some (ys, rd)) ∨ ∃ b, x = .raw (.string b)) : zUM P (p7 I loc σ a w) w.heap.size (Builtin.append_ ts ty #[u, v]) := by
 refine zQW ?_ ?_
 ·rcases hs with ⟨o, sz, len, rfl, hl⟩ | rfl | ⟨xs, rfl⟩
  ·exact fun ad l c e => ⟨fun h => .inl (zDN hx hl ad l c e (.inl h)), fun h => zDN hx hl ad l c e (by omega)⟩
  ·intro ad l c e
   have := hx.raw_eq
   rw [e] at this
   cases this
  ·intro ad l c e
   cases hx with
   | pure hx =>
    cases hx with
    | clp _ ba hp =>
     cases e
     exact ⟨zDU (sz := 0) (ys := xs) (rd := []) (VR.pure (loc := loc) hp) (by simp only [l6]) _ _ _ rfl, fun h => (h rfl).elim⟩
 ·rcases hr with ⟨ys, rd, hr⟩ | ⟨b, rfl⟩
  ·exact zDU hy hr
  ·intro ad l c e
   have := hy.raw_eq
   rw [e] at this
   cases this
theorem zIa {t : TypeId} {s x : AV} {u v : Value} {ts : Array TypeId} {ty : TypeId} {nx : Nat} {K : Cont} (hx : VR w I loc s u) (hy : VR w I loc x v) (h : appendA P t s x σ.obj nx K) : zUM P (p7 I loc σ a w) w.heap.size (Builtin.append_ ts ty #[u, v]) := by
 unfold appendA at h
 split at h
 ·rename_i e he
  cases h1 : sizeT P e with
  | none => simp only [h1] at h
  | some sz =>
   cases h2 : bytesT P e with
   | none => simp only [h1, h2] at h
   | some by_ =>
    cases h3 : zeroT P e with
    | none => simp only [h1, h2, h3] at h
    | some z =>
     simp only [h1, h2, h3, Option.getD_some] at h
     cases h4 : l6 σ.obj sz x with
     | none => simp only [h4] at h
     | some p =>
      obtain ⟨ys, rd⟩ := p
      simp only [h4] at h
      refine zCH hx ?_ hy (.inl ⟨ys, rd, h4⟩)
      have h := h.2.2.2
      split at h
      ·split at h
       ·rename_i o sz' len
        split at h
        ·rename_i hA; exact .inl ⟨_, _, _, rfl, by rw [hA]; rfl⟩
        ·exact h.elim
       ·exact .inr (.inl rfl)
       ·exact h.elim
      ·have h := h.2
       split at h
       ·rename_i o sz' len
        split at h
        ·rename_i hA; exact .inl ⟨_, _, _, rfl, by rw [hA]; rfl⟩
        ·exact h.elim
       ·exact .inr (.inl rfl)
       ·exact .inr (.inr ⟨_, rfl⟩)
       ·exact h.elim
 ·exact h.elim
theorem zJT {l : List AV} {k : List UInt8 → Prop} (h : M4 l k) : ∃ b, k b := by
 induction l generalizing k with
 | nil => exact ⟨_, h⟩
 | cons x r ih =>
  cases x with
  | raw v =>
   cases v with
   | int q m => cases q <;> first | (obtain ⟨b, hb⟩ := ih h.2; exact ⟨_, hb⟩) | exact h.elim
   | _ => exact h.elim
  | _ => exact h.elim
theorem zIc {t t' : TypeId} {s x : AV} {u v : Value} {ts : Array TypeId} {ty : TypeId} {nx : Nat} {K : Cont} (hx : VR w I loc s u) (hy : VR w I loc x v) (h : K7 P t t' s x σ.obj nx K) : zUM P (p7 I loc σ a w) w.heap.size (Builtin.append_ ts ty #[u, v]) := by
 unfold K7 at h
 split at h
 ·obtain ⟨_, _, h⟩ := h
  have core : ∀ {e : TypeId} {l2 : List UInt8} {rd : List Nat}, l2 ≠ [] ∧ zVE e s l2 rd σ.obj nx K → (∃ o sz len, s = .own o sz 0 len ∧ (σ.obj o).live = true) ∨ s = .raw (.slice none 0 0) ∨ ∃ xs, s = .clp xs := fun {e l2 rd} h => by
   have h := h.2
   unfold zVE at h
   split at h
   ·rename_i o sz' len
    split at h
    ·rename_i hA; exact .inl ⟨_, _, _, rfl, by rw [hA]; rfl⟩
    ·exact h.elim
   ·exact .inr (.inl rfl)
   ·exact h.elim
  unfold zVi at h
  split at h
  ·exact zCH (sz := 1) hx (core h.2) hy (.inr ⟨_, rfl⟩)
  ·obtain ⟨_, h⟩ := h
   split at h
   ·rename_i ys rd hr
    obtain ⟨b, hb⟩ := zJT h.2
    exact zCH hx (core hb) hy (.inl ⟨_, _, hr⟩)
   ·exact h.elim
  ·exact h.elim
 ·exact h.elim
theorem zKJ [Cur] (hs : SR E I loc σ a w) {o : Oper} {nx : Nat} {K : Cont} (h : zUV P o σ.ev σ.obj nx K) : EvsOK (p7 I loc σ a w) w.heap.size ((execOp a.eval o).events P w #[]) := by
  have T : zUM P (p7 I loc σ a w) w.heap.size (execOp a.eval o) → EvsOK (p7 I loc σ a w) w.heap.size ((execOp a.eval o).events P w #[]) := fun h => (h w hs.keeps).1 _ .nil
  have V : ∀ {α : Type} {s : Sem α} {f : α → Next}, zUM P (p7 I loc σ a w) w.heap.size s → zUM P (p7 I loc σ a w) w.heap.size (s >>= fun v => Pure.pure (f v)) := fun h => q7 h fun _ => q8
  have mapUp : ∀ {t m k x}, N1 P t (σ.ev m) (σ.ev k) (σ.ev x) σ.obj K → EvsOK (p7 I loc σ a w) w.heap.size ((Instr.mapUpdate t (a.eval m) (a.eval k) (a.eval x) >>= fun _ => Pure.pure Next.skip).events P w #[]) := fun {t m k x} h => by
    unfold N1 at h
    split at h
    · rename_i kt et ob kv hmt hm hkv
      have e := zBb hkv (hs.ev k)
      split at h
      · rename_i ks xs hA
        obtain ⟨hK, hkb, hall, _⟩ := h
        have hor := hs.objs ob
        rw [hA] at hor
        obtain ⟨b, es, clock, g1, g2, g3, g4⟩ := hor
        have hl : (σ.obj ob).live = true := by rw [hA]; rfl
        have hv := hs.ev m
        rw [hm] at hv
        refine zAf (f := fun _ => Next.skip) (zKO hs.keeps (fun r hr => ?_) (by rw [e]; exact .of_key hkb))
        rw [hr] at hv
        cases hv with
        | pure hv => cases hv
        | mp _ b' c hb =>
          have hb2 := hb
          rw [g1] at hb
          cases hb
          exact ⟨P4 hl hb2, zC2 g2 g3 g4 hall⟩
      · exact h.elim
    · exact h.elim
  unfold zUV at h
  cases hop : o.op <;> rw [hop] at h <;> simp only at h <;> try (first | exact h.elim | skip)
  case move x => exact T (by simp only [execOp, hop]; exact q8)
  case assign x => exact T (by simp only [execOp, hop]; exact q8)
  case pick c x y => exact T (by simp only [execOp, hop]; exact q7 e9 fun _ => q8)
  case alloc t => exact T (by simp only [execOp, hop]; exact V zQV)
  case box t x => exact T (by simp only [execOp, hop]; exact V zQZ)
  case build t ps => exact T (by simp only [execOp, hop]; exact V zQa)
  case buildSlice t n ps => exact T (by simp only [execOp, hop]; exact V zQb)
  case load t x =>
    refine T (by
      simp only [execOp, hop]
      refine V ?_
      unfold Instr.loadAt
      have hx := hs.ev x
      generalize a.eval x = u at *
      unfold Instr.sureAddr
      split
      · exact zF8 hs hx h
      · exact TameV.bind (p := fun _ => False) TameV.halt fun _ h => h.elim)
  case store t x y => exact T (by simp only [execOp, hop]; exact q7 (zQR (hs.ev x) h) fun _ => q8)
  case nilCheck x =>
    obtain ⟨hK, hv⟩ := zGR (hs.ev x) h
    refine T ?_
    simp only [execOp, hop]
    revert hv
    generalize a.eval x = v
    intro hv
    rcases hv with hv | ⟨name, t, u, caps, rfl, hv⟩
    rotate_left
    · show zUM P _ _ (do
        if (← nilAhead ((← program).types.size + Made.depth) t u name) != some false then unsupported _
        pure (.value (.func (.method name) #[.iface t u] caps)) : Sem Next)
      refine TameV.bind tame_program fun q hq => ?_
      subst hq
      refine TameV.bind (p := fun _ => True) (fun w1 hw1 => ⟨fun es he => ?_, fun v w' hr => ?_⟩) fun r _ => ?_
      · rw [(hv w1).2]; exact he
      · rw [(hv w1).1] at hr; cases hr; exact ⟨hw1, trivial⟩
      · split
        · exact q7 v8 fun _ => q8
        · exact q8
    cases v with
    | pointer p => cases p with
      | none => exact hv.elim
      | some p => exact q8
    | func fn f c => cases fn with
      | method n => exact hv.elim
      | _ => exact q8
    | nilFunc => exact hv.elim
    | nilIface => exact hv.elim
    | _ => exact q8
  case binOp op t x y u => exact T (by simp only [execOp, hop]; exact V (zJC (hs.ev x) (hs.ev y) h))
  case unOp op t x => exact T (by simp only [execOp, hop]; exact V zQ8)
  case convert s d x => exact T (by simp only [execOp, hop]; exact V (zJv (hs.ev x) h.2))
  case makeInterface t x => exact T (by simp only [execOp, hop]; exact V zQs)
  case typeAssert x t u ok => exact T (by simp only [execOp, hop]; exact V zQ7)
  case makeFunc fn first cs => exact T (by simp only [execOp, hop]; unfold Instr.makeFunc; exact V q8)
  case makeSlice t x y => exact T (by simp only [execOp, hop]; exact V zQv)
  case slice t x lo hi mx => exact T (by simp only [execOp, hop]; exact V zQ3)
  case fieldAddr s x f =>
    unfold E5 at h
    split at h
    · rename_i u off hf
      split at h
      · rename_i n ag h1 h2
        exact T (by simp only [execOp, hop]; exact V (zQm hf h1 h.1))
      · exact h.elim
    · exact h.elim
  case field s x f => exact T (by simp only [execOp, hop]; exact V zQl)
  case indexAddr t x i => exact T (by simp only [execOp, hop]; exact V zQo)
  case index t x i => exact T (by simp only [execOp, hop]; exact V zQn)
  case extract x i => exact T (by simp only [execOp, hop]; exact V zQk)
  case makeMap t r => exact T (by simp only [execOp, hop]; exact V zQt)
  case mapUpdate t m k x => simp only [execOp, hop]; exact mapUp h
  case insert t m k x => simp only [execOp, hop]; exact mapUp h
  case lookup t m k ok =>
    unfold I8 at h
    split at h
    · rename_i kt et kv hmt hkv
      cases hz : zeroT P et with
      | none => simp only [hz] at h
      | some z =>
        simp only [hz] at h
        obtain ⟨hK, hkb, hzo, h⟩ := h
        have e := zBb hkv (hs.ev k)
        simp only [execOp, hop]
        refine zAf (zKN hs.keeps (fun r hr => ?_) (by rw [e]; exact .of_key hkb))
        have hm := hs.ev m
        rw [hr] at hm
        split at h
        · rename_i ks xs hmm
          rw [hmm] at hm
          obtain ⟨g1, es, clock, R, g2, g3, g4⟩ := zDE (σ := σ) (a := a) hm r rfl
          exact ⟨.inr g1, zC2 g2 g3 g4 h.1⟩
        · rename_i ob hmm
          rw [hmm] at hm
          split at h
          · rename_i ks xs hA
            have hor := hs.objs ob
            rw [hA] at hor
            obtain ⟨b, es, clock, g1, g2, g3, g4⟩ := hor
            cases hm with
            | pure hm => cases hm
            | mp _ b' c hb =>
              have hl : (σ.obj ob).live = true := by rw [hA]; rfl
              have hb2 := hb
              rw [g1] at hb
              cases hb
              exact ⟨.inl (P4 hl hb2), zC2 g2 g3 g4 h.1⟩
          · exact h.elim
        · exact h.elim
    · exact h.elim
  case range t x =>
    refine T ?_
    simp only [execOp, hop]
    refine V (zQ1 fun m hm => ?_)
    have hx := hs.ev x
    rw [hm] at hx
    unfold D1 at h
    split at h
    · rename_i ks xs hxx
      rw [hxx] at hx
      exact .inr (zDE hx m rfl).1
    · rename_i s hxx
      rw [hxx] at hx
      have := hx.raw_eq
      cases this
    · exact h.elim
  case next x b =>
    obtain ⟨rfl, h⟩ := h
    have hx := hs.ev x
    unfold E9 at h
    split at h
    · rename_i ob hxx
      rw [hxx] at hx
      split at h
      · rename_i s pos hA
        have hor := hs.objs ob
        rw [hA] at hor
        obtain ⟨b, g1, g2⟩ := hor
        have hl : (σ.obj ob).live = true := by rw [hA]; rfl
        simp only [execOp, hop]
        generalize a.eval x = u at *
        cases hx with
        | pure hx => cases hx
        | ptr _ _ b' c hb =>
          have hb2 := hb
          rw [g1] at hb
          cases hb
          refine zAf (zE2 hs.keeps (P4 hl hb2) fun m p q r hm => ?_)
          rw [g2] at hm
          cases hm
      · exact h.elim
    · exact h.elim
  case entry x =>
    have hx := hs.ev x
    unfold E3 at h
    split at h
    · rename_i ob hxx
      rw [hxx] at hx
      split at h
      · rename_i k v ks xs hA
        have hor := hs.objs ob
        rw [hA] at hor
        obtain ⟨b, g1, hor⟩ := hor
        have hl : (σ.obj ob).live = true := by rw [hA]; rfl
        simp only [execOp, hop]
        generalize a.eval x = u at *
        cases hx with
        | pure hx => cases hx
        | ptr _ _ b' c hb =>
          have hb2 := hb
          rw [g1] at hb
          cases hb
          refine zAf (zKM hs.keeps (.inl (P4 hl hb2)) fun m p q r hm => ?_)
          rcases hor with ⟨s, seen, l, q1, _⟩ | ⟨m', es, clock, seen, q1, q2, q3, _⟩
          · rw [q1] at hm; cases hm
          · rw [q1] at hm; cases hm
            exact .inr ⟨q2, _, q3, rfl⟩
      · exact h.elim
    · exact h.elim
  case call c =>
    refine T ?_
    obtain ⟨callee, args, ts⟩ := c
    cases callee with
    | invoke r m =>
      simp only [R3] at h
      cases hq : zVH (σ.ev r) with
      | none => simp only [hq] at h
      | some p =>
        obtain ⟨t, y⟩ := p
        simp only [hq] at h
        cases hm : S6 P t m with
        | none => simp only [hm] at h
        | some f =>
          simp only [hm] at h
          obtain ⟨v, hv, hy⟩ := zBO (hs.ev r) hq
          have hfu : ∃ n, P.types.size + Made.depth = n + 1 := ⟨P.types.size + Made.depth - 1, by have : 0 < Made.depth := by decide
                                                                                                  omega⟩
          obtain ⟨k, hk⟩ := hfu
          simp only [execOp, hop, resolve, hv]
          have e : ((#[Value.iface t v] ++ args.map a.eval) : Array Value)[0]? = some (.iface t v) := by rw [Array.getElem?_append_left (by simp)]; rfl
          show zUM P _ _ (invoke (.fn (.method m) #[]) (#[Value.iface t v] ++ args.map a.eval))
          simp only [invoke, e, callMethod]
          refine TameV.bind tame_program fun q hq => ?_
          subst hq
          rw [hk]
          exact TameV.bind (zHx hm k v) fun r hr => by subst hr; exact zAQ h.1
    | value fo =>
      simp only [R3] at h
      have hfo := hs.ev fo
      unfold C9 at h
      simp only [execOp, hop, resolve]
      split at h
      · rename_i f fs caps hfe
        split at h
        rotate_left
        · obtain ⟨hf, rfl, rfl, h⟩ := h
          rw [hfe] at hfo
          have e := hfo.raw_eq
          rw [e]
          unfold zVX at h
          split at h
          · rename_i n hx
            subst hf
            obtain ⟨g1, g2⟩ := Y5 hs args
            rw [hx] at g1
            have hsz : (args.map a.eval).size = 1 := by simpa using g1.symm
            have hv0 : (args.map a.eval)[0]'(by omega) = .int .i64 n := by
              have := g2 0 (by rw [hx]; simp) (by omega)
              simp only [hx, List.getElem_cons_zero] at this
              exact this.raw_eq
            have hargs : args.map a.eval = #[.int .i64 n] := by
              apply Array.ext
              · simpa using hsz
              · intro i h1 h2; have : i = 0 := by omega
                subst this; exact hv0
            rw [hargs]
            exact zQz (k := n) h.1
          · exact h.elim
        rename_i hc
        obtain ⟨rfl, rfl, h⟩ := h
        rw [hfe] at hfo
        have e := hfo.raw_eq
        rw [e]
        exact zAQ (args := _) hc
      · rename_i f caps hfe
        obtain ⟨hc, h⟩ := h
        rw [hfe] at hfo
        generalize a.eval fo = fv at hfo
        cases hfo with
        | pure hp => cases hp
        | fn _ _ vs q1 q2 => exact zAQ (args := _) hc
      · exact h.elim
    | builtin b =>
      simp only [R3] at h
      obtain ⟨g1, g2⟩ := Y5 hs args
      have one : ∀ {x}, args.toList.map σ.ev = [x] → ∃ v, args.map a.eval = #[v] ∧ VR w I loc x v := fun {x} hx => by
        rw [hx] at g1
        have hsz : (args.map a.eval).size = 1 := by simpa using g1.symm
        refine ⟨(args.map a.eval)[0]'(by omega), ?_, ?_⟩
        · apply Array.ext
          · simpa using hsz
          · intro i h1 h2; have : i = 0 := by omega
            subst this; rfl
        · have := g2 0 (by rw [hx]; simp) (by omega)
          simpa only [hx, List.getElem_cons_zero] using this
      have two : ∀ {x y}, args.toList.map σ.ev = [x, y] → ∃ v u, args.map a.eval = #[v, u] ∧ VR w I loc x v ∧ VR w I loc y u := fun {x y} hx => by
        rw [hx] at g1
        have hsz : (args.map a.eval).size = 2 := by simpa using g1.symm
        refine ⟨(args.map a.eval)[0]'(by omega), (args.map a.eval)[1]'(by omega), ?_, ?_, ?_⟩
        · apply Array.ext
          · simpa using hsz
          · intro i h1 h2
            have : i = 0 ∨ i = 1 := by omega
            rcases this with rfl | rfl <;> rfl
        · have := g2 0 (by rw [hx]; simp) (by omega)
          simpa only [hx, List.getElem_cons_zero] using this
        · have := g2 1 (by rw [hx]; simp) (by omega)
          simpa only [hx, List.getElem_cons_succ, List.getElem_cons_zero] using this
      simp only [execOp, hop, resolve]
      unfold C8 at h
      split at h
      · rename_i x hx
        obtain ⟨h0, h⟩ := h
        obtain ⟨v, e, hv⟩ := one hx
        rw [e]
        cases hn' : M9 P (ts.getD 0 0) x with
        | none => simp only [hn'] at h
        | some k =>
          refine V (s := Builtin.len_ ts o.type #[v]) (zQp hv h0 hn' fun kt et hu r hr => ?_)
          rw [hr] at hv
          unfold M9 at hn'
          split at hn'
          · cases hv.raw_eq
          · cases hv with
            | pure hv => cases hv
          · cases hv with
            | pure hv => cases hv
          · cases hv with
            | pure hv => cases hv
          · cases hv.raw_eq
          · exact .inr (zDE hv r rfl).1
          · rename_i q1 q2 q3
            first | (rw [hu] at q1; cases q1) | (rw [hu] at q2; cases q2) | (rw [hu] at q3; cases q3)
          · cases hn'
      · rename_i s x hx
        obtain ⟨v, u, e, hv, hu⟩ := two hx
        rw [e]
        refine V (s := Builtin.append_ ts o.type #[v, u]) ?_
        split at h
        · exact zIc hv hu h.2
        · exact zIa hv hu h.2
      · rename_i ob sz len hx
        obtain ⟨v, e, hv⟩ := one hx
        rw [e]
        refine V (s := Builtin.unsafeSliceData_ ts o.type #[v]) ?_
        rcases hv.own_inv with ⟨_, _, hx0, _⟩ | ⟨b, c, ad, cap, hl, rfl, q1, q2, q3⟩
        · cases hx0
        · show zUM P _ _ (do if cap ≠ 0 then pure (.pointer (some ad)) else if (← viewAt ad.block).isSome then pure (.pointer (some ad)) else pure (.pointer (some ⟨← newObj (.view ad (← elemOf o.type)), 0, none⟩)) : Sem Value)
          rw [if_pos (by omega)]
          exact q8
      · rename_i ob sz k n hx
        obtain ⟨v, u, e, hv, hu⟩ := two hx
        rw [e]
        refine V (s := Builtin.unsafeString_ ts o.type #[v, u]) ?_
        have hl : (σ.obj ob).live = true := by
          cases hA : σ.obj ob <;> simp only [hA] at h <;> rfl
        cases hv with
        | pure hv => cases hv
        | eptr _ _ _ _ b c hb => exact zQ9 (.inl (P4 hl hb))
      · rename_i hx
        obtain ⟨v, e, hv⟩ := one hx
        rw [e, hv.raw_eq]
        obtain ⟨hts, hu, _⟩ := h
        have e0 : ts[0]? = some (ts.getD 0 0) := by
          rw [Array.getElem?_eq_getElem hts]
          simp [hts]
        cases hpu : P.underlying (ts.getD 0 0) with
        | none => rw [hpu] at hu; exact hu.elim
        | some d =>
          rw [hpu] at hu
          cases d with
          | slice e' =>
            refine V (s := Builtin.cap_ ts o.type #[.slice none 0 0]) ?_
            unfold Builtin.cap_
            rw [e0]
            refine TameV.bind V6 fun d' hd => ?_
            rw [hpu] at hd
            cases hd
            exact q8
          | _ => exact hu.elim
      · rename_i k x k' y hx
        obtain ⟨v, u, e, hv, hu⟩ := two hx
        rw [e, hv.raw_eq, hu.raw_eq]
        exact V (s := Builtin.max_ ts o.type #[.int k x, .int k' y]) (q7 q8 fun _ => q8)
      · rename_i k x k' y hx
        obtain ⟨v, u, e, hv, hu⟩ := two hx
        rw [e, hv.raw_eq, hu.raw_eq]
        exact V (s := Builtin.min_ ts o.type #[.int k x, .int k' y]) (q7 q8 fun _ => q8)
      · exact h.elim
end
end Go.Abs

namespace Go.Abs
open Go
variable [Cur]
section
variable {P : Program} {E : Env} {I : Nat → Prop} {γ : Gh} {loc : Nat → Loc} {σ : AS} {a : Act} {w : World}
theorem SG.putD (h : SG E I γ loc σ a w) {d : Option Tmp} {v : AV} {x : Value} (hv : VR w I loc v x) (hd : ∀ t, d = some t → t < σ.n) : SG E I γ loc (σ.putD d v) (a.put d x) w := by
 have hob : (σ.putD d v).obj = σ.obj := by cases d <;> rfl
 have hdf : (a.put d x).defers = a.defers := by cases d <;> rfl
 exact ⟨h.sr.putD hv hd, ⟨h.og.wf, h.og.rd, by rw [hob]; exact h.og.live, by rw [hdf]; exact h.og.mark, h.og.own, h.og.fro⟩⟩
theorem zEz {o : Oper} {ev : Operand → AV} {H : Nat → AObj} {nx : Nat} {K : Cont} (h : zUV P o ev H nx K) : ∀ c, o.op ≠ .defer c := by
 intro c e
 unfold zUV at h
 rw [e] at h
 exact h
theorem zEy (hs : SR E I loc σ a w) {o : Oper} {nx : Nat} {K : Cont} (h : zUV P o σ.ev σ.obj nx K) : EvsOK ⟨hereFp loc σ a, I, none⟩ w.heap.size ((execOp a.eval o).events P w #[]) := zAe (zKJ hs h)
theorem zAd {ρ : Option Nat} (hs : St E σ a w γ) {o : Oper} {nx : Nat} {K : Cont} (h : zUV P o σ.ev σ.obj nx K) (hd : ∀ d, o.dst = some d → d < σ.n) {next : Nx3} {Q : w6}
  (hn : ∀ v rd wr a' w' γ', K v rd wr → St E ((σ.writes wr).putD o.dst v) a' w' γ' → next a' w' γ') : Z0 (Cur.way P) ρ o next Q a w γ := by
 have hdw : ∀ wr, ∀ d, o.dst = some d → d < (σ.writes wr).n := fun wr d e => by rw [(U1 wr σ).1]; exact hd d e
 refine T1 (.inr (zEz h)) fun w₁ hr => ?_
 obtain ⟨I, loc, hs⟩ := hs.rely hr
 have hev := zEy hs.sr h
 cases zE0 hs.sr.here h with
 | val v rd wr x w' I' loc' hK hrun hsr hv =>
  obtain ⟨γ', hg, hsg⟩ := hs.next hsr (fun d hd => .inl hd) hev
  exact ⟨_, w', γ', hrun, hg, fun w₂ hr2 => hn v rd wr _ _ _ hK (St.rely ⟨I', loc', hsg.putD hv (hdw wr)⟩ hr2)⟩
 | unit v rd wr w' I' loc' hK hrun hsr hv =>
  obtain ⟨γ', hg, hsg⟩ := hs.next hsr (fun d hd => .inl hd) hev
  exact ⟨_, w', γ', hrun, hg, fun w₂ hr2 => hn v rd wr _ _ _ hK (St.rely ⟨I', loc', hsg.putD hv (hdw wr)⟩ hr2)⟩
 | call f avs vs hrun hc hl hv =>
  obtain ⟨r, rd, wr, hK, hcl⟩ := zCM hs hl hv hc
  have hg0 := Guar.refl hs.og.wf
  refine ⟨_, w₁, γ, hrun, ⟨hg0.wf, hg0.tape, hg0.os, hg0.output, hg0.size, hg0.block, hg0.own, hg0.fro, hg0.tok, fun e he => (hev e he).mono (fun b => hereFp.own hs.og) hs.og.rd⟩, R6 hcl ?_⟩
  rintro e w' γ' ⟨v, I', loc', rfl, hsg, hvr, _⟩
  exact hn r rd wr _ _ _ hK ⟨I', loc', hsg.putD hvr (hdw wr)⟩
end
end Go.Abs

namespace Go.Abs
open Go
variable [Cur]
def nxF : Nat → List (Nat × AObj) → Nat
 | m, [] => m
 | m, (k, _) :: r => nxF (if k < m then m else k + 1) r
def AS.nx (σ : AS) : Nat := nxF 0 σ.objs
def gIf (b want : Bool) (Y N : Prop) : Prop := (b = want → Y) ∧ (b = !want → N)
def l5 (all : List Oper) (σ : AS) (o : Oper) (Y N : Prop) : Prop := match o.guard with
 | none => Y
 | some (j, want) => match (all[j]?).bind (·.dst) with
  | some d => (match σ.get d with
   | .raw (.bool b) => gIf b want Y N
   | .tup [] => N
   | _ => False)
  | none => False
structure Touch where
 rd : List Nat
 wr : List Nat
def ltN (a b : Nat) : Prop := a < b
def q9 (P : Program) (all : List Oper) (K : AS → List Touch → Prop) : List Oper → AS → List Touch → Prop
  | [], σ, ts => K σ ts
  | o :: rest, σ, ts => l5 all σ o
      ((match o.dst with | some d => ltN d σ.n | none => True) ∧
        zUV P o σ.ev σ.obj σ.nx (fun v rd wr => q9 P all K rest ((σ.writes wr).putD o.dst v) (ts ++ [⟨rd, wr.map (·.1)⟩])))
      ((match o.dst with | some d => ltN d σ.n | none => True) ∧ q9 P all K rest (σ.putD o.dst (.tup [])) (ts ++ [⟨[], []⟩]))
section
variable {P : Program} {E : Env}
theorem zLF {a : Act} {d : Nat} {b : Bool} (h : a.tmps.getD d undef = .bool b) : a.tmps[d]? = some (.bool b) := by
 by_cases hd : d < a.tmps.size
 ·simp [hd] at h ⊢; exact h
 ·simp [hd, undef] at h
theorem zAi {I : Nat → Prop} {loc : Nat → Loc} {σ : AS} {a : Act} {w : World} (hs : SR E I loc σ a w) {all : List Oper} {o : Oper} {Y N : Prop} (h : l5 all σ o Y N) :
    (Region.wanted o (yielded all.toArray a.tmps) = true ∧ Y) ∨ (Region.wanted o (yielded all.toArray a.tmps) = false ∧ N) := by
  unfold l5 at h
  unfold Region.wanted
  cases hg : o.guard with
  | none => rw [hg] at h; exact .inl ⟨rfl, h⟩
  | some jw =>
    obtain ⟨j, want⟩ := jw
    rw [hg] at h
    simp only at h ⊢
    cases hd : (all[j]?).bind (·.dst) with
    | none => simp only [hd] at h
    | some d =>
      simp only [hd] at h
      have hy : ∀ v, a.tmps.getD d undef = v → yielded all.toArray a.tmps j = (match a.tmps[d]? with | some (.bool b) => some b | _ => none) := fun v _ => by
        unfold yielded
        have : (all.toArray[j]?).bind (·.dst) = some d := by simpa using hd
        rw [this]; rfl
      have hv := hs.tmps d
      split at h
      · rename_i b hb
        rw [hb] at hv
        have e := hv.raw_eq
        rw [hy _ e, zLF e]
        cases b <;> cases want <;> simp_all [gIf]
      · rename_i hb
        rw [hb] at hv
        have e : a.tmps.getD d undef = undef := by
          generalize a.tmps.getD d undef = u at hv
          cases hv with
          | pure hv => cases hv
          | tup _ vs h1 _ => simp at h1; have : vs = #[] := Array.eq_empty_of_size_eq_zero h1.symm
                             rw [this]; rfl
        right
        refine ⟨?_, h⟩
        rw [hy _ e]
        have : ∀ b, a.tmps[d]? ≠ some (.bool b) := fun b hb' => by
          have : a.tmps.getD d undef = .bool b := by simp only [Array.getD_eq_getD_getElem?, hb', Option.getD_some]
          rw [e] at this; simp [undef] at this
        cases hq : a.tmps[d]? with
        | none => simp
        | some v => cases v <;> simp <;> exact absurd hq (this _)
      · exact h.elim
theorem E6 {all : List Oper} {σ : AS} {o : Oper} {Y N : Prop} (hg : o.guard = none) (h : Y) : l5 all σ o Y N := by
 unfold l5
 rw [hg]; exact h
theorem zLY {all : List Oper} {σ : AS} {o : Oper} {Y N Y' N' : Prop} (hY : Y → Y') (hN : N → N') (h : l5 all σ o Y N) : l5 all σ o Y' N' := by
 unfold l5 at *
 cases hg : o.guard with
 | none => rw [hg] at h; exact hY h
 | some jw =>
  obtain ⟨j, want⟩ := jw
  rw [hg] at h
  simp only at h ⊢
  cases hd : (all[j]?).bind (·.dst) with
  | none => simp only [hd] at h
  | some d =>
   simp only [hd] at h ⊢
   split at h
   ·exact ⟨fun e => hY (h.1 e), fun e => hN (h.2 e)⟩
   ·exact hN h
   ·exact h.elim
theorem zKK {o : Oper} {ev : Operand → AV} {H : Nat → AObj} {nx : Nat} {K K' : Cont} (h : zUV P o ev H nx K) (hk : ∀ v rd wr, K v rd wr → K' v rd wr) : zUV P o ev H nx K' := by
 obtain ⟨v, rd, wr, h1, h2⟩ := zFF P o ev nx H K h
 exact h2 H (fun _ _ => rfl) K' (hk v rd wr h1)
theorem D5 {all : List Oper} {K K' : AS → List Touch → Prop} (h : ∀ σ ts, K σ ts → K' σ ts) : ∀ {l : List Oper} {σ : AS} {ts : List Touch}, q9 P all K l σ ts → q9 P all K' l σ ts
 | [], _, _, h0 => h _ _ h0
 | _ :: _, _, _, h0 => zLY (fun h1 => ⟨h1.1, zKK h1.2 fun _ _ _ hk => D5 h hk⟩) (fun h1 => ⟨h1.1, D5 h h1.2⟩) h0
theorem zAw {ρ : Option Nat} {all : List Oper} {K : AS → List Touch → Prop} {Q : w6} (hK : ∀ σ ts a w γ, K σ ts → St E σ a w γ → Bx (Q .normal a · γ) γ w) :
  ∀ (l : List Oper) (k : Nat) (σ : AS) (ts : List Touch) (a : Act) (w : World) (γ : Gh), all.drop k = l → q9 P all K l σ ts → St E σ a w γ → zUZ (Cur.way P) ρ all.toArray Q (List.range' k (all.length - k)) a w γ
 | [], k, σ, ts, a, w, γ, e, h, hs => by
  have : all.length - k = 0 := by have := congrArg List.length e; simpa using this
  rw [this]
  exact H2 (hK σ ts a w γ h hs)
 | o :: rest, k, σ, ts, a, w, γ, e, h, hst => by
  have hlen : all.length - k = rest.length + 1 := by have := congrArg List.length e; simpa using this
  have hk : all[k]? = some o := by
   have := congrArg (·[0]?) e
   simpa using this
  have hdr : all.drop (k + 1) = rest := by
   have := congrArg List.tail e
   simpa using this
  have hl2 : all.length - (k + 1) = rest.length := by omega
  rw [hlen, List.range'_succ, ← hl2]
  obtain ⟨I, loc, hs⟩ := hst
  rcases zAi hs.sr h with ⟨hw, hd, he⟩ | ⟨hw, hd, hr⟩
  ·exact N2 (o := o) (by simpa using hk) hw (zAd ⟨I, loc, hs⟩ he (fun d e => by rw [e] at hd; exact hd) (fun v rd wr a' w' γ' hk hst => zAw hK rest (k + 1) _ _ a' w' γ' hdr hk hst))
  ·refine zAB (by simp [hk, hw]) ?_
   have e2 : (all.toArray[k]?).bind (·.dst) = o.dst := by simp [hk]
   rw [e2]
   exact zAw hK rest (k + 1) _ _ _ w γ hdr hr ⟨I, loc, hs.putD G0 (fun d e => by rw [e] at hd; exact hd)⟩
structure Evt where
 want : Bool
 v : AV
 rd : List Nat
 wr : List (Nat × AObj)
 nx : Nat
def Evt.touch (e : Evt) : Touch := ⟨e.rd, e.wr.map (·.1)⟩
structure Fits (P : Program) (all : List Oper) (o : Oper) (σ : AS) (e : Evt) : Prop where
 guard : match o.guard with
  | none => e.want = true
  | some (j, want) => ∃ d, (all[j]?).bind (·.dst) = some d ∧ ((∃ b, σ.get d = .raw (.bool b) ∧ e.want = (b == want)) ∨ (σ.get d = .tup [] ∧ e.want = false))
 dst : ∀ d, o.dst = some d → d < σ.n
 run : e.want = true → ∀ ev H (K : Cont), (∀ x, x ∈ o.op.operands → ev x = σ.ev x) → (∀ k, k ∈ e.rd → H k = σ.obj k) → K e.v e.rd e.wr → zUV P o ev H e.nx K
 skip : e.want = false → e.v = .tup [] ∧ e.rd = [] ∧ e.wr = []
def Evt.app (e : Evt) (o : Oper) (σ : AS) : AS := (σ.writes e.wr).putD o.dst e.v
inductive Chain (P : Program) (all : List Oper) : List Oper → AS → List Evt → AS → Prop
 | nil (σ : AS) : Chain P all [] σ [] σ
 | cons {o : Oper} {l : List Oper} {σ σ' : AS} {e : Evt} {es : List Evt} : Fits P all o σ e → Chain P all l (e.app o σ) es σ' → Chain P all (o :: l) σ (e :: es) σ'
theorem zCU {all : List Oper} {K : AS → List Touch → Prop} : ∀ (l : List Oper) (σ : AS) (ts : List Touch), q9 P all K l σ ts → ∃ es σ', Chain P all l σ es σ' ∧ K σ' (ts ++ es.map Evt.touch)
  | [], σ, ts, h => ⟨[], σ, .nil σ, by simpa [q9] using h⟩
  | o :: rest, σ, ts, h => by
    have yes : ((match o.dst with | some d => ltN d σ.n | none => True) ∧ zUV P o σ.ev σ.obj σ.nx (fun v rd wr => q9 P all K rest ((σ.writes wr).putD o.dst v) (ts ++ [⟨rd, wr.map (·.1)⟩]))) →
        (match o.guard with | none => True | some (j, want) => ∃ d, (all[j]?).bind (·.dst) = some d ∧ ∃ b, σ.get d = .raw (.bool b) ∧ true = (b == want)) → ∃ es σ', Chain P all (o :: rest) σ es σ' ∧ K σ' (ts ++ es.map Evt.touch) := by
      rintro ⟨hd, he⟩ hg
      obtain ⟨v, rd, wr, hk, hf⟩ := zFF P o σ.ev σ.nx σ.obj _ he
      obtain ⟨es, σ', hc, hK⟩ := zCU rest _ _ hk
      refine ⟨⟨true, v, rd, wr, σ.nx⟩ :: es, σ', .cons ⟨?_, (by intro d e; rw [e] at hd; exact hd), fun _ ev H K hev hH hK => zEx hev (hf H hH K hK), (by intro h; cases h)⟩ hc, by simpa [Evt.touch] using hK⟩
      cases hgo : o.guard with
      | none => rfl
      | some jw =>
        rw [hgo] at hg
        obtain ⟨d, h1, b, h2, h3⟩ := hg
        exact ⟨d, h1, .inl ⟨b, h2, h3⟩⟩
    have no : ((match o.dst with | some d => ltN d σ.n | none => True) ∧ q9 P all K rest (σ.putD o.dst (.tup [])) (ts ++ [⟨[], []⟩])) →
        (match o.guard with | none => False | some (j, want) => ∃ d, (all[j]?).bind (·.dst) = some d ∧ ((∃ b, σ.get d = .raw (.bool b) ∧ false = (b == want)) ∨ σ.get d = .tup [])) → ∃ es σ', Chain P all (o :: rest) σ es σ' ∧ K σ' (ts ++ es.map Evt.touch) := by
      rintro ⟨hd, hr⟩ hg
      obtain ⟨es, σ', hc, hK⟩ := zCU rest _ _ hr
      refine ⟨⟨false, .tup [], [], [], σ.nx⟩ :: es, σ', .cons ⟨?_, (by intro d e; rw [e] at hd; exact hd), (by intro h; cases h), fun _ => ⟨rfl, rfl, rfl⟩⟩ hc, by simpa [Evt.touch] using hK⟩
      cases hgo : o.guard with
      | none => rw [hgo] at hg; exact hg.elim
      | some jw =>
        rw [hgo] at hg
        obtain ⟨d, h1, h2⟩ := hg
        exact ⟨d, h1, h2.imp id (fun h => ⟨h, rfl⟩)⟩
    unfold q9 l5 at h
    cases hg : o.guard with
    | none => rw [hg] at h; exact yes h (by rw [hg]; trivial)
    | some jw =>
      obtain ⟨j, want⟩ := jw
      rw [hg] at h
      simp only at h
      cases hd : (all[j]?).bind (·.dst) with
      | none => simp only [hd] at h
      | some d =>
        simp only [hd] at h
        split at h
        · rename_i b hb
          by_cases hbw : b = want
          · exact yes (h.1 hbw) (by rw [hg]; exact ⟨d, hd, b, hb, by simp [hbw]⟩)
          · have : b = !want := by cases b <;> cases want <;> simp_all
            exact no (h.2 this) (by rw [hg]; exact ⟨d, hd, .inl ⟨b, hb, by simp [hbw]⟩⟩)
        · rename_i hb
          exact no h (by rw [hg]; exact ⟨d, hd, .inr hb⟩)
        · exact h.elim
def stL (L : Nat → Bool) : Nat → List Oper → List Evt → AS → AS
 | k, o :: l, e :: es, σ => stL L (k + 1) l es (if L k then e.app o σ else σ)
 | _, _, _, σ => σ
theorem zAT (e : Evt) (o : Oper) (σ : AS) (t : Nat) : (e.app o σ).get t = if o.dst = some t then e.v else σ.get t := by
 unfold Evt.app AS.putD
 cases hd : o.dst with
 | none => simp [(U1 e.wr σ).2]
 | some d =>
  simp only [AS.get_put, Option.some.injEq]
  split
  ·rfl
  ·exact (U1 e.wr σ).2 t
theorem zEL (e : Evt) (o : Oper) (σ : AS) : (e.app o σ).n = σ.n := by
 unfold Evt.app AS.putD
 cases o.dst with
 | none => exact (U1 e.wr σ).1
 | some d => exact (U1 e.wr σ).1
theorem zD9 : ∀ (wr : List (Nat × AObj)) (σ σ' : AS) (o : Nat), (o ∈ wr.map (·.1) ∨ σ.obj o = σ'.obj o) → (σ.writes wr).obj o = (σ'.writes wr).obj o
 | [], σ, σ', o, h => by simpa [AS.writes] using h
 | q :: wr, σ, σ', o, h => by
  refine zD9 wr (σ.setO q.1 q.2) (σ'.setO q.1 q.2) o ?_
  by_cases hq : q.1 = o
  ·right; rw [AS.obj_setO, AS.obj_setO, if_pos hq, if_pos hq]
  ·rcases h with h | h
   ·left
    simp only [List.map_cons, List.mem_cons] at h
    exact h.resolve_left (fun e => hq e.symm)
   ·right; rw [AS.obj_setO, AS.obj_setO, if_neg hq, if_neg hq]; exact h
theorem zEB : ∀ (wr : List (Nat × AObj)) (σ : AS) (o : Nat), o ∉ wr.map (·.1) → (σ.writes wr).obj o = σ.obj o
 | [], _, _, _ => rfl
 | q :: wr, σ, o, h => by
  have h' : q.1 ≠ o ∧ o ∉ wr.map (·.1) := by
   simp only [List.map_cons, List.mem_cons] at h
   exact ⟨fun e => h (.inl e.symm), fun e => h (.inr e)⟩
  have := zEB wr (σ.setO q.1 q.2) o h'.2
  rw [AS.obj_setO, if_neg h'.1] at this
  exact this
theorem zAU (e : Evt) (o : Oper) (σ : AS) (k : Nat) : (e.app o σ).obj k = (σ.writes e.wr).obj k := by
 unfold Evt.app AS.putD
 cases o.dst <;> rfl
theorem L9 (L : Nat → Bool) : ∀ (k : Nat) (l : List Oper) (es : List Evt) (σ : AS), (stL L k l es σ).n = σ.n
 | k, o :: l, e :: es, σ => by
  simp only [stL]
  rw [L9 L (k + 1) l es]
  split
  ·exact zEL e o σ
  ·rfl
 | _, [], _, _ => rfl
 | _, _ :: _, [], _ => rfl
theorem zA3 {L L' : Nat → Bool} {t : Nat} : ∀ (k : Nat) (l : List Oper) (es : List Evt) (σ σ' : AS), σ.get t = σ'.get t → (∀ i (h : i < l.length), (l[i]).dst = some t → L (k + i) = L' (k + i)) →
    (stL L k l es σ).get t = (stL L' k l es σ').get t
  | k, o :: l, e :: es, σ, σ', h, hL => by
    simp only [stL]
    refine zA3 (k + 1) l es _ _ ?_ (fun i hi hd => by have := hL (i + 1) (by simpa using hi) (by simpa using hd); rwa [Nat.add_assoc, Nat.add_comm 1 i])
    by_cases hd : o.dst = some t
    · have := hL 0 (by simp) (by simpa using hd)
      simp only [Nat.add_zero] at this
      rw [this]
      cases L' k
      · exact h
      · rw [if_pos rfl, if_pos rfl, zAT, zAT, if_pos hd, if_pos hd]
    · have e1 : ∀ (b : Bool) (τ : AS), (if b = true then e.app o τ else τ).get t = τ.get t := fun b τ => by
        cases b
        · rfl
        · rw [if_pos rfl, zAT, if_neg hd]
      rw [e1, e1]; exact h
  | _, [], _, _, _, h, _ => h
  | _, _ :: _, [], _, _, h, _ => h
theorem zA4 {L L' : Nat → Bool} {q : Nat} : ∀ (k : Nat) (l : List Oper) (es : List Evt) (σ σ' : AS), σ.obj q = σ'.obj q → (∀ i (h : i < es.length), q ∈ (es[i]).wr.map (·.1) → L (k + i) = L' (k + i)) →
    (stL L k l es σ).obj q = (stL L' k l es σ').obj q
  | k, o :: l, e :: es, σ, σ', h, hL => by
    simp only [stL]
    refine zA4 (k + 1) l es _ _ ?_ (fun i hi hd => by have := hL (i + 1) (by simpa using hi) (by simpa using hd); rwa [Nat.add_assoc, Nat.add_comm 1 i])
    by_cases hd : q ∈ e.wr.map (·.1)
    · have := hL 0 (by simp) (by simpa using hd)
      simp only [Nat.add_zero] at this
      rw [this]
      cases L' k
      · exact h
      · rw [if_pos rfl, if_pos rfl, zAU, zAU]; exact zD9 e.wr _ _ q (.inl hd)
    · have e1 : ∀ (b : Bool) (τ : AS), (if b = true then e.app o τ else τ).obj q = τ.obj q := fun b τ => by
        cases b
        · rfl
        · rw [if_pos rfl, zAU, zEB _ _ _ hd]
      rw [e1, e1]; exact h
  | _, [], _, _, _, h, _ => h
  | _, _ :: _, [], _, _, h, _ => h
theorem zHa {L : Nat → Bool} {t j : Nat} : ∀ (k : Nat) (l : List Oper) (es : List Evt) (σ : AS) (hj : j < l.length) (hj' : j < es.length), l.length = es.length → (l[j]).dst = some t → L (k + j) = true →
    (∀ i (h : i < l.length), j < i → (l[i]).dst = some t → L (k + i) = false) → (stL L k l es σ).get t = (es[j]).v
  | k, o :: l, e :: es, σ, hj, hj', hlen, hd, hL, hno => by
    simp only [stL]
    cases j with
    | zero =>
      simp only [Nat.add_zero] at hL
      rw [hL, if_pos rfl]
      have : (stL L (k + 1) l es (e.app o σ)).get t = (stL (fun _ => false) (k + 1) l es (e.app o σ)).get t :=
        zA3 (k + 1) l es _ _ rfl (fun i hi hdi => by have := hno (i + 1) (by simpa using hi) (by omega) (by simpa using hdi); rwa [Nat.add_assoc, Nat.add_comm 1 i])
      rw [this]
      have hnone : ∀ (k : Nat) (l : List Oper) (es : List Evt) (τ : AS), (stL (fun _ => false) k l es τ) = τ := fun k l => by
        induction l generalizing k with
        | nil => exact fun es τ => by cases es <;> rfl
        | cons o l ih => exact fun es τ => by
                           cases es with
                           | nil => rfl
                           | cons e es => simp only [stL]; exact ih _ _ _
      rw [hnone, zAT, if_pos (by simpa using hd)]; rfl
    | succ j =>
      have := zHa (j := j) (t := t) (L := L) (k + 1) l es (if L k then e.app o σ else σ) (by simpa using hj) (by simpa using hj') (by simpa using hlen) (by simpa using hd) (by rw [Nat.add_assoc, Nat.add_comm 1 j]; exact hL)
        (fun i hi hij hdi => by have := hno (i + 1) (by simpa using hi) (by omega) (by simpa using hdi); rwa [Nat.add_assoc, Nat.add_comm 1 i])
      simpa using this
theorem zHb {L : Nat → Bool} {q j : Nat} : ∀ (k : Nat) (l : List Oper) (es : List Evt) (σ τ : AS) (hj : j < es.length), l.length = es.length → q ∈ (es[j]).wr.map (·.1) → L (k + j) = true →
    (∀ i (h : i < es.length), j < i → q ∈ (es[i]).wr.map (·.1) → L (k + i) = false) → (stL L k l es σ).obj q = (τ.writes (es[j]).wr).obj q
  | k, o :: l, e :: es, σ, τ, hj, hlen, hd, hL, hno => by
    simp only [stL]
    cases j with
    | zero =>
      simp only [Nat.add_zero] at hL
      rw [hL, if_pos rfl]
      have : (stL L (k + 1) l es (e.app o σ)).obj q = (stL (fun _ => false) (k + 1) l es (e.app o σ)).obj q :=
        zA4 (k + 1) l es _ _ rfl (fun i hi hdi => by have := hno (i + 1) (by simpa using hi) (by omega) (by simpa using hdi); rwa [Nat.add_assoc, Nat.add_comm 1 i])
      rw [this]
      have hnone : ∀ (k : Nat) (l : List Oper) (es : List Evt) (τ : AS), (stL (fun _ => false) k l es τ) = τ := fun k l => by
        induction l generalizing k with
        | nil => exact fun es τ => by cases es <;> rfl
        | cons o l ih => exact fun es τ => by
                           cases es with
                           | nil => rfl
                           | cons e es => simp only [stL]; exact ih _ _ _
      rw [hnone, zAU]
      exact zD9 _ _ _ _ (.inl (by simpa using hd))
    | succ j =>
      have := zHb (j := j) (q := q) (L := L) (k + 1) l es (if L k then e.app o σ else σ) τ (by simpa using hj) (by simpa using hlen) (by simpa using hd) (by rw [Nat.add_assoc, Nat.add_comm 1 j]; exact hL)
        (fun i hi hij hdi => by have := hno (i + 1) (by simpa using hi) (by omega) (by simpa using hdi); rwa [Nat.add_assoc, Nat.add_comm 1 i])
      simpa using this
  | _, [], e :: es, _, _, _, hlen, _, _, _ => by simp at hlen
  | _, _, [], _, _, hj, _, _, _, _ => by simp at hj
theorem Chain.fits {all : List Oper} : ∀ {l : List Oper} {σ σ' : AS} {es : List Evt} (k : Nat), Chain P all l σ es σ' → l.length = es.length ∧ σ' = stL (fun _ => true) k l es σ ∧
    ∀ j (hj : j < l.length) (hj' : j < es.length), Fits P all (l[j]) (stL (fun i => decide (i < k + j)) k l es σ) (es[j])
  | _, _, _, _, k, .nil σ => ⟨rfl, rfl, fun j hj => by simp at hj⟩
  | _, _, _, _, k, .cons (o := o) (l := l) (σ := σ) (e := e) (es := es) hf hc => by
    obtain ⟨h1, h2, h3⟩ := Chain.fits (k + 1) hc
    refine ⟨by simp [h1], by simp only [stL, if_true]; exact h2, fun j hj hj' => ?_⟩
    cases j with
    | zero =>
      have hnone : ∀ (k' : Nat), k ≤ k' → ∀ (l : List Oper) (es : List Evt) (τ : AS), (stL (fun i => decide (i < k + 0)) k' l es τ) = τ := fun k' hk l => by
        induction l generalizing k' with
        | nil => exact fun es τ => by cases es <;> rfl
        | cons o l ih => exact fun es τ => by
                           cases es with
                           | nil => rfl
                           | cons e es => simp only [stL]; rw [if_neg (by simp; omega)]; exact ih _ (by omega) _ _
      simp only [List.getElem_cons_zero]
      rw [hnone k (Nat.le_refl _)]; exact hf
    | succ j =>
      simp only [stL, List.getElem_cons_succ]
      rw [if_pos (by simp)]
      have := h3 j (by simpa using hj) (by simpa using hj')
      have e1 : (fun i => decide (i < k + 1 + j)) = (fun i => decide (i < k + (j + 1))) := by funext i; congr 1; rw [Nat.add_assoc, Nat.add_comm 1 j]
      rw [e1] at this; exact this
def zAm (acc : List Nat) (o : Oper) : Nat := o.after.toList.foldl (fun s e => if Region.binds .any e = true then s ||| (2 ^ e.on ||| acc.getD e.on 0) else s) 0
def A9 : List Oper → List Nat → List Nat
 | [], acc => acc
 | o :: r, acc => A9 r (acc ++ [zAm acc o])
def zAD (a b : List Nat) : Bool := a.any (fun x => b.contains x)
def C5 (ops : Array Oper) (o1 o2 : Oper) (t1 t2 : Touch) : Bool := o1.apart ops o2 && (!zAD t1.wr (t2.rd ++ t2.wr) && !zAD t2.wr t1.rd)
def I3 (ops : List Oper) (ts : List Touch) : Bool :=
 (List.range ops.length).all (fun j => (List.range j).all fun i => ((A9 ops []).getD j 0).testBit i || C5 ops.toArray (ops.getD i default) (ops.getD j default) (ts.getD i ⟨[], []⟩) (ts.getD j ⟨[], []⟩))
def J3 (ops : List Oper) : Bool := (List.range ops.length).all fun j => (ops.getD j default).after.all fun e => !Region.binds .any e || decide (e.on < j)
def zBC (ops : List Oper) (L : Nat → Bool) : Prop := ∀ i (h : i < ops.length), L i = true → ∀ e, e ∈ (ops[i]).after → Region.binds .any e = true → L e.on = true
def zUb (ops : List Oper) (acc : List Nat) : Prop := ∀ j (h : j < acc.length) (h' : j < ops.length) (L : Nat → Bool), zBC ops L → (∀ e, e ∈ (ops[j]).after → Region.binds .any e = true → L e.on = true) → ∀ i, (acc[j]).testBit i = true → L i = true
theorem zMp {acc : List Nat} {o : Oper} {i : Nat} (h : (zAm acc o).testBit i = true) : ∃ e, e ∈ o.after ∧ Region.binds .any e = true ∧ (i = e.on ∨ (acc.getD e.on 0).testBit i = true) := by
 unfold zAm at h
 have key : ∀ (l : List Edge) (s : Nat), (l.foldl (fun s e => if Region.binds .any e = true then s ||| (2 ^ e.on ||| acc.getD e.on 0) else s) s).testBit i = true → s.testBit i = true ∨ ∃ e, e ∈ l ∧ Region.binds .any e = true ∧ (i = e.on ∨ (acc.getD e.on 0).testBit i = true) := by
  intro l
  induction l with
  | nil => exact fun s h => .inl h
  | cons e l ih =>
   intro s h
   simp only [List.foldl_cons] at h
   rcases ih _ h with h | ⟨e', h1, h2⟩
   ·by_cases hb : Region.binds .any e = true
    ·rw [if_pos hb, Nat.testBit_or, Nat.testBit_or, Bool.or_eq_true, Bool.or_eq_true] at h
     rcases h with h | h | h
     ·exact .inl h
     ·refine .inr ⟨e, by simp, hb, .inl ?_⟩
      rw [Nat.testBit_two_pow] at h
      exact (of_decide_eq_true h).symm
     ·exact .inr ⟨e, by simp, hb, .inr h⟩
    ·rw [if_neg hb] at h; exact .inl h
   ·exact .inr ⟨e', by simp [h1], h2⟩
 rcases key _ 0 h with h | ⟨e, h1, h2⟩
 ·simp at h
 ·exact ⟨e, by simpa using h1, h2⟩
theorem zGG (ops : List Oper) : ∀ (l : List Oper) (acc : List Nat), ops.drop acc.length = l → zUb ops acc → zUb ops (A9 l acc) ∧ (A9 l acc).length = acc.length + l.length
 | [], acc, _, h => ⟨h, rfl⟩
 | o :: r, acc, hd, h => by
  have hlt : acc.length < ops.length := by
   have := congrArg List.length hd
   simp at this; omega
  have ho : ops[acc.length] = o := by
   have h0 := congrArg (fun l => l[0]?) hd
   simp only [List.getElem?_drop, Nat.add_zero, List.getElem?_cons_zero, List.getElem?_eq_getElem hlt, Option.some.injEq] at h0
   exact h0
  have hg : zUb ops (acc ++ [zAm acc o]) := by
   intro j hj hj' L hL hed i hi
   by_cases hlt' : j < acc.length
   ·rw [List.getElem_append_left hlt'] at hi
    exact h j hlt' hj' L hL hed i hi
   ·have e : j = acc.length := by simp at hj; omega
    subst e
    simp only [List.getElem_append_right (Nat.le_refl _), Nat.sub_self, List.getElem_cons_zero] at hi
    obtain ⟨e, h1, h2, h3⟩ := zMp hi
    rw [← ho] at h1
    have hLe := hed e h1 h2
    rcases h3 with rfl | h3
    ·exact hLe
    ·by_cases hel : e.on < acc.length
     ·rw [w4 hel] at h3
      exact h e.on hel (by omega) L hL (fun e' he' hb' => hL e.on (by omega) hLe e' he' hb') i h3
     ·rw [List.getD, List.getElem?_eq_none (by omega)] at h3
      simp at h3
  obtain ⟨g1, g2⟩ := zGG ops r (acc ++ [zAm acc o]) (by
   have := congrArg (List.drop 1) hd
   simpa [List.drop_drop] using this) hg
  exact ⟨g1, by rw [A9, g2]; simp; omega⟩
theorem zMg {ops : Array Oper} {o : Oper} {j d : Nat} {want : Bool} (hg : o.guard = some (j, want)) (hd : (ops[j]?).bind (·.dst) = some d) : d ∈ o.looksAt ops := by
 unfold Oper.looksAt; rw [hg]; simp [hd]
theorem zGD {ops : Array Oper} {o : Oper} {t : Nat} (h : Operand.tmp t ∈ o.op.operands) : t ∈ o.looksAt ops := by
 unfold Oper.looksAt
 simp only [List.mem_append, List.mem_filterMap]
 exact .inl ⟨.tmp t, by simpa using h, rfl⟩
theorem zDM {a b : List Nat} (h : zAD a b = false) {x : Nat} (ha : x ∈ a) : x ∉ b := by
 unfold zAD at h
 rw [List.any_eq_false] at h
 have := h x ha
 simpa using this
theorem zJ7 {all : List Oper} {es : List Evt} {σ0 σ1 : AS} (hind : I3 all (es.map Evt.touch) = true) (hed : J3 all = true) (hc : Chain P all all σ0 es σ1) {ρ : Option Nat} {Q : w6} (hQ : ∀ a w γ, St E σ1 a w γ → Bx (Q .normal a · γ) γ w) :
    ∀ (fuel : Nat) (listed : Array Bool) (a : Act) (w : World) (γ : Gh), listed.size = all.length → zBC all (fun i => listed.getD i false) → ((List.range all.length).filter fun i => !listed.getD i true).length ≤ fuel →
      St E (stL (fun i => listed.getD i false) 0 all es σ0) a w γ → zVO (Cur.way P) ρ all.toArray Q fuel listed a w γ := by
  obtain ⟨hlen, hfin, hfits⟩ := hc.fits 0
  have hgood := zGG all all [] (by simp) (fun j h => by simp at h)
  have hord : ∀ i j (hi : i < all.length) (hj : j < all.length), i < j → ((∀ L, zBC all L → (∀ e, e ∈ (all[j]).after → Region.binds .any e = true → L e.on = true) → L i = true) ∨ C5 all.toArray (all[i]) (all[j]) ((es[i]'(by omega)).touch) ((es[j]'(by omega)).touch) = true) := by
    intro i j hi hj hij
    unfold I3 at hind
    rw [List.all_eq_true] at hind
    have h1 := hind j (by simpa using hj)
    rw [List.all_eq_true] at h1
    have h2 := h1 i (by simpa using hij)
    rw [Bool.or_eq_true] at h2
    rcases h2 with h2 | h2
    · have hjm : j < (A9 all []).length := by rw [hgood.2]; simpa using hj
      rw [w4 hjm] at h2
      exact .inl (fun L hL he => hgood.1 j hjm hj L hL he i h2)
    · rw [w4 hi, w4 hj, w4 (by simpa using (by omega : i < es.length)), w4 (by simpa using (by omega : j < es.length))] at h2
      simp only [List.getElem_map] at h2
      exact .inr h2
  have hedge : ∀ j (hj : j < all.length) e, e ∈ (all[j]).after → Region.binds .any e = true → e.on < j := by
    intro j hj e he hb
    unfold J3 at hed
    rw [List.all_eq_true] at hed
    have h1 := hed j (by simpa using hj)
    rw [w4 hj, Array.all_eq_true_iff_forall_mem] at h1
    have h2 := h1 e he
    rw [hb] at h2
    simpa using h2
  have hdone : ∀ (listed : Array Bool), listed.size = all.length → Region.ready .any all.toArray listed = [] → ∀ i, i < all.length → listed.getD i false = true := by
    intro listed hsz hr i
    induction i using Nat.strongRecOn with
    | _ i ih =>
      intro hi
      by_cases hn : listed.getD i false = true
      · exact hn
      · exfalso
        have hmem : i ∈ Region.ready .any all.toArray listed := by
          rw [mem_ready]
          refine ⟨?_, all[i], by simp [hi], fun e he hb => ih e.on (hedge i hi e he hb) (by have := hedge i hi e he hb; omega)⟩
          have : i < listed.size := by omega
          simp [this] at hn ⊢; exact hn
        rw [hr] at hmem; cases hmem
  have hend : ∀ (listed : Array Bool) a w γ, listed.size = all.length → Region.ready .any all.toArray listed = [] → St E (stL (fun i => listed.getD i false) 0 all es σ0) a w γ → Bx (Q .normal a · γ) γ w := by
    intro listed a w γ hsz hr ⟨I, loc, hs⟩
    refine hQ a w γ ⟨I, loc, hs.congr ?_ (fun t => ?_) (fun o => ?_)⟩
    · rw [hfin, L9, L9]
    · rw [hfin]
      exact zA3 0 all es σ0 σ0 rfl (fun i hi _ => by rw [Nat.zero_add, hdone listed hsz hr i hi])
    · rw [hfin]
      exact zA4 0 all es σ0 σ0 rfl (fun i hi _ => by rw [Nat.zero_add, hdone listed hsz hr i (by omega)])
  intro fuel
  induction fuel with
  | zero =>
    intro listed a w γ hsz hcl hun hst
    have hr : Region.ready .any all.toArray listed = [] := by
      have hnil := List.eq_nil_of_length_eq_zero (Nat.le_zero.1 hun)
      cases hrr : Region.ready .any all.toArray listed with
      | nil => rfl
      | cons x xs =>
        exfalso
        have hx : x ∈ Region.ready .any all.toArray listed := by rw [hrr]; simp
        obtain ⟨h0, o, ho, _⟩ := mem_ready.1 hx
        have hxl : x < all.length := by simpa using (Array.getElem?_eq_some_iff.1 ho).1
        have : x ∈ (List.range all.length).filter fun i => !listed.getD i true := List.mem_filter.2 ⟨by simpa using hxl, by rw [h0]; rfl⟩
        rw [hnil] at this; cases this
    exact ⟨hr, hend listed a w γ hsz hr hst⟩
  | succ fuel ih =>
    intro listed a w γ hsz hcl hun hst
    refine ⟨fun hr => hend listed a w γ hsz hr hst, fun j hj => ?_⟩
    obtain ⟨hj0, o, ho, hedg⟩ := mem_ready.1 hj
    have hjl : j < all.length := by simpa using (Array.getElem?_eq_some_iff.1 ho).1
    have hoe : all[j] = o := by simpa [hjl] using ho
    have hje : j < es.length := by omega
    have hjs : j < listed.size := by omega
    have hLj : listed.getD j false = false := by simp [hjs] at hj0 ⊢; exact hj0
    have hedg' : ∀ e, e ∈ (all[j]).after → Region.binds .any e = true → listed.getD e.on false = true := fun e he hb => hedg e (by rw [← hoe]; exact he) hb
    have hfj := hfits j hjl hje
    simp only [Nat.zero_add] at hfj
    -- one that was listed and stands behind j is apart from it
    have hbehind : ∀ i (hi : i < all.length), j < i → listed.getD i false = true → C5 all.toArray (all[j]) (all[i]) ((es[j]).touch) ((es[i]'(by omega)).touch) = true := by
      intro i hi hji hLi
      rcases hord j i hjl hi hji with h | h
      · have := h (fun k => listed.getD k false) hcl (fun e he hb => hcl i hi hLi e he hb)
        rw [hLj] at this; cases this
      · exact h
    have hahead : ∀ i (hi : i < all.length), i < j → listed.getD i false = true ∨ C5 all.toArray (all[i]) (all[j]) ((es[i]'(by omega)).touch) ((es[j]).touch) = true := by
      intro i hi hij
      rcases hord i j hi hjl hij with h | h
      · exact .inl (h (fun k => listed.getD k false) hcl hedg')
      · exact .inr h
    have happ : ∀ {ops : Array Oper} {o1 o2 : Oper} {t1 t2 : Touch}, C5 ops o1 o2 t1 t2 = true → o1.apart ops o2 = true ∧ zAD t1.wr (t2.rd ++ t2.wr) = false ∧ zAD t2.wr t1.rd = false := fun {ops o1 o2 t1 t2} h => by
      unfold C5 at h
      simp only [Bool.and_eq_true, Bool.not_eq_true'] at h
      exact h
    have hreadT : ∀ t, t ∈ (all[j]).looksAt all.toArray → (stL (fun i => listed.getD i false) 0 all es σ0).get t = (stL (fun i => decide (i < j)) 0 all es σ0).get t := by
      intro t ht
      refine zA3 0 all es σ0 σ0 rfl (fun i hi hd => ?_)
      rw [Nat.zero_add]
      rcases Nat.lt_trichotomy i j with h | h | h
      · simp only [h, decide_true]
        rcases hahead i hi h with h' | h'
        · exact h'
        · exact absurd ht ((Oper.apart_spec (happ h').1).1 t hd)
      · subst h; simp only [Nat.lt_irrefl, decide_false]; exact hLj
      · simp only [show ¬ i < j by omega, decide_false]
        by_cases hLi : listed.getD i false = true
        · exact absurd ht ((Oper.apart_spec (happ (hbehind i hi h hLi)).1).2.2 t hd)
        · simpa using hLi
    have hreadO : ∀ q, q ∈ (es[j]).rd → (stL (fun i => listed.getD i false) 0 all es σ0).obj q = (stL (fun i => decide (i < j)) 0 all es σ0).obj q := by
      intro q hq
      refine zA4 0 all es σ0 σ0 rfl (fun i hi hd => ?_)
      rw [Nat.zero_add]
      have hil : i < all.length := by omega
      rcases Nat.lt_trichotomy i j with h | h | h
      · simp only [h, decide_true]
        rcases hahead i hil h with h' | h'
        · exact h'
        · exact absurd (List.mem_append.2 (.inl hq)) (zDM (happ h').2.1 hd)
      · subst h; simp only [Nat.lt_irrefl, decide_false]; exact hLj
      · simp only [show ¬ i < j by omega, decide_false]
        by_cases hLi : listed.getD i false = true
        · exact absurd hq (zDM (happ (hbehind i hil h hLi)).2.2 hd)
        · simpa using hLi
    obtain ⟨I, loc, hs⟩ := hst
    have hsetL : ∀ i, (listed.setIfInBounds j true).getD i false = if i = j then true else listed.getD i false := fun i => by
      by_cases e : i = j
      · subst e; simp [hjs]
      · rw [if_neg e, getD_set_ne false (fun h => e h.symm)]
    have hnext : ∀ a' w' γ', St E ((es[j]).app o (stL (fun i => listed.getD i false) 0 all es σ0)) a' w' γ' → zVO (Cur.way P) ρ all.toArray Q fuel (listed.setIfInBounds j true) a' w' γ' := by
      intro a' w' γ' ⟨I', loc', hs'⟩
      refine ih _ a' w' γ' (by simpa using hsz) ?_ ?_ ⟨I', loc', hs'.congr ?_ (fun t => ?_) (fun q => ?_)⟩
      · intro i hi hLi e he hb
        have hLi : (listed.setIfInBounds j true).getD i false = true := hLi
        show (listed.setIfInBounds j true).getD e.on false = true
        rw [hsetL] at hLi
        rw [hsetL]
        split
        · rfl
        · by_cases e1 : i = j
          · subst e1; exact hedg' e he hb
          · rw [if_neg e1] at hLi; exact hcl i hi hLi e he hb
      · have hlt : ((List.range all.length).filter fun i => !(listed.setIfInBounds j true).getD i true).length < ((List.range all.length).filter fun i => !listed.getD i true).length := by
          have hsub : ((List.range all.length).filter fun i => !(listed.setIfInBounds j true).getD i true) = ((List.range all.length).filter fun i => !listed.getD i true).filter (fun i => decide (i ≠ j)) := by
            rw [List.filter_filter]
            apply List.filter_congr
            intro i _
            by_cases e : i = j
            · subst e; simp [hjs]
            · rw [getD_set_ne true (fun h => e h.symm)]; simp [e]
          rw [hsub]
          have hmem : j ∈ (List.range all.length).filter fun i => !listed.getD i true := List.mem_filter.2 ⟨by simpa using hjl, by rw [hj0]; rfl⟩
          refine Nat.lt_of_le_of_ne (List.length_filter_le _ _) (fun e => ?_)
          have := (List.length_filter_eq_length_iff.1 e) j hmem
          simp at this
        omega
      · rw [zEL, L9, L9]
      · rw [zAT]
        by_cases hd : o.dst = some t
        · rw [if_pos hd]
          refine zHa 0 all es σ0 hjl hje hlen (by rw [hoe]; exact hd) (by rw [Nat.zero_add, hsetL, if_pos rfl]) (fun i hi hji hdi => ?_)
          rw [Nat.zero_add, hsetL, if_neg (by omega)]
          by_cases hLi : listed.getD i false = true
          · have hap := Oper.apart_spec (happ (hbehind i hi hji hLi)).1
            exact absurd hdi (hap.2.1 t (by rw [hoe]; exact hd))
          · simpa using hLi
        · rw [if_neg hd]
          refine zA3 0 all es σ0 σ0 rfl (fun i hi hdi => ?_)
          rw [Nat.zero_add, hsetL, if_neg]
          intro e; subst e; rw [hoe] at hdi; exact hd hdi
      · rw [zAU]
        by_cases hq : q ∈ (es[j]).wr.map (·.1)
        · refine (zHb 0 all es σ0 (stL (fun i => listed.getD i false) 0 all es σ0) hje hlen hq (by rw [Nat.zero_add, hsetL, if_pos rfl]) (fun i hi hji hdi => ?_))
          rw [Nat.zero_add, hsetL, if_neg (by omega)]
          by_cases hLi : listed.getD i false = true
          · exact absurd (List.mem_append.2 (.inr hdi)) (zDM (happ (hbehind i (by omega) hji hLi)).2.1 hq)
          · simpa using hLi
        · rw [zEB _ _ _ hq]
          refine zA4 0 all es σ0 σ0 rfl (fun i hi hdi => ?_)
          rw [Nat.zero_add, hsetL, if_neg]
          intro e; subst e; exact hq hdi
    unfold opM
    rw [ho]
    simp only
    have hguard : l5 all (stL (fun i => listed.getD i false) 0 all es σ0) o ((es[j]).want = true) ((es[j]).want = false) := by
      have hg := hfj.guard
      rw [hoe] at hg
      unfold l5
      cases hgo : o.guard with
      | none => rw [hgo] at hg; exact hg
      | some jw =>
        obtain ⟨j', want⟩ := jw
        rw [hgo] at hg
        obtain ⟨d, h1, h2⟩ := hg
        simp only [h1]
        have hlk : d ∈ (all[j]).looksAt all.toArray := by
          rw [hoe]
          exact zMg hgo (by simpa using h1)
        rw [hreadT d hlk]
        rcases h2 with ⟨b, h2, h3⟩ | ⟨h2, h3⟩
        · rw [h2]; simp only
          exact ⟨fun e => by rw [h3, e]; simp, fun e => by rw [h3, e]; cases want <;> rfl⟩
        · rw [h2]; exact h3
    rcases zAi hs.sr hguard with ⟨hw, hwant⟩ | ⟨hw, hwant⟩
    · rw [if_pos hw]
      refine zAd (nx := (es[j]).nx) (K := fun v rd wr => v = (es[j]).v ∧ wr = (es[j]).wr) ⟨I, loc, hs⟩ ?_ (fun d hd => ?_) ?_
      · have := hfj.run hwant (stL (fun i => listed.getD i false) 0 all es σ0).ev (stL (fun i => listed.getD i false) 0 all es σ0).obj (fun v rd wr => v = (es[j]).v ∧ wr = (es[j]).wr) (fun x hx => ?_) hreadO ⟨rfl, rfl⟩
        · rw [hoe] at this; exact this
        · cases x with
          | tmp t => exact hreadT t (zGD hx)
          | _ => rfl
      · rw [L9]; have := hfj.dst d (by rw [hoe]; exact hd); rw [L9] at this; exact this
      · rintro v rd wr a' w' γ' ⟨rfl, rfl⟩ hst
        exact hnext a' w' γ' hst
    · rw [hw, if_neg (by simp)]
      obtain ⟨hv, _, hwr⟩ := hfj.skip hwant
      refine hnext _ _ _ ⟨I, loc, ?_⟩
      unfold Evt.app
      rw [hv, hwr]
      exact hs.putD G0 (fun d hd => by rw [L9]; have := hfj.dst d (by rw [hoe]; exact hd); rw [L9] at this; exact this)
end
end Go.Abs

namespace Go.Abs
open Go
def zDt (P : Program) (t : TypeId) : Bool := match P.underlying t with
 | some (.struct fs) => fs.all (fun f => (sizeT P f.type).isSome)
 | _ => false
def baC (z : Value) (sz : Nat) (ps : List (Nat × AV)) (K : Cont) : Prop := z.cells.all (·.oneCell') = true ∧ (∀ p, p ∈ ps → p.2.sized = true) ∧ (match J7 sz (z.cells.toList.map .raw) ps with
 | some cs => K (.agg cs) [] []
 | none => False)
theorem buildA_array {P : Program} {t n e : TypeId} {z : Value} {sz : Nat} (h : P.underlying t = some (.array n e)) (hz : zeroT P t = some z) (hs : sizeT P e = some sz) (ps : List (Nat × AV)) (K : Cont) : buildA P t ps K = baC z sz ps K := by
 unfold buildA baC
 simp only [h, hz, hs]
 rfl
theorem zJR {P : Program} {t : TypeId} (h : zDt P t = true) (ps : List (Nat × AV)) (K : Cont) : buildA P t ps K = (match zeroT P t with
  | some z => z.cells.all (·.oneCell') = true ∧ (∀ p, p ∈ ps → p.2.sized = true) ∧ (match J6 P t (z.cells.toList.map .raw) ps with
   | some cs => K (.agg cs) [] []
   | none => False)
  | none => False) := by
 unfold zDt at h
 unfold buildA
 split at h
 ·rename_i fs hf
  simp only [hf]
  have h' : ∀ f, f ∈ fs → (sizeT P f.type).isSome = true := fun f hf' => by
   obtain ⟨i, hi, rfl⟩ := Array.mem_iff_getElem.1 hf'
   exact (Array.all_eq_true.1 h) i hi
  cases zeroT P t with
  | none => rfl
  | some z =>
   simp only [eq_iff_iff]
   constructor
   ·rintro ⟨h1, h2, h3, h4⟩; exact ⟨h1, h3, h4⟩
   ·rintro ⟨h1, h3, h4⟩; exact ⟨h1, h', h3, h4⟩
 ·cases h
variable [Cur]
def zUr (E : Env) (Q : Exit → AS → Prop) : w6 := fun e a w γ => ∃ σ, Q e σ ∧ St E σ a w γ
def HoldG (ρ : Option Nat) (P : Program) (E : Env) (c : Code) (Q : Exit → AS → Prop) (σ : AS) : Prop := ∀ a w γ, St E σ a w γ → Code.wpM (Cur.way P) ρ c (zUr E Q) a w γ
def z6 (next : AS → Prop) (Q : Exit → AS → Prop) : Exit → AS → Prop
 | .normal, σ => next σ
 | e, σ => Q e σ
def z5 (id : Nat) (Q : Exit → AS → Prop) : Exit → AS → Prop
 | .exit j, σ => if j = id then Q .normal σ else Q (.exit j) σ
 | e, σ => Q e σ
section
variable {ρ : Option Nat} {P : Program} {E : Env} {Q : Exit → AS → Prop} {σ : AS}
theorem S4 {e : Exit} {a : Act} {w : World} {γ : Gh} (h : Q e σ) (hs : St E σ a w γ) : Bx (zUr E Q e a · γ) γ w := fun _ hr => ⟨σ, h, hs.rely hr⟩
theorem HoldG.mono {c : Code} {Q' : Exit → AS → Prop} (h : HoldG ρ P E c Q σ) (hq : ∀ e σ, Q e σ → Q' e σ) : HoldG ρ P E c Q' σ :=
 fun a w γ hs => M2 (h a w γ hs) (fun e _ _ _ ⟨σ', h1, h2⟩ => ⟨σ', hq e σ' h1, h2⟩)
theorem zFb {x y : Code} (h : HoldG ρ P E x (z6 (HoldG ρ P E y Q) Q) σ) : HoldG ρ P E (.seq x y) Q σ := fun a w γ hs =>
 zD7 (M2 (h a w γ hs) (fun e a w γ ⟨σ', h1, h2⟩ => by
  cases e with
  | normal => exact h1 a w γ h2
  | _ => exact ⟨σ', h1, h2⟩))
theorem zFc (h : Q .normal σ) : HoldG ρ P E .skip Q σ := fun _ _ _ hs => zRf (S4 h hs)
theorem zLa {l : Nat} (h : Q .normal σ) : HoldG ρ P E (.label l) Q σ := fun _ _ _ hs => zRY (S4 h hs)
theorem zFZ {id : Nat} (h : Q (.exit id) σ) : HoldG ρ P E (.exit id) Q σ := fun _ _ _ hs => zRX (S4 h hs)
theorem zLc (h : Q .ret σ) : HoldG ρ P E .ret Q σ := fun _ _ _ hs => zRd (S4 h hs)
theorem zFX {id : Nat} {c : Code} (h : HoldG ρ P E c (z5 id Q) σ) : HoldG ρ P E (.block id c) Q σ := fun a w γ hs =>
 zRV (M2 (h a w γ hs) (fun e a w γ ⟨σ', h1, h2⟩ => by
  cases e with
  | exit j =>
   simp only [z5] at h1
   simp only [zBX]
   split
   ·rename_i hj; rw [if_pos hj] at h1; exact ⟨σ', h1, h2⟩
   ·rename_i hj; rw [if_neg hj] at h1; exact ⟨σ', h1, h2⟩
  | _ => exact ⟨σ', h1, h2⟩))
theorem zFY {c : Operand} {x y : Code} {b : Bool} (hc : σ.ev c = .raw (.bool b)) (ht : b = true → HoldG ρ P E x Q σ) (hf : b = false → HoldG ρ P E y Q σ) : HoldG ρ P E (.cond c x y) Q σ := fun a w γ hs => by
 obtain ⟨I, loc, hs'⟩ := hs
 have hv := hs'.sr.ev c
 rw [hc] at hv
 exact zRW hv.raw_eq (fun e => ht e a w γ ⟨I, loc, hs'⟩) (fun e => hf e a w γ ⟨I, loc, hs'⟩)
theorem zFa {id : Nat} {ops : List Oper} (h : q9 P ops (fun σ' _ => Q .normal σ') ops σ []) : HoldG ρ P E (.region id ops.toArray false) Q σ := fun a w γ hs => by
 refine D7 ?_
 have := zAw (ρ := ρ) (Q := zUr E Q) (fun σ' _ a' w' γ' h1 h2 => S4 h1 h2) ops 0 σ [] a w γ rfl h hs
 rwa [Nat.sub_zero, ← List.range_eq_range'] at this
theorem zLZ {id : Nat} {ops : List Oper} (hm : P.follows .mixedOrders = true) (he : J3 ops = true) (h : q9 P ops (fun σ' ts => I3 ops ts = true ∧ Q .normal σ') ops σ []) : HoldG ρ P E (.region id ops.toArray true) Q σ := fun a w γ hs => by
  obtain ⟨es, σ', hc, hi, hq⟩ := zCU ops σ [] h
  refine zIA hm fun w₁ hr => ?_
  have hcl : zBC ops (fun i => (Array.replicate ops.toArray.size false).getD i false) := fun i _ hL => by
    exfalso
    have h2 : (Array.replicate ops.toArray.size false).getD i false = true := hL
    by_cases hi : i < ops.length <;> simp [hi] at h2
  have hst : St E (stL (fun i => (Array.replicate ops.toArray.size false).getD i false) 0 ops es σ) a { w₁ with drawn := w₁.drawn + 1 } γ := by
    have hg := hs.rely hr
    have hs2 := hg.rely (w₁ := { w₁ with drawn := w₁.drawn + 1 }) ⟨hr.wf', rfl, rfl, rfl, Nat.le_refl _, fun _ _ => rfl, fun _ _ h => h⟩
    have hno : ∀ (k : Nat) (l : List Oper) (es : List Evt) (τ : AS), stL (fun i => (Array.replicate ops.toArray.size false).getD i false) k l es τ = τ := fun k l => by
      induction l generalizing k with
      | nil => exact fun es τ => by cases es <;> rfl
      | cons o l ih => exact fun es τ => by
                         cases es with
                         | nil => rfl
                         | cons e es =>
                           simp only [stL]
                           rw [if_neg]
                           · exact ih _ _ _
                           · by_cases hk : k < ops.length <;> simp [hk]
    rw [hno]; exact hs2
  have := zJ7 (by simpa using hi) he hc (ρ := ρ) (Q := zUr E Q) (fun a w γ h => S4 hq h) ops.length (Array.replicate ops.toArray.size false) a { w₁ with drawn := w₁.drawn + 1 } γ (by simp) hcl (Nat.le_trans (List.length_filter_le _ _) (by simp)) hst
  simpa using this
end
def Hold (P : Program) (E : Env) (c : Code) (Q : Exit → AS → Prop) (σ : AS) : Prop := HoldG none P E c Q σ
def HoldR (l : Nat) (P : Program) (E : Env) (c : Code) (Q : Exit → AS → Prop) (σ : AS) : Prop := HoldG (some l) P E c Q σ
section
variable {l : Nat} {P : Program} {E : Env} {Q : Exit → AS → Prop} {σ : AS}
theorem Hold.mono {c : Code} {Q' : Exit → AS → Prop} (h : Hold P E c Q σ) (hq : ∀ e σ, Q e σ → Q' e σ) : Hold P E c Q' σ := HoldG.mono h hq
theorem HoldR.mono {c : Code} {Q' : Exit → AS → Prop} (h : HoldR l P E c Q σ) (hq : ∀ e σ, Q e σ → Q' e σ) : HoldR l P E c Q' σ := HoldG.mono h hq
theorem zLz {x y : Code} (h : Hold P E x (z6 (Hold P E y Q) Q) σ) : Hold P E (.seq x y) Q σ := zFb h
theorem zLm {x y : Code} (h : HoldR l P E x (z6 (HoldR l P E y Q) Q) σ) : HoldR l P E (.seq x y) Q σ := zFb h
theorem zL0 (h : Q .normal σ) : Hold P E .skip Q σ := zFc h
theorem zLn (h : Q .normal σ) : HoldR l P E .skip Q σ := zFc h
theorem zLu {t : Nat} (h : Q .normal σ) : Hold P E (.label t) Q σ := zLa h
theorem zLt {id : Nat} (h : Q (.exit id) σ) : Hold P E (.exit id) Q σ := zFZ h
theorem zLk {id : Nat} (h : Q (.exit id) σ) : HoldR l P E (.exit id) Q σ := zFZ h
theorem zLy (h : Q .ret σ) : Hold P E .ret Q σ := zLc h
theorem zLq {id : Nat} {c : Code} (h : Hold P E c (z5 id Q) σ) : Hold P E (.block id c) Q σ := zFX h
theorem zLi {id : Nat} {c : Code} (h : HoldR l P E c (z5 id Q) σ) : HoldR l P E (.block id c) Q σ := zFX h
theorem zLr {c : Operand} {x y : Code} {b : Bool} (hc : σ.ev c = .raw (.bool b)) (ht : b = true → Hold P E x Q σ) (hf : b = false → Hold P E y Q σ) : Hold P E (.cond c x y) Q σ := zFY hc ht hf
theorem zLj {c : Operand} {x y : Code} {b : Bool} (hc : σ.ev c = .raw (.bool b)) (ht : b = true → HoldR l P E x Q σ) (hf : b = false → HoldR l P E y Q σ) : HoldR l P E (.cond c x y) Q σ := zFY hc ht hf
theorem zLx {id : Nat} {ops : List Oper} (h : q9 P ops (fun σ' _ => Q .normal σ') ops σ []) : Hold P E (.region id ops.toArray false) Q σ := zFa h
theorem zLl {id : Nat} {ops : List Oper} (h : q9 P ops (fun σ' _ => Q .normal σ') ops σ []) : HoldR l P E (.region id ops.toArray false) Q σ := zFa h
theorem zLs {id : Nat} {ops : List Oper} (hm : P.follows .mixedOrders = true) (he : J3 ops = true) (h : q9 P ops (fun σ' ts => I3 ops ts = true ∧ Q .normal σ') ops σ []) : Hold P E (.region id ops.toArray true) Q σ := zLZ hm he h
end
def zUy (m : List (Option Nat)) : Nat → Option (Option Nat) := fun k => m[k]?
mutual
def XpF (H : Nat → AObj) (m : List (Option Nat)) (ex : List Nat) : AV → AV → Prop
 | .any, _ => True
 | .ptr k off, .ptr o off' => m[k]? = some (some o) ∧ off = off'
 | .eptr k sz i off, .eptr o sz' i' off' => m[k]? = some (some o) ∧ sz = sz' ∧ i = i' ∧ off = off'
 | .own k sz off len, .own o sz' off' len' => m[k]? = some (some o) ∧ sz = sz' ∧ off = off' ∧ len = len'
 | .own k _ off len, .raw v => m[k]? = some none ∧ off = 0 ∧ len = 0 ∧ v = .slice none 0 0
 | .mp k, .mp o => m[k]? = some (some o)
 | .yld k, .yld o => m[k]? = some (some o)
 | .ifp t k off, .ifp t' o off' => m[k]? = some (some o) ∧ t = t' ∧ off = off'
 | .raw v, .raw v' => v = v'
 | .list xs, .list ys => xs = ys
 | .list xs, .own o sz off len => o ∈ ex ∧ (match H o with
  | .row sz' zs => sz' = sz ∧ off + len ≤ zs.length ∧ xs = (zs.drop off).take len
  | .box cs => sz = 1 ∧ off = 0 ∧ len = cs.length ∧ (∀ x, x ∈ xs → R7 x = true) ∧ (xs = cs ∨ XpL H m ex xs cs)
  | _ => False)
 | .fmap ks xs, .fmap ks' xs' => ks = ks' ∧ xs = xs'
 | .fmap ks xs, .mp o => o ∈ ex ∧ (match H o with
  | .mapo ks' xs' => MPerm ks xs ks' xs'
  | _ => False)
 | .fmap ks xs, .raw v => ks = [] ∧ xs = [] ∧ v = .map none
 | .list xs, .raw v => xs = [] ∧ v = .slice none 0 0
 | .ifc t x, .ifc t' y => t = t' ∧ x = y
 | .clp xs, .clp ys => xs = ys
 | .list xs, .clp ys => xs = ys
 | .elt x, .elt y => x = y
 | .agg cs, .agg ds => XpL H m ex cs ds
 | .tup cs, .tup ds => XpL H m ex cs ds
 | .fn f cs, .fn g ds => f = g ∧ XpL H m ex cs ds
 | _, _ => False
def XpL (H : Nat → AObj) (m : List (Option Nat)) (ex : List Nat) : List AV → List AV → Prop
 | [], [] => True
 | x :: xs, y :: ys => XpF H m ex x y ∧ XpL H m ex xs ys
 | _, _ => False
end
mutual
theorem XpF.sound {H : Nat → AObj} {m : List (Option Nat)} {ex : List Nat} : ∀ {x y : AV}, XpF H m ex x y → Xp H (zUy m) (· ∈ ex) x y
 | .any, y, _ => .any y
 | .ptr k off, .ptr o off', h => by simp only [XpF] at h; obtain ⟨h1, rfl⟩ := h; exact .ptr _ _ _ h1
 | .eptr k sz i off, .eptr o sz' i' off', h => by simp only [XpF] at h; obtain ⟨h1, rfl, rfl, rfl⟩ := h; exact .eptr _ _ _ _ _ h1
 | .own k sz off len, .own o sz' off' len', h => by simp only [XpF] at h; obtain ⟨h1, rfl, rfl, rfl⟩ := h; exact .own _ _ _ _ _ h1
 | .own k sz off len, .raw v, h => by simp only [XpF] at h; obtain ⟨h1, rfl, rfl, rfl⟩ := h; exact .nil _ _ h1
 | .mp k, .mp o, h => by simp only [XpF] at h; exact .mp _ _ h
 | .yld k, .yld o, h => by simp only [XpF] at h; exact .yld _ _ h
 | .ifp t k off, .ifp t' o off', h => by simp only [XpF] at h; obtain ⟨h1, rfl, rfl⟩ := h; exact .ifp _ _ _ _ h1
 | .raw v, .raw v', h => by simp only [XpF] at h; subst h; exact .same _ (.raw _)
 | .list xs, .list ys, h => by simp only [XpF] at h; subst h; exact .same _ (.list _)
 | .ifc t x, .ifc t' y, h => by simp only [XpF] at h; obtain ⟨rfl, rfl⟩ := h; exact .same _ (.ifc _ _)
 | .clp xs, .clp ys, h => by simp only [XpF] at h; subst h; exact .same _ (.clp _)
 | .list xs, .clp ys, h => by simp only [XpF] at h; subst h; exact .clpl _
 | .list xs, .own o sz off len, h => by
  simp only [XpF] at h
  obtain ⟨h1, h⟩ := h
  generalize hA : H o = A at h
  cases A with
  | row sz' zs => obtain ⟨rfl, h3, rfl⟩ := h; exact .froz _ _ _ _ _ hA h1 h3
  | box cs =>
   obtain ⟨rfl, rfl, rfl, hf, h⟩ := h
   rcases h with rfl | h
   ·exact .frozb o 0 _ xs xs hA h1 (by omega) rfl rfl (fun x hx => zAg (hf x hx)) (fun i hi hi' => .same _ (zAg (hf _ (List.getElem_mem hi))).1)
   ·obtain ⟨h3, h4⟩ := XpL.sound h
    exact .frozb o 0 _ cs xs hA h1 (by omega) rfl h3 (fun x hx => zAg (hf x hx)) h4
  | _ => exact h.elim
 | .fmap ks xs, .fmap ks' xs', h => by simp only [XpF] at h; obtain ⟨rfl, rfl⟩ := h; exact .same _ (.fmap _ _)
 | .fmap ks xs, .mp o, h => by
  simp only [XpF] at h
  obtain ⟨h1, h⟩ := h
  generalize hA : H o = A at h
  cases A with
  | mapo ks' xs' => exact .frozm o _ _ _ _ hA h1 h
  | _ => exact h.elim
 | .fmap ks xs, .raw v, h => by simp only [XpF] at h; obtain ⟨rfl, rfl, rfl⟩ := h; exact .nmapl
 | .list xs, .raw v, h => by simp only [XpF] at h; obtain ⟨rfl, rfl⟩ := h; exact .nill
 | .elt x, .elt y, h => by simp only [XpF] at h; subst h; exact .same _ (.elt _)
 | .agg cs, .agg ds, h => by simp only [XpF] at h; obtain ⟨h1, h2⟩ := XpL.sound h; exact .agg _ _ h1 h2
 | .tup cs, .tup ds, h => by simp only [XpF] at h; obtain ⟨h1, h2⟩ := XpL.sound h; exact .tup _ _ h1 h2
 | .fn f cs, .fn g ds, h => by simp only [XpF] at h; obtain ⟨rfl, h⟩ := h; obtain ⟨h1, h2⟩ := XpL.sound h; exact .fn _ _ _ h1 h2
theorem XpL.sound {H : Nat → AObj} {m : List (Option Nat)} {ex : List Nat} : ∀ {xs ys : List AV}, XpL H m ex xs ys → xs.length = ys.length ∧ ∀ i (h : i < xs.length) (h' : i < ys.length), Xp H (zUy m) (· ∈ ex) xs[i] ys[i]
 | [], [], _ => ⟨rfl, fun i h => by simp at h⟩
 | x :: xs, y :: ys, h => by
  simp only [XpL] at h
  obtain ⟨h1, h2⟩ := h
  obtain ⟨h3, h4⟩ := XpL.sound h2
  refine ⟨by simp [h3], fun i hi hi' => ?_⟩
  cases i with
  | zero => exact XpF.sound h1
  | succ i => simp only [List.getElem_cons_succ]; exact h4 i _ _
end
theorem XpL.all2 {H : Nat → AObj} {m : List (Option Nat)} {ex : List Nat} : ∀ {xs ys : List AV}, XpL H m ex xs ys → All2 (Xp H (zUy m) (· ∈ ex)) xs ys
 | [], [], _ => .nil
 | x :: xs, y :: ys, h => by
  simp only [XpL] at h
  exact .cons (XpF.sound h.1) (XpL.all2 h.2)
theorem XpF.refl {H : Nat → AObj} {m : List (Option Nat)} {ex : List Nat} : ∀ {x : AV}, Pure x → XpF H m ex x x := by
 intro x h
 induction h with
 | any => simp only [XpF]
 | raw v => simp only [XpF]
 | list xs => simp only [XpF]
 | elt x => simp only [XpF]
 | fmap ks xs => simp [XpF]
 | ifc t x => simp [XpF]
 | clp xs => simp only [XpF]
 | agg cs _ ih =>
  simp only [XpF]
  have : ∀ l : List AV, (∀ c, c ∈ l → XpF H m ex c c) → XpL H m ex l l := fun l => by
   induction l with
   | nil => exact fun _ => by simp only [XpL]
   | cons c l ihl => exact fun h => by simp only [XpL]; exact ⟨h c (by simp), ihl (fun d hd => h d (by simp [hd]))⟩
  exact this cs ih
def envG (H : Nat → AObj) (m : List (Option Nat)) (ex : List Nat) (env' : List (Nat × AV)) : List (Nat × AV) → Prop
 | [] => True
 | (t, x) :: r => XpF H m ex x (lkV env' t) ∧ envG H m ex env' r
theorem envG.sound {H : Nat → AObj} {m : List (Option Nat)} {ex : List Nat} {env' : List (Nat × AV)} : ∀ {env : List (Nat × AV)}, envG H m ex env' env → ∀ t, Xp H (zUy m) (· ∈ ex) (lkV env t) (lkV env' t)
 | [], _, t => .any _
 | (k, x) :: r, h, t => by
  simp only [lkV]
  split
  ·rename_i e; subst e; exact XpF.sound h.1
  ·exact envG.sound h.2 t
def OXpF (H : Nat → AObj) (m : List (Option Nat)) (ex : List Nat) : AObj → AObj → Prop
 | .dead, _ => True
 | .box cs, .box ds => XpL H m ex cs ds
 | .row s xs, .row s' ys => s = s' ∧ xs = ys
 | .mapo ks xs, .mapo ks' xs' => ks = ks' ∧ xs = xs'
 | .iter c ks xs, .iter c' ks' xs' => c = c' ∧ ks = ks' ∧ xs = xs'
 | .siter s p, .siter s' p' => s = s' ∧ p = p'
 | .brow e l, .brow e' l' => e = e' ∧ l = l'
 | .tbox e cs, .tbox e' ds => e = e' ∧ XpL H m ex cs ds
 | .loopo L env p, .loopo L' env' p' => L = L' ∧ p = p' ∧ envG H m ex env' env
 | _, _ => False
theorem OXpF.sound {H : Nat → AObj} {m : List (Option Nat)} {ex : List Nat} {A B : AObj} (h : OXpF H m ex A B) : OXp H (zUy m) (· ∈ ex) A B := by
 cases A <;> cases B <;> first | exact h | exact h.elim | exact XpL.sound h | exact ⟨h.1, XpL.sound h.2⟩ | exact ⟨h.1, h.2.1, h.2.2.sound⟩
def envF (σ : AS) (m : List (Option Nat)) (ex : List Nat) : List (Nat × AV) → Prop
 | [] => True
 | (t, x) :: r => XpF σ.obj m ex x (σ.get t) ∧ envF σ m ex r
def objsF (σ : AS) (m : List (Option Nat)) (ex : List Nat) : List AObj → List (Option Nat) → Prop
 | [], [] => True
 | A :: r, some o :: r' => OXpF σ.obj m ex A (σ.obj o) ∧ objsF σ m ex r r'
 | A :: r, none :: r' => ((∃ s, 0 < s ∧ A = .row s []) ∨ A = .box [] ∨ ∃ e, A = .brow e []) ∧ objsF σ m ex r r'
 | _, _ => False
theorem envF.sound {σ : AS} {m : List (Option Nat)} {ex : List Nat} : ∀ {env : List (Nat × AV)}, envF σ m ex env → ∀ t, Xp σ.obj (zUy m) (· ∈ ex) (lkV env t) (σ.get t)
 | [], _, t => .any _
 | (k, x) :: r, h, t => by
  simp only [lkV]
  split
  ·rename_i e; subst e; exact XpF.sound h.1
  ·exact envF.sound h.2 t
theorem objsF.sound {σ : AS} {m0 : List (Option Nat)} {ex : List Nat} : ∀ {As : List AObj} {m : List (Option Nat)}, objsF σ m0 ex As m → As.length = m.length ∧ ∀ k (h : k < As.length) (h' : k < m.length), match m[k] with
  | none => (∃ s, 0 < s ∧ As[k] = .row s []) ∨ As[k] = .box [] ∨ ∃ e, As[k] = .brow e []
  | some o => OXp σ.obj (zUy m0) (· ∈ ex) As[k] (σ.obj o)
 | [], [], _ => ⟨rfl, fun k h => by simp at h⟩
 | A :: r, some o :: r', h => by
  obtain ⟨h1, h2⟩ := objsF.sound h.2
  refine ⟨by simp [h1], fun k hk hk' => ?_⟩
  cases k with
  | zero => exact OXpF.sound h.1
  | succ k => simp only [List.getElem_cons_succ]; exact h2 k _ _
 | A :: r, none :: r', h => by
  obtain ⟨h1, h2⟩ := objsF.sound h.2
  refine ⟨by simp [h1], fun k hk hk' => ?_⟩
  cases k with
  | zero => exact h.1
  | succ k => simp only [List.getElem_cons_succ]; exact h2 k _ _
def P3 : List (Option Nat) → Bool
 | [] => true
 | none :: r => P3 r
 | some o :: r => !r.contains (some o) && P3 r
theorem zGU : ∀ {m : List (Option Nat)}, P3 m = true → ∀ (k k' o : Nat), m[k]? = some (some o) → m[k']? = some (some o) → k = k'
 | [], _, k, k', o, h, _ => by simp at h
 | x :: r, hb, k, k', o, h, h' => by
  have hr : P3 r = true := by cases x <;> simp_all [P3]
  have hno : x = some o → (some o) ∉ r := fun e => by subst e; simp [P3] at hb; exact hb.1
  cases k with
  | zero =>
   cases k' with
   | zero => rfl
   | succ k' => simp at h h'; exact absurd (List.mem_of_getElem? h') (hno h)
  | succ k =>
   cases k' with
   | zero => simp at h h'; exact absurd (List.mem_of_getElem? h) (hno h')
   | succ k' => simp at h h'; rw [zGU hr k k' o h h']
def L0 : List AObj → List (Option Nat) → List (Option Nat)
 | A :: r, x :: m => (if A.live = true then x else none) :: L0 r m
 | _, m => m
theorem zDB : ∀ {As : List AObj} {m : List (Option Nat)} {k o : Nat} (h : k < As.length), (As[k]).live = true → m[k]? = some (some o) → (L0 As m)[k]? = some (some o)
 | A :: r, [], k, o, h, hl, e => by simp at e
 | A :: r, x :: m, 0, o, h, hl, e => by
  simp only [List.getElem_cons_zero] at hl
  simp only [L0, hl, if_true]; simpa using e
 | A :: r, x :: m, k + 1, o, h, hl, e => by
  simp only [List.getElem_cons_succ] at hl
  simp only [L0, List.getElem?_cons_succ] at e ⊢
  exact zDB (by simpa using h) hl e
def Weak (n : Nat) (m : List (Option Nat)) (ex : List Nat) (σ : AS) (N : Nat) (env : List (Nat × AV)) (As : List AObj) : Prop :=
 N = σ.n ∧ envF σ m ex env ∧ objsF σ m ex As m ∧ P3 (L0 As m) = true ∧ ex.all (fun o => !m.contains (some o)) = true ∧ (List.range n).all (fun k => m[k]? == some (some k)) = true
theorem Weak.wk {n : Nat} {m : List (Option Nat)} {ex : List Nat} {σ : AS} {N : Nat} {env : List (Nat × AV)} {As : List AObj} (h : Weak n m ex σ N env As) :
  WK (zUy m) (· ∈ ex) σ ⟨N, env, zUS 0 As⟩ ∧ ∀ k, k < n → zUy m k = some (some k) := by
 obtain ⟨h0, h1, h2, h3, h4, h5⟩ := h
 obtain ⟨g1, g2⟩ := h2.sound
 have hob : ∀ k, (⟨N, env, zUS 0 As⟩ : AS).obj k = As.getD k .unb := fun k => by
  show lkO (zUS 0 As) k = _
  rw [zDC]; simp
 have hlv : ∀ k, ((⟨N, env, zUS 0 As⟩ : AS).obj k).live = true → ∃ h : k < As.length, (As[k]).live = true := fun k hk => by
  rw [hob] at hk
  rcases Nat.lt_or_ge k As.length with h | h
  ·exact ⟨h, by rwa [w4 h] at hk⟩
  ·rw [List.getD, List.getElem?_eq_none h] at hk; simp [AObj.live] at hk
 refine ⟨⟨fun o k ho e => ?_, fun t => h1.sound t, fun k => ?_, fun k k' o hl hl' e e' => ?_⟩, fun k hk => ?_⟩
 case refine_3 =>
  obtain ⟨q1, q2⟩ := hlv k hl
  obtain ⟨q1', q2'⟩ := hlv k' hl'
  exact zGU h3 k k' o (zDB q1 q2 e) (zDB q1' q2' e')
 ·rw [List.all_eq_true] at h4
  have := h4 o ho
  have hm : some o ∈ m := List.mem_of_getElem? e
  simp at this; exact (this hm).elim
 ·rw [hob]
  unfold zUy
  by_cases hk : k < m.length
  ·have hk' : k < As.length := by omega
   have := g2 k hk' hk
   rw [List.getElem?_eq_getElem hk, w4 hk']
   cases hmk : m[k] with
   | none => rw [hmk] at this; exact .inr this
   | some o => rw [hmk] at this; exact this
  ·rw [List.getElem?_eq_none (by omega)]
   left
   rw [List.getD, List.getElem?_eq_none (by omega)]; rfl
 ·rw [List.all_eq_true] at h5
  have := h5 k (by simpa using hk)
  unfold zUy
  simpa using this
theorem zFd {ρ : Option Nat} {P : Program} {E : Env} {c : Code} {Q : Exit → AS → Prop} {σ : AS} (m : List (Option Nat)) (ex : List Nat) {N : Nat} {env : List (Nat × AV)} {As : List AObj} (hw : Weak E.n m ex σ N env As) (h : HoldG ρ P E c Q ⟨N, env, zUS 0 As⟩) : HoldG ρ P E c Q σ :=
 fun a w γ hs => h a w γ (hs.wk hw.wk.1 hw.1 hw.wk.2)
theorem zLb {ρ : Option Nat} {P : Program} {E : Env} {c : Code} {Q : Exit → AS → Prop} {σ : AS} (Inv : Nat → Nat → List (Nat × AV) → List AObj → Prop) (n : Nat)
  (h0 : ∃ m ex N env As, Weak E.n m ex σ N env As ∧ Inv n N env As)
  (h : ∀ n N env As, Inv n N env As → HoldG ρ P E c (z6 (fun σ' => ∃ n', n' < n ∧ ∃ m ex N env As, Weak E.n m ex σ' N env As ∧ Inv n' N env As) Q) ⟨N, env, zUS 0 As⟩) : HoldG ρ P E (.loop c) Q σ := by
 obtain ⟨m, ex, N, env, As, hw, hi⟩ := h0
 refine zFd m ex hw ?_
 intro a w γ hs
 refine zRZ (fun n a w γ => ∃ N env As, Inv n N env As ∧ St E ⟨N, env, zUS 0 As⟩ a w γ) n ⟨N, env, As, hi, hs⟩ (fun n a w w₁ γ ⟨N, env, As, h1, h2⟩ hr => ⟨N, env, As, h1, h2.rely hr⟩) ?_
 rintro n a w γ ⟨N, env, As, h1, h2⟩
 refine M2 (h n N env As h1 a w γ h2) ?_
 rintro e a w γ ⟨σ', h3, h4⟩
 cases e with
 | normal =>
  obtain ⟨n', h5, m', ex', N', env', As', h6, h7⟩ := h3
  exact ⟨n', h5, N', env', As', h7, h4.wk h6.wk.1 h6.1 h6.wk.2⟩
 | _ => exact ⟨σ', h3, h4⟩
theorem X5 {P : Program} {E : Env} {c : Code} {Q : Exit → AS → Prop} {σ : AS} (m : List (Option Nat)) (ex : List Nat) {N : Nat} {env : List (Nat × AV)} {As : List AObj} (hw : Weak E.n m ex σ N env As) (h : Hold P E c Q ⟨N, env, zUS 0 As⟩) : Hold P E c Q σ := zFd m ex hw h
theorem zLv {P : Program} {E : Env} {c : Code} {Q : Exit → AS → Prop} {σ : AS} (Inv : Nat → Nat → List (Nat × AV) → List AObj → Prop) (n : Nat)
  (h0 : ∃ m ex N env As, Weak E.n m ex σ N env As ∧ Inv n N env As)
  (h : ∀ n N env As, Inv n N env As → Hold P E c (z6 (fun σ' => ∃ n', n' < n ∧ ∃ m ex N env As, Weak E.n m ex σ' N env As ∧ Inv n' N env As) Q) ⟨N, env, zUS 0 As⟩) : Hold P E (.loop c) Q σ := zLb Inv n h0 h
def W0 (P : Program) (σ : AS) : ResultVar → AV → Prop
 | .tmp t, x => x = σ.get t
 | .cell a t, x => P0 P t (σ.get a) σ.obj (fun v _ _ => x = v)
def zAt (P : Program) (σ : AS) : List ResultVar → List AV → Prop
 | [], [] => True
 | v :: vs, x :: xs => W0 P σ v x ∧ zAt P σ vs xs
 | _, _ => False
def Q9 : List AV → AV
 | [x] => x
 | xs => .tup xs
def L6 (tmps : Array Value) : ResultVar → Sem Value
 | .tmp t => pure (tmps.getD t undef)
 | .cell b t => do loadVar t (← asAddr (tmps.getD b undef))
theorem zBn (fn : Func) (tmps : Array Value) : results fn tmps = (do let vs ← fn.results.mapM (L6 tmps); pure (if h : vs.size = 1 then vs[0] else .tuple vs)) := rfl
theorem zGj {P : Program} {E : Env} {I : Nat → Prop} {loc : Nat → Loc} {σ : AS} {a : Act} {w : World} (hs : SR E I loc σ a w) : ∀ {vs : List ResultVar} {xs : List AV}, zAt P σ vs xs →
  ∃ us : List Value, (vs.mapM (L6 a.tmps)).run P w = .ok us w ∧ Ev P (p7 I loc σ a w) w.heap.size (vs.mapM (L6 a.tmps)) w ∧ xs.length = us.length ∧ ∀ i (h : i < xs.length) (h' : i < us.length), VR w I loc xs[i] us[i]
 | [], [], _ => ⟨[], by simp, fun es he => by simpa using he, rfl, fun i h => by simp at h⟩
 | v :: vs, x :: xs, h => by
  obtain ⟨us, h1, h4, h2, h3⟩ := zGj hs h.2
  have hone : ∃ u, (L6 a.tmps v).run P w = .ok u w ∧ Ev P (p7 I loc σ a w) w.heap.size (L6 a.tmps v) w ∧ VR w I loc x u := by
   have h0 := h.1
   cases v with
   | tmp t => simp only [W0] at h0; subst h0; exact ⟨_, rfl, fun es he => he, hs.tmps t⟩
   | cell b t =>
    simp only [W0] at h0
    obtain ⟨v, rd, y, hK, hr, hv⟩ := zF7 (P := P) hs (hs.tmps b) h0
    subst hK
    have hp : ∃ ad, a.tmps.getD b undef = .pointer (some ad) := by
     have hb := hs.tmps b
     generalize a.tmps.getD b undef = u at *
     generalize σ.get b = s at *
     unfold P0 at h0
     cases s with
     | ptr => cases hb with
      | pure hb => cases hb
      | ptr => exact ⟨_, rfl⟩
     | eptr => cases hb with
      | pure hb => cases hb
      | eptr => exact ⟨_, rfl⟩
     | elt => cases hb with
      | pure hb => cases hb; exact ⟨_, rfl⟩
     | _ => exact h0.elim
    obtain ⟨ad, hp⟩ := hp
    have hvr := hs.tmps b
    have hev := zMb hs (by rw [← hp]; exact hvr) h0
    rw [hp] at hr
    refine ⟨y, ?_, ?_, hv⟩
    ·simp only [L6, hp]
     simpa [Instr.loadAt, Instr.sureAddr, asAddr] using hr
    ·intro es he
     simp only [L6, hp, asAddr]
     simpa using hev es he
  obtain ⟨u, g1, g4, g2⟩ := hone
  refine ⟨u :: us, ?_, ?_, by simp [h2], fun i hi hi' => ?_⟩
  ·rw [List.mapM_cons, Sem.run_bind, g1, Result.andThen_ok, Sem.run_bind, h1]
   rfl
  ·intro es he
   rw [List.mapM_cons, Sem.events_bind, g1, Result.evThen_ok, Sem.events_bind, h1, Result.evThen_ok]
   exact h4 _ (g4 es he)
  ·cases i with
   | zero => exact g2
   | succ i => simp only [List.getElem_cons_succ]; exact h3 i _ _
theorem zDV {P : Program} {E : Env} {I : Nat → Prop} {loc : Nat → Loc} {σ : AS} {a : Act} {w : World} (hs : SR E I loc σ a w) {fn : Func} {xs : List AV} (h : zAt P σ fn.results.toList xs) :
  ∃ v, (results fn a.tmps).run P w = .ok v w ∧ EvsOK ⟨hereFp loc σ a, I, none⟩ w.heap.size ((results fn a.tmps).events P w #[]) ∧ VR w I loc (Q9 xs) v := by
 obtain ⟨us, h1, h4, h2, h3⟩ := zGj (P := P) hs h
 have e4 : fn.results = fn.results.toList.toArray := by simp
 have hrun : (results fn a.tmps).run P w = .ok (if h : us.toArray.size = 1 then us.toArray[0] else .tuple us.toArray) w := by
  rw [zBn, Sem.run_bind]
  rw [e4, List.mapM_toArray]
  simp only [Sem.run_map, h1, Result.andThen_ok, Sem.run_pure]
 have hevs : EvsOK ⟨hereFp loc σ a, I, none⟩ w.heap.size ((results fn a.tmps).events P w #[]) := by
  rw [zBn, Sem.events_bind]
  rw [e4, List.mapM_toArray]
  simp only [Sem.run_map, h1, Result.andThen_ok, Sem.run_pure, Result.evThen_ok, Sem.events_pure, Sem.events_map]
  exact zAe (h4 #[] .nil)
 refine ⟨_, hrun, hevs, ?_⟩
 cases xs with
 | nil =>
  have : us = [] := List.eq_nil_of_length_eq_zero (by simpa using h2.symm)
  subst this
  exact .tup [] #[] rfl (fun i h => by simp at h)
 | cons x xs =>
  cases xs with
  | nil =>
   have hl : us.length = 1 := by simpa using h2.symm
   rw [dif_pos (by simpa using hl)]
   have := h3 0 (by simp) (by omega)
   simpa [Q9] using this
  | cons y ys =>
   have hl : us.length ≠ 1 := by simp at h2; omega
   rw [dif_neg (by simpa using hl)]
   refine .tup _ us.toArray (by simpa using h2) (fun i hi hi' => ?_)
   simpa using h3 i hi (by simpa using hi')
def zUg : Nat → List AV → List (Nat × AV)
 | _, [] => []
 | k, x :: r => (k, x) :: zUg (k + 1) r
theorem zAl (k0 : Nat) : ∀ (xs : List AV) (k : Nat), lkV (zUg k0 xs) k = if k < k0 then .any else xs.getD (k - k0) .any
 | [], k => by simp [zUg, lkV]
 | A :: r, k => by
  simp only [zUg, lkV, zAl (k0 + 1) r k]
  by_cases h : k0 = k
  ·subst h; simp
  ·rw [if_neg h]
   by_cases h1 : k < k0
   ·rw [if_pos (by omega), if_pos h1]
   ·rw [if_neg (by omega), if_neg h1]
    have e : k - k0 = (k - (k0 + 1)) + 1 := by omega
    rw [e]; simp
def G6 (P : Program) (fn : Func) (n : Nat) (r : AV) (out : List AObj) (σ : AS) : Prop :=
 ∃ xs m ex, zAt P σ fn.results.toList xs ∧ XpF σ.obj m ex r (Q9 xs) ∧ objsF σ m ex out m ∧ P3 (L0 out m) = true ∧ ex.all (fun o => !m.contains (some o)) = true ∧ (List.range n).all (fun k => m[k]? == some (some k)) = true
theorem E7 {w : World} {r b : Nat} {o : Obj} (h : b ≠ r) : (w.putObj r o).heap[b]? = w.heap[b]? := World.putObj_heap_other h
theorem SR.shut {E : Env} {I : Nat → Prop} {loc : Nat → Loc} {σ : AS} {a : Act} {w : World} (h : SR E I loc σ a w) {d : Deferred} {ds : List Deferred} (hd : a.defers = (d :: ds) ++ E.ds) :
  ∃ r, d = { target := .collected r, args := #[] } ∧ w.heap[r]? = some (.deferred (some [])) ∧ SR E I loc σ { a with defers := ds ++ E.ds } (w.putObj r (.deferred none)) := by
 obtain ⟨ms, h0, hE, hn, hm⟩ := h.defers
 rw [hd] at h0
 have h0 := List.append_cancel_right h0
 subst h0
 obtain ⟨r, rfl, h1, h2, h3, h4⟩ := hm d (by simp)
 have hI : ∀ b, I b → (w.putObj r (.deferred none)).heap[b]? = w.heap[b]? := fun b hb => E7 (fun e => h2 (e ▸ hb))
 refine ⟨r, rfl, h1, ⟨⟨ds, rfl, hE, ?_, fun d' hd' => ?_⟩, h.size, fun t => (h.tmps t).mono hI (fun _ x => x) (fun _ _ => rfl), fun o => (h.objs o).mono hI (fun _ x => x) (fun _ _ => rfl) (fun e => h.un e) (fun hl b c hb => E7 (fun e => h4 o c hl (e ▸ hb))), h.inj, fun b hb => by rw [World.putObj_size]; exact h.imm b hb, h.sep, ?_, h.base, h.top, h.keep⟩⟩
 ·simp only [List.map_cons, List.nodup_cons] at hn; exact hn.2
 ·obtain ⟨r', rfl, g1, g2, g3, g4⟩ := hm d' (by simp [hd'])
  refine ⟨r', rfl, ?_, g2, g3, g4⟩
  rw [E7]
  ·exact g1
  ·rintro rfl
   simp only [List.map_cons, List.nodup_cons] at hn
   exact hn.1 (List.mem_map.2 ⟨_, hd', rfl⟩)
 ·exact h.fr.of_same rfl rfl rfl (by simp) (fun b hb hf => E7 (fun e => hf (e ▸ h3 (e ▸ hb))))
theorem SG.shut {E : Env} {I : Nat → Prop} {γ : Gh} {loc : Nat → Loc} {σ : AS} {a : Act} {w : World} (h : SG E I γ loc σ a w) {d : Deferred} {ds : List Deferred} (hd : a.defers = (d :: ds) ++ E.ds) :
  ∃ r, d = { target := .collected r, args := #[] } ∧ w.heap[r]? = some (.deferred (some [])) ∧ γ.O r ∧ SG E I γ loc σ { a with defers := ds ++ E.ds } (w.putObj r (.deferred none)) := by
 obtain ⟨r', rfl, h2, h3⟩ := h.sr.shut hd
 exact ⟨r', rfl, h2, h.og.mark { target := .collected r', args := #[] } r' (by rw [hd]; simp) rfl, ⟨h3, ⟨⟨fun b hb => by rw [World.putObj_size]; exact h.og.wf.lt b hb, h.og.wf.apart⟩, h.og.rd, h.og.live, fun d r hm e => h.og.mark d r (by rw [hd]; exact List.mem_cons_of_mem _ hm) e, h.og.own, h.og.fro⟩⟩⟩
theorem zGF {P : Program} {E : Env} {f : FuncId} {kd : CallKind} {R : zUd} {σ : AS} {mode : FrameMode} (hm : mode ≠ .run) (hR : ∀ a w γ, St E σ a w γ → a.defers = E.ds → zUh (Cur.way P) kd f R mode a w γ) :
  ∀ (ms : List Deferred) (a : Act) (w : World) (γ : Gh), St E σ a w γ → a.defers = ms ++ E.ds → zUh (Cur.way P) kd f R mode a w γ
 | [], a, w, γ, h, e => hR a w γ h e
 | d :: ds, a, w, γ, h, e => by
  obtain ⟨I, loc, hs⟩ := h
  obtain ⟨r, rfl, _⟩ := hs.shut e
  refine zRJ (ds := ds ++ E.ds) hm e fun w₁ hr => ?_
  obtain ⟨r', h1, h2, h3, h4⟩ := (hs.rely hr).shut e
  simp only [Deferred.mk.injEq, Target.collected.injEq, and_true] at h1
  subst h1
  exact ⟨h2, h3, γ, .put hr.wf' h3 .nil, zGF hm hR ds { a with defers := ds ++ E.ds } _ γ ⟨I, loc, h4⟩ rfl⟩
theorem St.marks {E : Env} {σ : AS} {a : Act} {w : World} {γ : Gh} (h : St E σ a w γ) : ∃ ms, a.defers = ms ++ E.ds := by
 obtain ⟨I, loc, hs⟩ := h
 obtain ⟨ms, h0, _⟩ := hs.sr.defers
 exact ⟨ms, h0⟩
theorem zC6 {P : Program} {E : Env} {f : FuncId} {kd : CallKind} {R : zUd} {σ : AS} {mode : FrameMode} (hm : mode ≠ .run) (hR : ∀ a w γ, St E σ a w γ → a.defers = E.ds → zUh (Cur.way P) kd f R mode a w γ) {a : Act} {w : World} {γ : Gh} (h : St E σ a w γ) :
  zUh (Cur.way P) kd f R mode a w γ := let ⟨ms, e⟩ := h.marks; zGF hm hR ms a w γ h e
theorem zFz {P : Program} {E : Env} {f : FuncId} {fn : Func} {kd : CallKind} {R : zUd} {σ : AS} (hf : P.funcs[f]? = some fn) (hR : ∀ a w γ, St E σ a w γ → a.defers = [] → zB6 P fn a.tmps R w γ)
  (ds : List Deferred) (a : Act) (w : World) (γ : Gh) (h : St E σ a w γ) (_e : a.defers = ds) (he : E.ds = [] := by rfl) : zUh (Cur.way P) kd f R .returning a w γ :=
 zC6 (by simp) (fun a w γ h e => zH2 hf (e.trans he) (hR a w γ h (e.trans he))) h
def C3 {T : Type} (P : Program) (f : FuncId) (args : List AV) (fp : List AObj) (r : T → AV) (out : T → List AObj) : Prop :=
 ∀ (w : World) (I : Nat → Prop) (γ : Gh) (loc : Nat → Loc) (vs : Array Value), SG (o6 w I γ fp.length loc) I γ loc (hs fp) P2 w → vs.size = args.length →
  (∀ i (h : i < args.length) (h' : i < vs.size), VR w I loc args[i] vs[i]) →
  U6 (Cur.way P) .normal f vs (fun e w' γ' => ∃ t v I' loc', e = .returned v ∧ Post w I γ loc fp.length (r t) (out t) v w' I' γ' loc') w γ
theorem zHX {T : Type} {P : Program} {f : FuncId} {fn : Func} {c : Code} {args : List AV} {fp : List AObj} {r : T → AV} {out : T → List AObj} (hf : P.funcs[f]? = some fn) (hb : fn.body = some c)
  (h : ∀ E : Env, E.n = fp.length → Hold P E c (fun e σ' => (e = .normal ∨ e = .ret) ∧ ∃ t, G6 P fn fp.length (r t) (out t) σ') ⟨args.length + (fn.ntmps - args.length), zUg 0 args, zUS 0 fp⟩) : C3 P f args fp r out := by
 intro w I γ loc vs hs hl hv
 refine zCQ hf hb ?_
 have hst : SG (o6 w I γ fp.length loc) I γ loc ⟨args.length + (fn.ntmps - args.length), zUg 0 args, zUS 0 fp⟩ { tmps := vs ++ Array.replicate (fn.ntmps - vs.size) undef, defers := [] } w := by
  refine ⟨⟨.nil, by simp [hl], fun t => ?_, hs.sr.objs, hs.sr.inj, hs.sr.imm, hs.sr.sep, hs.sr.fr, hs.sr.base, hs.sr.top, hs.sr.keep⟩, ⟨hs.og.wf, hs.og.rd, hs.og.live, fun d r hd => by simp at hd, hs.og.own, hs.og.fro⟩⟩
  show VR w I loc (lkV (zUg 0 args) t) _
  rw [zAl]
  simp only [Nat.not_lt_zero, if_false, Nat.sub_zero]
  by_cases ht : t < args.length
  ·rw [w4 ht]
   have ht' : t < vs.size := by omega
   have e : (vs ++ Array.replicate (fn.ntmps - vs.size) undef).getD t undef = vs[t] := by
    simp [Array.getElem?_append_left ht', ht']
   rw [e]; exact hv t ht ht'
  ·rw [List.getD, List.getElem?_eq_none (by omega)]; exact .pure (.any _)
 refine M2 (h (o6 w I γ fp.length loc) rfl _ w γ ⟨I, loc, hst⟩) ?_
 rintro e a w' γ' ⟨σ', ⟨he, t, xs, m, ex, h1, h2, h3, h4, h5, h6⟩, hs'⟩
 have hweak : Weak fp.length m ex σ' σ'.n [] (out t) := ⟨rfl, trivial, h3, h4, h5, h6⟩
 have hlen : fp.length ≤ (out t).length := by
  have h7 := (h3.sound).1
  rcases Nat.eq_zero_or_pos fp.length with h0 | h0
  ·omega
  ·rw [List.all_eq_true] at h6
   have := h6 (fp.length - 1) (by simp; omega)
   have hm : m[fp.length - 1]? = some (some (fp.length - 1)) := by simpa using this
   have := (List.getElem?_eq_some_iff.1 hm).1
   omega
 have key := zFz (P := P) (E := o6 w I γ fp.length loc) (f := f) (fn := fn) (kd := .normal) (R := fun e w' γ' => ∃ t v I' loc', e = .returned v ∧ Post w I γ loc fp.length (r t) (out t) v w' I' γ' loc') (σ := σ') hf (fun a w' γ' hs' _ w₁ hr => by
  obtain ⟨I', loc', hs'⟩ := hs'.rely hr
  obtain ⟨v, hrun, hev, hvr⟩ := zDV hs'.sr h1
  have hsr := hs'.wk hweak.wk.1 rfl hweak.wk.2
  have hval := Xp.sound hs'.sr (XpF.sound h2) hvr
  exact ⟨v, hrun, fun e he => (hev e he).mono (fun b => hereFp.own hs'.og) hs'.og.rd, fun w₂ hr2 => ⟨t, v, _, _, rfl, ⟨(hsr.rely hr2).bare, hval.mono (fun b hb => hr2.block b (hsr.og.rd b hb)) (fun _ x => x) (fun _ _ => rfl), hlen⟩⟩⟩) a.defers a w' γ' hs' rfl
 rcases he with rfl | rfl
 ·exact key
 ·exact key
theorem zQM {P : Program} {f : FuncId} {fn : Func} {c : Code} {args : List AV} {fp : List AObj} {r : AV} {out : List AObj} (hf : P.funcs[f]? = some fn) (hb : fn.body = some c)
  (h : ∀ E : Env, E.n = fp.length → Hold P E c (fun e σ' => (e = .normal ∨ e = .ret) ∧ G6 P fn fp.length r out σ') ⟨args.length + (fn.ntmps - args.length), zUg 0 args, zUS 0 fp⟩) : zUL P f args fp r out := by
 have := zHX (T := Unit) (args := args) (fp := fp) (r := fun _ => r) (out := fun _ => out) hf hb (fun E hE => (h E hE).mono (fun e σ ⟨h1, h2⟩ => ⟨h1, (), h2⟩))
 intro w I γ loc vs hs hl hv
 exact R6 (this w I γ loc vs hs hl hv) (fun e w' γ' ⟨_, h⟩ => h)
end Go.Abs

namespace Go.Abs
open Go
def zBj (A : AObj) (F : Nat → List AV → Prop) : Prop := match A with
 | .row s xs => F s xs
 | _ => False
def zDK (A : AObj) (F : List AV → Prop) : Prop := match A with
 | .box cs => F cs
 | _ => False
def zVZ (A : AObj) (sz sz' off len : Nat) (F : List AV → Prop) : Prop := match A with
 | .row sz'' xs => sz' = sz ∧ sz'' = sz ∧ off + len ≤ xs.length ∧ F ((xs.drop off).take len)
 | .box cs => sz' = 1 ∧ sz = 1 ∧ off + len ≤ cs.length ∧ (∀ y, y ∈ (cs.drop off).take len → y.one = true) ∧ F ((cs.drop off).take len)
 | _ => False
def zAA (H : Nat → AObj) (sz : Nat) (x : AV) (F : List AV → List Nat → Prop) : Prop := match x with
 | .list ys => F ys []
 | .own o sz' off len => zVZ (H o) sz sz' off len fun ys => F ys [o]
 | .raw (.slice _ 0 _) => F [] []
 | _ => False
def zVf (sz by_ : Nat) (s : AV) (ys : List AV) (rd : List Nat) (H : Nat → AObj) (nx : Nat) (K : Cont) : Prop := match s with
  | .own o sz' 0 len => zBj (H o) fun sz'' xs => sz' = sz ∧ sz'' = sz ∧ len = xs.length ∧ H nx = .unb ∧ (len + ys.length) * by_ ≤ 140737488355328 ∧ len + ys.length ≤ 9223372036854775807 ∧
      K (.own nx sz 0 (len + ys.length)) (o :: nx :: rd) [(o, .dead), (nx, .row sz (xs ++ ys))]
  | .raw (.slice none 0 0) => H nx = .unb ∧ ys.length * by_ ≤ 140737488355328 ∧ ys.length ≤ 9223372036854775807 ∧ K (.own nx sz 0 ys.length) (nx :: rd) [(nx, .row sz ys)]
  | .clp xs => (∀ y, y ∈ xs → y.cells.length = sz) ∧ ys ≠ [] ∧ H nx = .unb ∧ (xs.length + ys.length) * by_ ≤ 140737488355328 ∧ xs.length + ys.length ≤ 9223372036854775807 ∧ K (.own nx sz 0 (xs.length + ys.length)) (nx :: rd) [(nx, .row sz (xs ++ ys))]
  | _ => False
def zV5 (by_ : Nat) (s : AV) (ys : List AV) (rd : List Nat) (H : Nat → AObj) (nx : Nat) (K : Cont) : Prop := match s with
  | .own o sz' 0 len => zDK (H o) fun cs => sz' = 1 ∧ len = cs.length ∧ H nx = .unb ∧ (len + ys.length) * by_ ≤ 140737488355328 ∧ len + ys.length ≤ 9223372036854775807 ∧
      K (.own nx 1 0 (len + ys.length)) (o :: nx :: rd) [(o, .dead), (nx, .box (cs ++ ys))]
  | .raw (.slice none 0 0) => H nx = .unb ∧ ys.length * by_ ≤ 140737488355328 ∧ ys.length ≤ 9223372036854775807 ∧ K (.own nx 1 0 ys.length) (nx :: rd) [(nx, .box ys)]
  | _ => False
def appR (sz by_ : Nat) (s x : AV) (H : Nat → AObj) (nx : Nat) (K : Cont) : Prop :=
 zAA H sz x fun ys rd => (∀ y, y ∈ ys → y.cells.length = sz ∧ y.cells.all AV.one = true) ∧ (∀ y, y ∈ ys → Pure y) ∧ zVf sz by_ s ys rd H nx K
theorem zM5 {H : Nat → AObj} {sz : Nat} {x : AV} {F : List AV → List Nat → Prop} : zAA H sz x F ↔ ∃ ys rd, l6 H sz x = some (ys, rd) ∧ F ys rd := by
 unfold zAA l6
 constructor
 ·intro h
  split at h
  ·exact ⟨_, _, rfl, h⟩
  ·rename_i o sz' off len
   unfold zVZ at h
   split at h
   ·rename_i s xs hA
    obtain ⟨rfl, rfl, h3, h4⟩ := h
    exact ⟨_, _, by simp only [hA]; rw [if_pos (by simp [h3])], h4⟩
   ·rename_i cs hA
    obtain ⟨rfl, rfl, h3, h4, h5⟩ := h
    exact ⟨_, _, by simp only [hA]; rw [if_pos (by simpa using ⟨h3, h4⟩)], h5⟩
   ·exact h.elim
  ·exact ⟨_, _, rfl, h⟩
  ·exact h.elim
 ·rintro ⟨ys, rd, h, hF⟩
  split at h
  ·cases h; exact hF
  ·rename_i o sz' off len
   simp only [zVZ]
   generalize H o = A at h
   cases A with
   | row s xs =>
    simp only at h
    by_cases hc : sz' = sz ∧ s = sz ∧ off + len ≤ xs.length
    ·rw [if_pos hc] at h; cases h; exact ⟨hc.1, hc.2.1, hc.2.2, hF⟩
    ·rw [if_neg hc] at h; cases h
   | box cs =>
    simp only at h
    by_cases hc : sz' = 1 ∧ sz = 1 ∧ off + len ≤ cs.length ∧ ((cs.drop off).take len).all AV.one = true
    ·rw [if_pos hc] at h; cases h; exact ⟨hc.1, hc.2.1, hc.2.2.1, List.all_eq_true.1 hc.2.2.2, hF⟩
    ·rw [if_neg hc] at h; cases h
   | _ => cases h
  ·cases h; exact hF
  ·cases h
theorem appendA_row {P : Program} {t e sz by_ : Nat} {z : Value} (h1 : sliceT P t = some e) (h2 : sizeT P e = some sz) (h3 : bytesT P e = some by_) (h4 : zeroT P e = some z) (h5 : zU8 z = false) (h6 : 0 < sz) (h7 : z.cells.size = sz)
    (s x : AV) (H : Nat → AObj) (nx : Nat) (K : Cont) : appendA P t s x H nx K = appR sz by_ s x H nx K := by
  have hz : ¬ zU8 z = true := by rw [h5]; simp
  have hS : ∀ ys rd, zVf sz by_ s ys rd H nx K ↔ (match s with
      | .own o sz' 0 len => (match H o with
        | .row sz'' xs => sz' = sz ∧ sz'' = sz ∧ len = xs.length ∧ H nx = .unb ∧ (len + ys.length) * by_ ≤ 140737488355328 ∧ len + ys.length ≤ 9223372036854775807 ∧
            K (.own nx sz 0 (len + ys.length)) (o :: nx :: rd) [(o, .dead), (nx, .row sz (xs ++ ys))]
        | _ => False)
      | .raw (.slice none 0 0) => H nx = .unb ∧ ys.length * by_ ≤ 140737488355328 ∧ ys.length ≤ 9223372036854775807 ∧ K (.own nx sz 0 ys.length) (nx :: rd) [(nx, .row sz ys)]
      | .clp xs => (∀ y, y ∈ xs → y.cells.length = sz) ∧ ys ≠ [] ∧ H nx = .unb ∧ (xs.length + ys.length) * by_ ≤ 140737488355328 ∧ xs.length + ys.length ≤ 9223372036854775807 ∧ K (.own nx sz 0 (xs.length + ys.length)) (nx :: rd) [(nx, .row sz (xs ++ ys))]
      | _ => False) := fun ys rd => by
    unfold zVf
    split
    · rename_i o sz' len
      unfold zBj
      generalize H o = A
      cases A <;> exact Iff.rfl
    · exact Iff.rfl
    · exact Iff.rfl
    · exact Iff.rfl
  unfold appendA appR
  rw [eq_iff_iff, zM5]
  simp only [h1, h2, h3, h4, Option.getD_some]
  cases l6 H sz x with
  | none => exact ⟨fun h => h.elim, fun ⟨_, _, h, _⟩ => by cases h⟩
  | some yr =>
    obtain ⟨ys, rd⟩ := yr
    simp only
    rw [if_neg hz]
    constructor
    · rintro ⟨_, _, g1, g2, g3⟩
      exact ⟨ys, rd, rfl, g1, g2, (hS ys rd).2 g3⟩
    · rintro ⟨ys', rd', e, g1, g2, g3⟩
      cases e
      exact ⟨h6, h7, g1, g2, (hS ys rd).1 g3⟩
section
variable {H : Nat → AObj} {sz by_ nx : Nat} {K : Cont}
@[go_sem] theorem zTh (s : Nat) (xs : List AV) (F : Nat → List AV → Prop) : zBj (.row s xs) F = F s xs := rfl
@[go_sem] theorem zTb (cs : List AV) (F : List AV → Prop) : zDK (.box cs) F = F cs := rfl
@[go_sem] theorem zTe (ys : List AV) (F : List AV → List Nat → Prop) : zAA H sz (.list ys) F = F ys [] := rfl
@[go_sem] theorem zTf (a : Option Addr) (c : Nat) (F : List AV → List Nat → Prop) : zAA H sz (.raw (.slice a 0 c)) F = F [] [] := rfl
@[go_sem] theorem zTd (sz sz' off len sz'' : Nat) (xs : List AV) (F : List AV → Prop) : zVZ (.row sz'' xs) sz sz' off len F = (sz' = sz ∧ sz'' = sz ∧ off + len ≤ xs.length ∧ F ((xs.drop off).take len)) := rfl
@[go_sem] theorem zTc (sz sz' off len : Nat) (cs : List AV) (F : List AV → Prop) : zVZ (.box cs) sz sz' off len F = (sz' = 1 ∧ sz = 1 ∧ off + len ≤ cs.length ∧ (∀ y, y ∈ (cs.drop off).take len → y.one = true) ∧ F ((cs.drop off).take len)) := rfl
@[go_sem] theorem zTg (o sz' off len : Nat) (F : List AV → List Nat → Prop) : zAA H sz (.own o sz' off len) F = zVZ (H o) sz sz' off len (fun ys => F ys [o]) := rfl
@[go_sem] theorem zSM (o sz' len : Nat) (ys : List AV) (rd : List Nat) : zVf sz by_ (.own o sz' 0 len) ys rd H nx K = zBj (H o) (fun sz'' xs => sz' = sz ∧ sz'' = sz ∧ len = xs.length ∧ H nx = .unb ∧ (len + ys.length) * by_ ≤ 140737488355328 ∧ len + ys.length ≤ 9223372036854775807 ∧
      K (.own nx sz 0 (len + ys.length)) (o :: nx :: rd) [(o, .dead), (nx, .row sz (xs ++ ys))]) := rfl
@[go_sem] theorem zSL (ys : List AV) (rd : List Nat) : zVf sz by_ (.raw (.slice none 0 0)) ys rd H nx K = (H nx = .unb ∧ ys.length * by_ ≤ 140737488355328 ∧ ys.length ≤ 9223372036854775807 ∧ K (.own nx sz 0 ys.length) (nx :: rd) [(nx, .row sz ys)]) := rfl
@[go_sem] theorem zSK (o sz' len : Nat) (ys : List AV) (rd : List Nat) : zV5 by_ (.own o sz' 0 len) ys rd H nx K = zDK (H o) (fun cs => sz' = 1 ∧ len = cs.length ∧ H nx = .unb ∧ (len + ys.length) * by_ ≤ 140737488355328 ∧ len + ys.length ≤ 9223372036854775807 ∧
      K (.own nx 1 0 (len + ys.length)) (o :: nx :: rd) [(o, .dead), (nx, .box (cs ++ ys))]) := rfl
@[go_sem] theorem zSJ (ys : List AV) (rd : List Nat) : zV5 by_ (.raw (.slice none 0 0)) ys rd H nx K = (H nx = .unb ∧ ys.length * by_ ≤ 140737488355328 ∧ ys.length ≤ 9223372036854775807 ∧ K (.own nx 1 0 ys.length) (nx :: rd) [(nx, .box ys)]) := rfl
end
attribute [go_sem] appR
def zVs (H : Nat → AObj) (n o sz off len : Nat) (A : AObj) : AV × List Nat := match A with
 | .row sz' xs => if sz' = sz ∧ off + len ≤ xs.length then (.list ((xs.drop off).take len), [o]) else (.own o sz off len, [])
 | .box cs => if sz = 1 ∧ off = 0 ∧ len = cs.length ∧ cs.all (fun c => R7 (zUO H n c).1) = true then (.list (cs.map fun c => (zUO H n c).1), o :: (cs.map fun c => (zUO H n c).2).flatten) else (.own o sz off len, [])
 | _ => (.own o sz off len, [])
def zV8 (o : Nat) (A : AObj) : AV × List Nat := match A with
 | .mapo ks xs => (.fmap ks xs, [o])
 | _ => (.mp o, [])
section
variable {H : Nat → AObj} {n : Nat}
@[go_sem] theorem zSw (xs : List AV) : zUO H (n + 1) (.list xs) = (.list xs, []) := rfl
@[go_sem] theorem zSk : zUO H (n + 1) .any = (.any, []) := rfl
@[go_sem] theorem zSp (ks : List Value) (xs : List AV) : zUO H (n + 1) (.fmap ks xs) = (.fmap ks xs, []) := rfl
@[go_sem] theorem zSn (x : AV) : zUO H (n + 1) (.elt x) = (.elt x, []) := rfl
@[go_sem] theorem zS2 (o off : Nat) : zUO H (n + 1) (.ptr o off) = (.ptr o off, []) := rfl
@[go_sem] theorem zSo (o sz i off : Nat) : zUO H (n + 1) (.eptr o sz i off) = (.eptr o sz i off, []) := rfl
@[go_sem] theorem zSq (f : FuncId) (cs : List AV) : zUO H (n + 1) (.fn f cs) = (.fn f cs, []) := rfl
@[go_sem] theorem zSv (k : IntKind) (i : Int) : zUO H (n + 1) (.raw (.int k i)) = (.raw (.int k i), []) := rfl
@[go_sem] theorem zSl (b : Bool) : zUO H (n + 1) (.raw (.bool b)) = (.raw (.bool b), []) := rfl
@[go_sem] theorem zS3 (s : ByteArray) : zUO H (n + 1) (.raw (.string s)) = (.raw (.string s), []) := rfl
@[go_sem] theorem zSy : zUO H (n + 1) (.raw (.slice none 0 0)) = (.list [], []) := rfl
@[go_sem] theorem zSz (a : Option Nat) : zUO H (n + 1) (.raw (.map a)) = (.raw (.map a), []) := rfl
@[go_sem] theorem zS0 (a : Option Addr) : zUO H (n + 1) (.raw (.pointer a)) = (.raw (.pointer a), []) := rfl
@[go_sem] theorem zSj (cs : List AV) : zUO H (n + 1) (.agg cs) = (.agg (cs.map fun c => (zUO H n c).1), (cs.map fun c => (zUO H n c).2).flatten) := rfl
@[go_sem] theorem zS1 (o sz off len : Nat) : zUO H (n + 1) (.own o sz off len) = zVs H n o sz off len (H o) := rfl
@[go_sem] theorem zSx (o : Nat) : zUO H (n + 1) (.mp o) = zV8 o (H o) := rfl
@[go_sem] theorem zSi (o sz off len sz' : Nat) (xs : List AV) : zVs H n o sz off len (.row sz' xs) = if sz' = sz ∧ off + len ≤ xs.length then (.list ((xs.drop off).take len), [o]) else (.own o sz off len, []) := rfl
@[go_sem] theorem zSh (o sz off len : Nat) (cs : List AV) : zVs H n o sz off len (.box cs) = if sz = 1 ∧ off = 0 ∧ len = cs.length ∧ cs.all (fun c => R7 (zUO H n c).1) = true then (.list (cs.map fun c => (zUO H n c).1), o :: (cs.map fun c => (zUO H n c).2).flatten) else (.own o sz off len, []) := rfl
@[go_sem] theorem zSg (o : Nat) (ks : List Value) (xs : List AV) : zV8 o (.mapo ks xs) = (.fmap ks xs, [o]) := rfl
end
def bsR (sz n : Nat) (ps : List (Nat × AV)) (H : Nat → AObj) (nx : Nat) (K : Cont) : Prop :=
 n * sz ≤ 16777216 ∧ ps.map (·.1) = List.range n ∧ H nx = .unb ∧ (∀ p, p ∈ ps → Pure (zUO H 3 p.2).1 ∧ (zUO H 3 p.2).1.sized = true ∧ (zUO H 3 p.2).1.cells.length = sz) ∧
  K (.own nx sz 0 n) ((ps.map fun p => (zUO H 3 p.2).2).flatten ++ [nx]) (w5 (ps.map fun p => (zUO H 3 p.2).2).flatten ++ [(nx, .row sz (ps.map fun p => (zUO H 3 p.2).1))])
theorem buildSliceA_row {P : Program} {t e sz : Nat} {z : Value} (h1 : sliceT P t = some e) (h2 : sizeT P e = some sz) (h4 : zeroT P e = some z) (h5 : zU8 z = false) (h6 : 0 < sz) (h7 : z.cells.size = sz)
  (n : Nat) (ps : List (Nat × AV)) (H : Nat → AObj) (nx : Nat) (K : Cont) : buildSliceA P t n ps H nx K = bsR sz n ps H nx K := by
 have hz : ¬ zU8 z = true := by rw [h5]; simp
 unfold buildSliceA bsR
 simp only [h1, h2, h4, eq_iff_iff]
 rw [if_neg hz]
 exact ⟨fun ⟨_, g1, _, g2, g3, g4⟩ => ⟨g1, g2, g3, g4⟩, fun ⟨g1, g2, g3, g4⟩ => ⟨h6, g1, h7, g2, g3, g4⟩⟩
attribute [go_sem] bsR
end Go.Abs

namespace Go.Abs
open Go
variable [Cur]
attribute [go_sem] ltN zUV zAG C4 zVk P0 H8 zVY zVI zVq zVd zAS baC J7 Q1 N8 zVP unA F7 K9 zAk zAW zVH K7 zVi zVE BYT MKN MKE zVX E5 D0 B3 A2 A1 loA hiA zAN B2 M9 l6 C8 J6 zJR
 A8 A7 D1 E9 M4 E3 R7 zU8 w5 zVR zAV zBf R3 C9 i5 AS.ev AS.get AS.obj AS.put AS.setO AS.putD AS.nx nxF lkV lkO splice AV.cells AV.one AV.flat AV.sized zUS zUg z6 z5
 zAt W0 Q9 envF objsF OXpF P3 L0 AObj.live envG AObj.ren x9 u7 W9 Value.oneCell' Value.cells
attribute [go_sem] ite_true ite_false if_true if_false true_and and_true and_self forall_const true_implies false_implies List.map_cons List.map_nil List.append_nil List.nil_append List.cons_append List.length_cons List.length_nil
 List.all_cons List.all_nil Bool.and_true Bool.true_and Bool.and_self List.size_toArray Option.map_some Option.map_none Option.bind_some Option.bind_none Option.isSome_some List.getElem?_cons_zero List.getElem?_cons_succ List.getElem?_nil
 List.take_succ_cons List.take_zero List.drop_succ_cons List.drop_zero List.drop_nil List.take_nil List.getD_cons_zero List.getD_cons_succ Option.getD_some Option.getD_none List.all_toArray List.getElem?_toArray
 List.mem_cons List.not_mem_nil or_false forall_eq_or_imp forall_eq List.forall_mem_cons List.map_toArray ne_eq List.range_zero
attribute [go_sem] Nat.min_self Nat.max_self Nat.reduceLT Nat.reduceEqDiff Nat.reduceAdd Nat.reduceSub Nat.reduceMul Nat.reduceLeDiff Nat.reduceBEq Nat.reduceBNe Int.reduceLT Int.reduceLE Int.reduceEq Int.reduceBEq Int.reduceBNe Int.reduceAdd Int.reduceSub Int.reduceToNat
attribute [go_sem] List.flatten_nil List.flatten_cons List.contains_cons List.contains_nil Option.some_beq_some Option.some_beq_none Option.none_beq_some Bool.or_false Bool.or_true Bool.false_or Bool.true_or Bool.not_true Bool.not_false decide_eq_true_eq beq_self_eq_true
 beq_iff_eq bne_iff_ne beq_eq_false_iff_ne decide_eq_false_iff_not Nat.not_lt Nat.not_le Int.not_lt Int.not_le or_true true_or false_or Bool.false_eq_true and_false false_and not_false_eq_true not_true_eq_false decide_true decide_false Bool.false_and Bool.and_false Option.some.injEq reduceCtorEq eq_self
@[go_sem] theorem zSI {α : Type} (l : List α) : (l.all fun _ => true) = true := by induction l <;> simp_all
@[go_sem] theorem zSH {α : Type} (l : List α) (f : α → Bool) (n : Nat) (h : n = l.length) : l.toArray.all f 0 n = l.all f := by subst h; simp
@[go_sem] theorem zUG {α : Type} (l : List α) (i : Nat) (d : α) : l.toArray.getD i d = l.getD i d := by simp
def F6 (P : Program) (all : List Oper) (K : AS → List Touch → Prop) (o : Oper) (rest : List Oper) (σ : AS) (ts : List Touch) : Cont :=
 fun v rd wr => q9 P all K rest ((σ.writes wr).putD o.dst v) (ts ++ [⟨rd, wr.map (·.1)⟩])
def K5 (K' K0 : Cont) : Prop := K' = K0
def F9 (σ : AS) : Option Tmp → Prop
 | some d => d < σ.n
 | none => True
section
variable {P : Program} {all : List Oper} {K : AS → List Touch → Prop} {o : Oper} {rest : List Oper} {σ : AS} {ts : List Touch}
theorem w7 (h : K σ ts) : q9 P all K [] σ ts := h
theorem dstOK_iff {d : Option Tmp} : F9 σ d ↔ (match d with | some d => ltN d σ.n | none => True) := by cases d <;> rfl
theorem zNx (hg : o.guard = none) (hd : F9 σ o.dst) (h : ∀ K', K5 K' (F6 P all K o rest σ ts) → zUV P o σ.ev σ.obj σ.nx K') : q9 P all K (o :: rest) σ ts := by
 unfold q9 l5
 rw [hg]
 exact ⟨dstOK_iff.1 hd, h _ rfl⟩
theorem z7 {K' : Cont} {v : AV} {rd : List Nat} {wr : List (Nat × AObj)} (hK : K5 K' (F6 P all K o rest σ ts)) (h : q9 P all K rest ((σ.writes wr).putD o.dst v) (ts ++ [⟨rd, wr.map (·.1)⟩])) : K' v rd wr := by unfold K5 at hK; rw [hK]; exact h
theorem zDY {j d : Nat} {want b : Bool} (hg : o.guard = some (j, want)) (hj : (all[j]?).bind (·.dst) = some d) (hv : σ.get d = .raw (.bool b)) (hd : F9 σ o.dst)
  (h1 : b = want → ∀ K', K5 K' (F6 P all K o rest σ ts) → zUV P o σ.ev σ.obj σ.nx K') (h2 : b = !want → q9 P all K rest (σ.putD o.dst (.tup [])) (ts ++ [⟨[], []⟩])) : q9 P all K (o :: rest) σ ts := by
 unfold q9 l5
 rw [hg]
 simp only [hj, hv, gIf]
 exact ⟨fun e => ⟨dstOK_iff.1 hd, h1 e _ rfl⟩, fun e => ⟨dstOK_iff.1 hd, h2 e⟩⟩
theorem zGy {j d : Nat} {want : Bool} (hg : o.guard = some (j, want)) (hj : (all[j]?).bind (·.dst) = some d) (hv : σ.get d = .raw (.bool want)) (hd : F9 σ o.dst)
  (h1 : ∀ K', K5 K' (F6 P all K o rest σ ts) → zUV P o σ.ev σ.obj σ.nx K') : q9 P all K (o :: rest) σ ts := zDY hg hj hv hd (fun _ => h1) (fun e => by cases want <;> cases e)
theorem zGv {j d : Nat} {want : Bool} (hg : o.guard = some (j, want)) (hj : (all[j]?).bind (·.dst) = some d) (hv : σ.get d = .raw (.bool !want)) (hd : F9 σ o.dst)
  (h2 : q9 P all K rest (σ.putD o.dst (.tup [])) (ts ++ [⟨[], []⟩])) : q9 P all K (o :: rest) σ ts := zDY hg hj hv hd (fun e => by cases want <;> cases e) (fun _ => h2)
theorem zNy {j d : Nat} {want : Bool} (hg : o.guard = some (j, want)) (hj : (all[j]?).bind (·.dst) = some d) (hv : σ.get d = .tup []) (hd : F9 σ o.dst)
  (h2 : q9 P all K rest (σ.putD o.dst (.tup [])) (ts ++ [⟨[], []⟩])) : q9 P all K (o :: rest) σ ts := by
 unfold q9 l5
 rw [hg]
 simp only [hj, hv]
 exact ⟨dstOK_iff.1 hd, h2⟩
end
@[congr] theorem zT6 {P : Program} {all : List Oper} {K : AS → List Touch → Prop} {l : List Oper} {σ σ' : AS} {ts ts' : List Touch} (h1 : σ = σ') (h2 : ts = ts') : q9 P all K l σ ts = q9 P all K l σ' ts' := by rw [h1, h2]
@[go_sem] theorem zUK (σ : AS) : σ.writes [] = σ := rfl
@[go_sem] theorem zUJ (σ : AS) (o : Nat) (A : AObj) (r : List (Nat × AObj)) : σ.writes ((o, A) :: r) = (σ.setO o A).writes r := rfl
@[go_sem] theorem zTs (v : Value) : Pure (.raw v) ↔ True := ⟨fun _ => trivial, fun _ => .raw v⟩
@[go_sem] theorem zTr (xs : List AV) : Pure (.list xs) ↔ True := ⟨fun _ => trivial, fun _ => .list xs⟩
@[go_sem] theorem zTq : Pure (.agg []) ↔ True := ⟨fun _ => trivial, fun _ => .agg [] (fun c hc => by simp at hc)⟩
@[go_sem] theorem zTp (c : AV) (cs : List AV) : Pure (.agg (c :: cs)) ↔ Pure c ∧ Pure (.agg cs) := by
 constructor
 ·intro h
  cases h with
  | agg _ h => exact ⟨h c (by simp), .agg cs (fun d hd => h d (by simp [hd]))⟩
 ·rintro ⟨h1, h2⟩
  cases h2 with
  | agg _ h2 =>
   refine .agg _ (fun d hd => ?_)
   rcases List.mem_cons.1 hd with rfl | hd
   ·exact h1
   ·exact h2 d hd
section
variable (H : Nat → AObj) (m : List (Option Nat)) (ex : List Nat)
@[go_sem] theorem zR0 (y : AV) : XpF H m ex .any y ↔ True := by simp only [XpF]
@[go_sem] theorem zSB (k off o off' : Nat) : XpF H m ex (.ptr k off) (.ptr o off') ↔ m[k]? = some (some o) ∧ off = off' := by simp only [XpF]
@[go_sem] theorem zR9 (k sz off len o sz' off' len' : Nat) : XpF H m ex (.own k sz off len) (.own o sz' off' len') ↔ m[k]? = some (some o) ∧ sz = sz' ∧ off = off' ∧ len = len' := by simp only [XpF]
@[go_sem] theorem zSA (k sz off len : Nat) (v : Value) : XpF H m ex (.own k sz off len) (.raw v) ↔ m[k]? = some none ∧ off = 0 ∧ len = 0 ∧ v = .slice none 0 0 := by simp only [XpF]
@[go_sem] theorem zR7 (k o : Nat) : XpF H m ex (.mp k) (.mp o) ↔ m[k]? = some (some o) := by simp only [XpF]
@[go_sem] theorem zSC (v v' : Value) : XpF H m ex (.raw v) (.raw v') ↔ v = v' := by simp only [XpF]
@[go_sem] theorem zR6 (xs ys : List AV) : XpF H m ex (.list xs) (.list ys) ↔ xs = ys := by simp only [XpF]
@[go_sem] theorem zR4 (xs : List AV) (o sz off len : Nat) : XpF H m ex (.list xs) (.own o sz off len) ↔ o ∈ ex ∧ (match H o with
  | .row sz' zs => sz' = sz ∧ off + len ≤ zs.length ∧ xs = (zs.drop off).take len
  | .box cs => sz = 1 ∧ off = 0 ∧ len = cs.length ∧ (∀ x, x ∈ xs → R7 x = true) ∧ (xs = cs ∨ XpL H m ex xs cs)
  | _ => False) := by simp only [XpF] <;> (generalize H o = A; cases A <;> exact Iff.rfl)
@[go_sem] theorem zR5 (ks : List Value) (xs : List AV) (o : Nat) : XpF H m ex (.fmap ks xs) (.mp o) ↔ o ∈ ex ∧ (match H o with
  | .mapo ks' xs' => MPerm ks xs ks' xs'
  | _ => False) := by simp only [XpF] <;> (generalize H o = A; cases A <;> exact Iff.rfl)
@[go_sem] theorem zTI (ks : List Value) (xs : List AV) : MPerm ks xs ks xs ↔ True := ⟨fun _ => trivial, fun _ => .refl _ _⟩
@[go_sem] theorem zR8 (xs : List AV) (v : Value) : XpF H m ex (.list xs) (.raw v) ↔ xs = [] ∧ v = .slice none 0 0 := by simp only [XpF]
@[go_sem] theorem zRz (cs ds : List AV) : XpF H m ex (.agg cs) (.agg ds) ↔ XpL H m ex cs ds := by simp only [XpF]
@[go_sem] theorem zSD (cs ds : List AV) : XpF H m ex (.tup cs) (.tup ds) ↔ XpL H m ex cs ds := by simp only [XpF]
@[go_sem] theorem zR3 (f g : FuncId) (cs ds : List AV) : XpF H m ex (.fn f cs) (.fn g ds) ↔ f = g ∧ XpL H m ex cs ds := by simp only [XpF]
@[go_sem] theorem zSG : XpL H m ex [] [] ↔ True := by simp only [XpL]
@[go_sem] theorem zSF (x y : AV) (xs ys : List AV) : XpL H m ex (x :: xs) (y :: ys) ↔ XpF H m ex x y ∧ XpL H m ex xs ys := by simp only [XpL]
end
section
variable (f : Nat → Nat)
@[go_sem] theorem zTv : AV.ren f .any = .any := by simp only [AV.ren]
@[go_sem] theorem zT3 (v : Value) : AV.ren f (.raw v) = .raw v := by simp only [AV.ren]
@[go_sem] theorem zTz (xs : List AV) : AV.ren f (.list xs) = .list xs := by simp only [AV.ren]
@[go_sem] theorem zT2 (o off : Nat) : AV.ren f (.ptr o off) = .ptr (f o) off := by simp only [AV.ren]
@[go_sem] theorem zT1 (o sz off len : Nat) : AV.ren f (.own o sz off len) = .own (f o) sz off len := by simp only [AV.ren]
@[go_sem] theorem zT0 (o : Nat) : AV.ren f (.mp o) = .mp (f o) := by simp only [AV.ren]
@[go_sem] theorem zTu (cs : List AV) : AV.ren f (.agg cs) = .agg (cs.map (AV.ren f)) := by simp only [AV.ren, X9]
@[go_sem] theorem zT4 (cs : List AV) : AV.ren f (.tup cs) = .tup (cs.map (AV.ren f)) := by simp only [AV.ren, X9]
@[go_sem] theorem zTy (g : FuncId) (cs : List AV) : AV.ren f (.fn g cs) = .fn g (cs.map (AV.ren f)) := by simp only [AV.ren, X9]
@[go_sem] theorem zTt (cs : List AV) : zVM f cs = cs.map (AV.ren f) := X9 f cs
end
end Go.Abs

namespace Go.Abs
open Go
variable [Cur]
def O3 : Nat → Code → Code
 | 0, .seq x _ => x
 | 1, .seq _ y => y
 | 0, .cond _ x _ => x
 | 1, .cond _ _ y => y
 | 0, .block _ c => c
 | 0, .loop c => c
 | 0, .scope c => c
 | _, _ => .skip
def sub : List Nat → Code → Code
 | [], b => b
 | i :: p, b => O3 i (sub p b)
def W3 (fn : Func) : Code := fn.body.getD .skip
def zAq (Q : Exit → AS → Prop) : Exit → AS → Prop
 | .goto _, _ => False
 | e, σ => Q e σ
@[go_sem] theorem zTY (Q : Exit → AS → Prop) (σ : AS) : zAq Q .normal σ = Q .normal σ := rfl
@[go_sem] theorem zTZ (Q : Exit → AS → Prop) (σ : AS) : zAq Q .ret σ = Q .ret σ := rfl
@[go_sem] theorem zTX (Q : Exit → AS → Prop) (i : Nat) (σ : AS) : zAq Q (.exit i) σ = Q (.exit i) σ := rfl
def zBa : Code → Bool
 | .seq _ _ => true
 | _ => false
def zFo : Code → Option Nat
 | .block id _ => some id
 | _ => none
def zBZ : Code → Bool
 | .loop _ => true
 | _ => false
def zCy : Code → Option Operand
 | .cond c _ _ => some c
 | _ => none
section
variable {P : Program} {E : Env} {Q : Exit → AS → Prop} {σ : AS} {p : List Nat} {b : Code}
theorem zBs (h : zBa (sub p b) = true) (hx : Hold P E (sub (0 :: p) b) (z6 (Hold P E (sub (1 :: p) b) Q) Q) σ) : Hold P E (sub p b) Q σ := by
 simp only [sub] at hx
 cases hc : sub p b with
 | seq x y => rw [hc] at hx; exact zLz hx
 | _ => rw [hc] at h; cases h
theorem zN3 {id : Nat} (h : zFo (sub p b) = some id) (hx : Hold P E (sub (0 :: p) b) (z5 id Q) σ) : Hold P E (sub p b) Q σ := by
 simp only [sub] at hx
 cases hc : sub p b with
 | block i c => rw [hc] at hx h; cases h; exact zLq hx
 | _ => rw [hc] at h; cases h
theorem zOB {c : Code} (h : sub p b = .scope c) (hx : Hold P E (sub (0 :: p) b) (zAq Q) σ) : Hold P E (sub p b) Q σ := by
 have e : sub (0 :: p) b = c := by show O3 0 (sub p b) = c; rw [h]; rfl
 rw [e] at hx
 rw [h]
 refine fun a w γ hs => zRe (M2 (hx a w γ hs) (fun e a w γ ⟨σ', h1, h2⟩ => ?_))
 cases e with
 | goto l => exact h1
 | _ => exact ⟨σ', h1, h2⟩
theorem zOC (h : sub p b = .skip) (hx : Q .normal σ) : Hold P E (sub p b) Q σ := by rw [h]; exact zL0 hx
theorem zN6 {l : Nat} (h : sub p b = .label l) (hx : Q .normal σ) : Hold P E (sub p b) Q σ := by rw [h]; exact zLu hx
theorem zN5 {id : Nat} (h : sub p b = .exit id) (hx : Q (.exit id) σ) : Hold P E (sub p b) Q σ := by rw [h]; exact zLt hx
theorem z8 (h : sub p b = .ret) (hx : Q .ret σ) : Hold P E (sub p b) Q σ := by rw [h]; exact zLy hx
theorem zOA {id : Nat} {ops : List Oper} (h : sub p b = .region id ops.toArray false) (hx : q9 P ops (fun σ' _ => Q .normal σ') ops σ []) : Hold P E (sub p b) Q σ := by
 rw [h]; exact zLx hx
theorem zN4 {id : Nat} {ops : List Oper} (h : sub p b = .region id ops.toArray true) (hm : P.follows .mixedOrders = true) (he : J3 ops = true) (hx : q9 P ops (fun σ' ts => I3 ops ts = true ∧ Q .normal σ') ops σ []) : Hold P E (sub p b) Q σ := by
 rw [h]; exact zLs hm he hx
theorem zBr {c : Operand} (h : zCy (sub p b) = some c) (hx : ∃ t, σ.ev c = .raw (.bool t) ∧ (t = true → Hold P E (sub (0 :: p) b) Q σ) ∧ (t = false → Hold P E (sub (1 :: p) b) Q σ)) : Hold P E (sub p b) Q σ := by
 simp only [sub] at hx
 cases hc : sub p b with
 | cond c' x y =>
  rw [hc] at hx h; cases h
  obtain ⟨t, h1, h2, h3⟩ := hx
  exact zLr h1 h2 h3
 | _ => rw [hc] at h; cases h
theorem zDe (h : zBZ (sub p b) = true) (Inv : Nat → Nat → List (Nat × AV) → List AObj → Prop) (n : Nat) (h0 : ∃ m ex N env As, Weak E.n m ex σ N env As ∧ Inv n N env As)
  (hx : ∀ n N env As, Inv n N env As → Hold P E (sub (0 :: p) b) (z6 (fun σ' => ∃ n', n' < n ∧ ∃ m ex N env As, Weak E.n m ex σ' N env As ∧ Inv n' N env As) Q) ⟨N, env, zUS 0 As⟩) : Hold P E (sub p b) Q σ := by
 simp only [sub] at hx
 cases hc : sub p b with
 | loop c => rw [hc] at hx; exact zLv Inv n h0 hx
 | _ => rw [hc] at h; cases h
def AS.only (σ : AS) (ts : List Nat) : AS := ⟨σ.n, ts.map (fun t => (t, σ.get t)), σ.objs⟩
theorem z9 {f : FuncId} {fn : Func} {args : List AV} {fp : List AObj} {r : AV} {out : List AObj} (hf : P.funcs[f]? = some fn) (hb : fn.body.isSome = true)
  (h : ∀ E : Env, E.n = fp.length → Hold P E (sub [] (W3 fn)) (fun e σ' => (e = .normal ∨ e = .ret) ∧ G6 P fn fp.length r out σ') ⟨args.length + (fn.ntmps - args.length), zUg 0 args, zUS 0 fp⟩) : zUL P f args fp r out := by
 obtain ⟨c, hc⟩ := Option.isSome_iff_exists.1 hb
 refine zQM hf hc (fun E hE => ?_)
 have := h E hE
 simp only [sub, W3, hc, Option.getD_some] at this
 exact this
theorem zQK {T : Type} {f : FuncId} {fn : Func} {args : List AV} {fp : List AObj} {r : T → AV} {out : T → List AObj} (hf : P.funcs[f]? = some fn) (hb : fn.body.isSome = true)
  (h : ∀ E : Env, E.n = fp.length → Hold P E (sub [] (W3 fn)) (fun e σ' => (e = .normal ∨ e = .ret) ∧ ∃ t, G6 P fn fp.length (r t) (out t) σ') ⟨args.length + (fn.ntmps - args.length), zUg 0 args, zUS 0 fp⟩) : C3 P f args fp r out := by
 obtain ⟨c, hc⟩ := Option.isSome_iff_exists.1 hb
 refine zHX hf hc (fun E hE => ?_)
 have := h E hE
 simp only [sub, W3, hc, Option.getD_some] at this
 exact this
end
section
variable {P : Program} {E : Env} {all : List Oper} {K : AS → List Touch → Prop} {o : Oper} {rest : List Oper} {σ : AS} {ts : List Touch} {Q : Exit → AS → Prop} {p : List Nat} {b : Code}
def zVT (σ : AS) : Option Tmp → Bool
 | some d => Nat.blt d σ.n
 | none => true
theorem F8 : zVT σ o.dst = true → F9 σ o.dst := by
 cases o.dst with
 | none => intro _; trivial
 | some d => intro h; simp only [zVT, Nat.blt, Nat.ble_eq] at h; exact h
def stepG (a c : Option (Bool × Prop)) : AV → Bool → Option (Bool × Prop)
 | .raw (.bool true), true => a
 | .raw (.bool false), false => a
 | .raw (.bool true), false => c
 | .raw (.bool false), true => c
 | .tup [], _ => c
 | _, _ => none
def zHg (P : Program) (all : List Oper) (K : AS → List Touch → Prop) (σ : AS) (ts : List Touch) : List Oper → Option (Bool × Prop)
  | [] => some (true, K σ ts)
  | o :: rest => match o.guard with
    | none => some (zVT σ o.dst, ∀ K', K5 K' (F6 P all K o rest σ ts) → zUV P o σ.ev σ.obj σ.nx K')
    | some (j, want) => match (all[j]?).bind (·.dst) with
      | none => none
      | some d => stepG (some (zVT σ o.dst, ∀ K', K5 K' (F6 P all K o rest σ ts) → zUV P o σ.ev σ.obj σ.nx K'))
          (some (zVT σ o.dst, q9 P all K rest (σ.putD o.dst (.tup [])) (ts ++ [⟨[], []⟩]))) (σ.get d) want
theorem Qr {ops : List Oper} {G : Prop} (h : zHg P all K σ ts ops = some (true, G)) (g : G) : q9 P all K ops σ ts := by
 cases ops with
 | nil => cases h; exact g
 | cons o rest =>
  simp only [zHg] at h
  split at h
  ·rename_i hg
   simp only [Option.some.injEq, Prod.mk.injEq] at h
   obtain ⟨h1, rfl⟩ := h
   exact zNx hg (F8 h1) g
  ·rename_i j want hg
   split at h
   ·cases h
   ·rename_i d hj
    unfold stepG at h
    split at h <;> simp only [Option.some.injEq, Prod.mk.injEq, reduceCtorEq] at h <;> obtain ⟨h1, rfl⟩ := h
    ·rename_i hv; exact zGy hg hj hv (F8 h1) g
    ·rename_i hv; exact zGy hg hj hv (F8 h1) g
    ·rename_i hv; exact zGv hg hj hv (F8 h1) g
    ·rename_i hv; exact zGv hg hj hv (F8 h1) g
    ·rename_i hv; exact zNy hg hj hv (F8 h1) g
theorem Qi {j d : Nat} {want t : Bool} (hg : o.guard = some (j, want)) (hj : (all[j]?).bind (·.dst) = some d) (hv : σ.get d = .raw (.bool t)) (hd : zVT σ o.dst = true)
  (h1 : t = want → ∀ K', K5 K' (F6 P all K o rest σ ts) → zUV P o σ.ev σ.obj σ.nx K') (h2 : t = !want → q9 P all K rest (σ.putD o.dst (.tup [])) (ts ++ [⟨[], []⟩])) :
  q9 P all K (o :: rest) σ ts := zDY hg hj hv (F8 hd) h1 h2
theorem Qb {ops : List Oper} {p : Prop} (h : I3 ops ts = true) (g : p) : I3 ops ts = true ∧ p := ⟨h, g⟩
def zHf (P : Program) (E : Env) (b : Code) (Q : Exit → AS → Prop) (σ : AS) (p : List Nat) : Option Prop := match sub p b with
 | .seq _ _ => some (Hold P E (sub (0 :: p) b) (z6 (Hold P E (sub (1 :: p) b) Q) Q) σ)
 | .block id _ => some (Hold P E (sub (0 :: p) b) (z5 id Q) σ)
 | .skip => some (Q .normal σ)
 | .label _ => some (Q .normal σ)
 | .scope _ => some (Hold P E (sub (0 :: p) b) (zAq Q) σ)
 | .exit id => some (Q (.exit id) σ)
 | .region _ ⟨ops⟩ false => some (q9 P ops (fun σ' _ => Q .normal σ') ops σ [])
 | _ => none
theorem Qh {G : Prop} (h : zHf P E b Q σ p = some G) (g : G) : Hold P E (sub p b) Q σ := by
 unfold zHf at h
 cases hc : sub p b with
 | seq x y => rw [hc] at h; cases h; rw [← hc]; exact zBs (by rw [hc]; rfl) g
 | block i c => rw [hc] at h; cases h; rw [← hc]; exact zN3 (id := i) (by rw [hc]; rfl) g
 | skip => rw [hc] at h; cases h; rw [← hc]; exact zOC hc g
 | label l => rw [hc] at h; cases h; rw [← hc]; exact zN6 hc g
 | scope c => rw [hc] at h; cases h; rw [← hc]; exact zOB hc g
 | exit id => rw [hc] at h; cases h; rw [← hc]; exact zN5 hc g
 | region id ops d => cases d with
  | false => rw [hc] at h; cases h; rw [← hc]; exact zOA (ops := ops.toList) (by rw [hc]) g
  | true => rw [hc] at h; cases h
 | _ => rw [hc] at h; cases h
end
@[congr] theorem Hold.only_state {P : Program} {E : Env} {c : Code} {Q : Exit → AS → Prop} {σ τ : AS} (h : σ = τ) : Hold P E c Q σ = Hold P E c Q τ := by rw [h]
attribute [go_sem] AS.only
end Go.Abs

namespace Go.Abs
open Go
variable [Cur]
theorem zE5 : ∀ (L : List MapEntry) (i : Nat) (h : i < L.length), L.Pairwise (fun x y => x.born < y.born) → L.filter (fun e => !(e.born == L[i].born)) = L.eraseIdx i
 | [], i, h, _ => by simp at h
 | x :: r, 0, h, hp => by
  obtain ⟨h1, h2⟩ := List.pairwise_cons.1 hp
  simp only [List.getElem_cons_zero, List.eraseIdx_cons_zero, List.filter_cons, beq_self_eq_true, Bool.not_true, Bool.false_eq_true, if_false]
  exact List.filter_eq_self.2 (fun e he => by have := h1 e he; simp; omega)
 | x :: r, i + 1, h, hp => by
  obtain ⟨h1, h2⟩ := List.pairwise_cons.1 hp
  have hi : i < r.length := by simpa using h
  have hx : x.born < r[i].born := h1 _ (List.getElem_mem hi)
  simp only [List.getElem_cons_succ, List.eraseIdx_cons_succ]
  rw [List.filter_cons, if_pos (by simp; omega), zE5 r i hi h2]
theorem zMY (es : List MapEntry) (seen : Array Nat) (i : Nat) (h : i < (es.filter (fun e => !seen.contains e.born)).length) (hp : es.Pairwise (fun x y => x.born < y.born)) :
  es.filter (fun e => !(seen.push ((es.filter (fun e => !seen.contains e.born))[i]).born).contains e.born) = (es.filter (fun e => !seen.contains e.born)).eraseIdx i := by
 rw [← zE5 _ i h (hp.filter _), List.filter_filter]
 congr 1
 funext e
 simp only [Array.contains_push]
 cases seen.contains e.born <;> simp
section
variable {P : Program} {E : Env} {Q : Exit → AS → Prop} {σ : AS} {p : List Nat} {b : Code}
theorem zH7 {o : Oper} (h : o.guard = none) (y : Nat → Option Bool) : Region.wanted o y = true := by simp [Region.wanted, h]
theorem zM0 {I : Nat → Prop} {loc : Nat → Loc} {a : Act} {w : World} (hs : SR E I loc σ a w) {o1 : Oper} {t d d2 o : Nat} (h1 : o1.op = .next (.tmp t) false) (cur : Option (Value × AV)) (ks : List Value) (xs : List AV) (hx : σ.get t = .ptr o 0) (ho : σ.obj o = .iter cur ks xs)
  (hend : ks = [] → xs = [] → Q .normal ((σ.put d .any).put d2 (.raw (.bool false))))
  (hstep : ∀ (i : Nat) (h : i < ks.length) (h' : i < xs.length), Q .normal (((σ.setO o (.iter (some (ks[i], xs[i])) (ks.eraseIdx i) (xs.eraseIdx i))).put d .any).put d2 (.raw (.bool true)))) :
  ∃ bb v w' τ, (execOp a.eval o1).run P w = .ok (.value v) w' ∧ (∀ w, (Instr.extract v 0).run P w = .ok (.bool bb) w) ∧ SR E I loc τ a w' ∧ τ.n = σ.n ∧ Q .normal ((τ.put d .any).put d2 (.raw (.bool bb))) := by
 have hxv := hs.tmps t
 rw [hx] at hxv
 have ev1 : a.eval (.tmp t) = a.tmps.getD t undef := rfl
 generalize a.tmps.getD t undef = u at hxv ev1
 cases hxv with
 | pure hp => cases hp
 | ptr _ _ bb c hl =>
  have hob := hs.objs o
  rw [ho] at hob
  have hlive : (σ.obj o).live = true := by rw [ho]; rfl
  obtain ⟨b', g1, ⟨s, seen, l, g2, rfl, rfl, rfl⟩ | ⟨m, es, clock, seen, g2, g3, g4, g5, g6, g7, g8⟩⟩ := hob
  ·rw [hl] at g1; cases g1
   refine ⟨false, .tuple #[.bool false], w, σ, ?_, fun _ => by simp [Instr.extract], hs, rfl, hend rfl rfl⟩
   simp only [execOp, h1, ev1]
   simp [Instr.next, getObj, Sem.run_bind, Sem.run, g2, Result.andThen]
  ·rw [hl] at g1; cases g1
   have hkl : ks.length = (es.toList.filter (fun e => !seen.contains e.born)).length := g6.1.trans g6.2.1
   have hxl := g6.2.1
   have hlo : (leftOf es seen).toList = es.toList.filter (fun e => !seen.contains e.born) := by simp [leftOf]
   rcases run_next_at (P := P) w o1.type bb m clock clock seen es clock g2 g4 (fun x hx => g5.2.2.2.2.2 x hx) (Nat.le_refl _) with ⟨q1, q2⟩ | ⟨e, q1, w1, q2, q3⟩
   ·have hnil : (es.toList.filter (fun e => !seen.contains e.born)).length = 0 := by rw [← hlo]; simpa using q1
    have hk0 : ks = [] := List.eq_nil_of_length_eq_zero (by omega)
    have hx0 : xs = [] := List.eq_nil_of_length_eq_zero (by omega)
    refine ⟨false, .tuple #[.bool false], w, σ, ?_, fun _ => by simp [Instr.extract], hs, rfl, hend hk0 hx0⟩
    simp only [execOp, h1, ev1]
    simp only [Sem.run_bind, q2, Result.andThen_ok, Sem.run_pure]
   ·rw [hlo] at q1
    obtain ⟨i0, hi, rfl⟩ := List.getElem_of_mem q1
    have hin : ((es.toList.filter (fun e => !seen.contains e.born))[i0]).key ∈ ks := (A5 g6 g7).2 (List.mem_map.2 ⟨_, List.getElem_mem hi, rfl⟩)
    obtain ⟨i, hik, hki⟩ := List.getElem_of_mem hin
    have hix : i < xs.length := by have := g6.1; omega
    have hpv : PR w I xs[i] ((es.toList.filter (fun e => !seen.contains e.born))[i0]).val := by
     obtain ⟨e', r1, r2, r3⟩ := g7 i hik hix
     have : e' = (es.toList.filter (fun e => !seen.contains e.born))[i0] := zEt g6.2.2.2.1 r1 (List.getElem_mem hi) (by rw [r2, hki])
     rw [← this]; exact r3
    have hw1 : SR E I loc σ a w1 := by
     rcases q2 with rfl | rfl
     ·exact hs
     ·exact hs.heap rfl rfl rfl rfl
    have g2' : w1.heap[bb]? = some (.mapIter (some m) clock seen clock) := by rcases q2 with rfl | rfl <;> exact g2
    have g4' : w1.heap[m]? = some (.map es clock) := by rcases q2 with rfl | rfl <;> exact g4
    have hheap : w1.heap = w.heap := by rcases q2 with rfl | rfl <;> rfl
    have hblt : bb < w1.heap.size := (Array.getElem?_eq_some_iff.1 g2').1
    have hmb : m ≠ bb := fun e => by rw [e] at g4; rw [g2] at g4; cases g4
    let ob : Obj := .mapIter (some m) clock (seen.push ((es.toList.filter (fun e => !seen.contains e.born))[i0]).born) clock
    have hmono : ∀ k, I k → (ChangeMaps.setBlock w1 bb ob).heap[k]? = w1.heap[k]? := fun k hk => by
     have : bb ≠ k := fun e => (hs.sep o bb 0 hlive hl).1 (e ▸ hk)
     simp [ChangeMaps.setBlock, Array.getElem?_setIfInBounds, this]
    have hmono' : ∀ k, I k → (ChangeMaps.setBlock w1 bb ob).heap[k]? = w.heap[k]? := fun k hk => by rw [hmono k hk, hheap]
    have hset : (ChangeMaps.setBlock w1 bb ob).heap[bb]? = some ob := by simp [ChangeMaps.setBlock, hblt]
    have hleft := zMY es.toList seen i0 hi g5.2.2.2.2.1
    have hsw : SR E I loc (σ.setO o (.iter (some (ks[i], xs[i])) (ks.eraseIdx i) (xs.eraseIdx i))) a (ChangeMaps.setBlock w1 bb ob) := by
     refine hw1.writeG (w' := ChangeMaps.setBlock w1 bb ob) (A := .iter (some (ks[i], xs[i])) (ks.eraseIdx i) (xs.eraseIdx i)) hlive hl rfl rfl rfl (by simp [ChangeMaps.setBlock]) (fun k hk => by simp [ChangeMaps.setBlock, Array.getElem?_setIfInBounds, hk.symm]) ⟨bb, hl, .inr ⟨m, es, clock, seen.push ((es.toList.filter (fun e => !seen.contains e.born))[i0]).born, hset, g3, ?_, g5, ?_, ?_, ?_⟩⟩ (by simp)
     ·rw [hmono m g3]; exact g4'
     ·rw [hleft]
      have hsub := List.eraseIdx_sublist (es.toList.filter (fun e => !seen.contains e.born)) i0
      refine ⟨?_, ?_, g6.2.2.1.sublist (List.eraseIdx_sublist _ _), g6.2.2.2.1.sublist (hsub.map _), g6.2.2.2.2.1.sublist hsub, fun e he => g6.2.2.2.2.2 e (hsub.subset he)⟩
      ·rw [List.length_eraseIdx_of_lt hix, List.length_eraseIdx_of_lt hik]; have := g6.1; omega
      ·rw [List.length_eraseIdx_of_lt hix, List.length_eraseIdx_of_lt hi, hxl]
     ·rw [hleft]
      have step : ∀ j (hj : j < ks.length) (hj' : j < xs.length), j ≠ i → ∃ e, e ∈ (es.toList.filter (fun e => !seen.contains e.born)).eraseIdx i0 ∧ e.key = ks[j] ∧ PR (ChangeMaps.setBlock w1 bb ob) I xs[j] e.val := fun j hj hj' hne => by
       obtain ⟨e, r1, r2, r3⟩ := g7 j hj hj'
       obtain ⟨m', hm', rfl⟩ := List.getElem_of_mem r1
       refine ⟨_, List.mem_eraseIdx_iff_getElem.2 ⟨m', hm', fun e => ?_, rfl⟩, r2, r3.mono hmono' (fun _ x => x)⟩
       subst e
       rw [← hki] at r2
       exact hne ((zDJ g6.2.2.1).1 r2).symm
      intro j hj hj'
      rw [List.length_eraseIdx_of_lt hik] at hj
      simp only [List.getElem_eraseIdx]
      by_cases hji : j < i
      ·simp only [dif_pos hji]; exact step j (by omega) (by omega) (by omega)
      ·simp only [dif_neg hji]; exact step (j + 1) (by omega) (by have := g6.1; omega) (by omega)
     ·rintro p hp
      cases hp
      exact ⟨_, (List.mem_filter.1 (List.getElem_mem hi)).1, by simp, hki.symm, hpv.mono hmono' (fun _ x => x)⟩
    exact ⟨true, .tuple #[.bool true, _, _], _, _, by simp only [execOp, h1, ev1]; simp only [Sem.run_bind, q3, Result.andThen_ok, Sem.run_pure]; rfl, fun _ => by simp [Instr.extract], hsw, rfl, hstep i hik hix⟩
theorem zMz {I : Nat → Prop} {loc : Nat → Loc} {a : Act} {w : World} (hs : SR E I loc σ a w) {o1 : Oper} {t o : Nat} (h1 : o1.op = .next (.tmp t) false) (cur : Option (Value × AV)) (ks : List Value) (xs : List AV) (hx : σ.get t = .ptr o 0) (ho : σ.obj o = .iter cur ks xs) :
  EvsOK ⟨hereFp loc σ a, I, none⟩ w.heap.size ((execOp a.eval o1).events P w #[]) := by
 have hxv := hs.tmps t
 rw [hx] at hxv
 have ev1 : a.eval (.tmp t) = a.tmps.getD t undef := rfl
 generalize a.tmps.getD t undef = u at hxv ev1
 have hob := hs.objs o
 rw [ho] at hob
 have hlive : (σ.obj o).live = true := by rw [ho]; rfl
 obtain ⟨b', g1, hob⟩ := hob
 refine zAe (w := w) ?_
 simp only [execOp, h1, ev1]
 cases hxv with
 | pure hp => cases hp
 | ptr _ _ bb c hl =>
  have hl2 := hl
  rw [g1] at hl
  cases hl
  refine zAf (zE2 hs.keeps (P4 hlive hl2) fun m p q r hm => ?_)
  rcases hob with ⟨s, seen, l, q1, _⟩ | ⟨m', es, clock, seen, q1, q2, q3, _⟩
  ·rw [q1] at hm; cases hm
  ·rw [q1] at hm; cases hm
   exact .inr ⟨q2, _, q3, rfl⟩
theorem zN7 {id : Nat} {o1 o2 : Oper} {t d d2 o : Nat} (h : sub p b = .region id #[o1, o2] false) (h1 : o1.op = .next (.tmp t) false) (h2 : o1.dst = some d) (h3 : o1.guard = none)
  (h4 : o2.op = .extract (.tmp d) 0) (h5 : o2.dst = some d2) (h6 : o2.guard = none) (cur : Option (Value × AV)) (ks : List Value) (xs : List AV) (hx : σ.get t = .ptr o 0) (ho : σ.obj o = .iter cur ks xs) (hd : d < σ.n) (hd2 : d2 < σ.n)
  (hend : ks = [] → xs = [] → Q .normal ((σ.put d .any).put d2 (.raw (.bool false))))
  (hstep : ∀ (i : Nat) (h : i < ks.length) (h' : i < xs.length), Q .normal (((σ.setO o (.iter (some (ks[i], xs[i])) (ks.eraseIdx i) (xs.eraseIdx i))).put d .any).put d2 (.raw (.bool true)))) : Hold P E (sub p b) Q σ := by
 rw [h]
 intro a w γ hst
 refine D7 ?_
 show zUZ _ _ #[o1, o2] _ [0, 1] _ _ _
 refine N2 (o := o1) rfl (zH7 h3 _) (T1 (.inl rfl) fun w₁ hr => ?_)
 obtain ⟨I, loc, hs⟩ := hst.rely hr
 obtain ⟨bb, v, w', τ, q1, q2, q3, q4, q5⟩ := zM0 (P := P) (Q := Q) (d := d) (d2 := d2) hs.sr.here h1 cur ks xs hx ho hend hstep
 obtain ⟨γ', hg, hsg⟩ := hs.next q3 (fun d hd => .inl hd) (zMz hs.sr h1 cur ks xs hx ho)
 refine ⟨_, w', γ', q1, hg, fun w₂ hr2 => ?_⟩
 have hsg2 := (hsg.rely hr2).putD (d := some d) (v := .any) (x := v) (.pure (.any _)) (fun t e => by cases e; rw [q4]; exact hd)
 rw [h2]
 have hev : ∀ w, (execOp (a.put (some d) v).eval o2).run P w = .ok (.value (.bool bb)) w := fun w => by
  have hev : (a.put (some d) v).eval (.tmp d) = v := by
   have hlt : d < a.tmps.size := by rw [hsg.sr.size, q4]; exact hd
   simp [Act.eval, Act.put, hlt]
  simp only [execOp, h4, Sem.run_bind, hev, q2, Result.andThen_ok, Sem.run_pure]
 have hevs : ∀ w, (execOp (a.put (some d) v).eval o2).events P w #[] = #[] := fun w => by
  simp only [execOp, h4, Sem.events_bind, Instr.extract]
  split
  ·rename_i vs _
   cases hv : vs[0]? <;> simp [stuck]
  ·simp [stuck]
 refine N2 (o := o2) rfl (zH7 h6 _) (T1 (.inl rfl) fun w₃ hr3 => ?_)
 refine ⟨_, w₃, γ', hev w₃, ?_, fun w₄ hr4 => H2 (S4 q5 (St.rely ⟨I, loc, ?_⟩ hr4))⟩
 ·rw [hevs]; exact .refl hr3.wf'
 ·rw [h5]
  exact (hsg2.rely hr3).putD (d := some d2) (.pure (.raw _ rfl)) (fun t e => by cases e; show d2 < τ.n; rw [q4]; exact hd2)
end
def fpsF (H : Nat → AObj) (m : List (Option Nat)) (ex : List Nat) : List AObj → List Nat → Prop
 | [], [] => True
 | A :: r, o :: r' => A.live = true ∧ OXpF H m ex A (H o) ∧ fpsF H m ex r r'
 | _, _ => False
theorem fpsF.sound {H : Nat → AObj} {m : List (Option Nat)} {ex : List Nat} : ∀ {fp : List AObj} {ids : List Nat}, fpsF H m ex fp ids → fp.length = ids.length ∧ ∀ k (h : k < fp.length), fp[k].live = true ∧ OXp H (zUy m) (· ∈ ex) fp[k] (H (ids.getD k 0))
 | [], [], _ => ⟨rfl, fun k h => by simp at h⟩
 | A :: r, o :: r', h => by
  obtain ⟨h1, h2⟩ := fpsF.sound h.2.2
  refine ⟨by simp [h1], fun k hk => ?_⟩
  cases k with
  | zero => exact ⟨h.1, OXpF.sound h.2.1⟩
  | succ k => simpa using h2 k (by simpa using hk)
theorem N5 (ids : List Nat) : zUy (ids.map some) = r9 ids := by
 funext k
 unfold zUy r9
 by_cases h : k < ids.length
 ·simp [h, List.getD]
 ·simp [h]
theorem zCN {P : Program} {f : FuncId} {avs : List AV} {H : Nat → AObj} {nx : Nat} {K : Cont} (ids ex : List Nat) {args : List AV} {fp : List AObj} {r : AV} {out : List AObj} (sp : zUL P f args fp r out)
  (h1 : ids.Nodup) (h2 : XpL H (ids.map some) ex args avs) (h3 : fpsF H (ids.map some) ex fp ids) (h4 : ∀ o, o ∈ ex → o ∉ ids) (h5 : ex = [] ∨ (Scal r ∧ ∀ A, A ∈ out → C1 A))
  (h6 : ∀ j, j < out.length - ids.length → H (nx + j) = .unb) (h7 : ∀ A, A ∈ out → A ≠ .unb) (hk : K (r.ren (x9 ids nx)) (ids ++ ex ++ W9 ids nx out) (u7 ids nx out)) : zBJ P f avs H nx K := by
 refine ⟨ids, ex, args, fp, r, out, ⟨sp, h1, h4, ?_, (fpsF.sound h3).1, fun k h => ?_, h5, h6, h7⟩, hk⟩
 ·rw [← N5]; exact XpL.all2 h2
 ·rw [← N5]; exact (fpsF.sound h3).2 k h
theorem All2.refl {R : AV → AV → Prop} (h : ∀ x, R x x) : ∀ xs, All2 R xs xs
 | [] => .nil
 | x :: r => .cons (h x) (All2.refl h r)
theorem x7 {P : Program} {f : FuncId} {avs : List AV} {H : Nat → AObj} {nx : Nat} {K : Cont} (ids ex : List Nat) {args : List AV} {fp : List AObj} {r : AV} {out : List AObj} (sp : zUL P f args fp r out)
  (h1 : ids.Nodup) (h2 : XpL H (ids.map some) ex args avs) (h3 : fpsF H (ids.map some) ex fp ids) (h4 : ∀ o, o ∈ ex → o ∉ ids) (h5 : ex = [] ∨ (Scal r ∧ ∀ A, A ∈ out → C1 A))
  (h6 : ∀ j, j < out.length - ids.length → H (nx + j) = .unb) (h7 : ∀ A, A ∈ out → A ≠ .unb) (hk : K (r.ren (x9 ids nx)) (ids ++ ex ++ W9 ids nx out) (u7 ids nx out)) : y2 P f avs H nx K := by
 refine ⟨[], avs, All2.refl (fun x => Xp.refl H _ x) avs, ?_⟩
 have e : (fun o => if o ∈ ([] : List Nat) then AObj.dead else H o) = H := by funext o; simp
 rw [e]
 exact zCN ids ex sp h1 h2 h3 h4 h5 h6 h7 hk
theorem All2.map {R : AV → AV → Prop} {f : AV → AV} : ∀ {xs : List AV}, (∀ x, x ∈ xs → R (f x) x) → All2 R (xs.map f) xs
 | [], _ => .nil
 | x :: r, h => .cons (h x (by simp)) (All2.map (fun y hy => h y (by simp [hy])))
theorem zEZ {P : Program} {f : FuncId} {avs : List AV} {H : Nat → AObj} {nx : Nat} {K : Cont} (h : zBJ P f (avs.map fun x => (zUO H 3 x).1) (fun o => if o ∈ (avs.map fun x => (zUO H 3 x).2).flatten then .dead else H o) nx
  (fun v rd wr => K v ((avs.map fun x => (zUO H 3 x).2).flatten ++ rd) (w5 (avs.map fun x => (zUO H 3 x).2).flatten ++ wr))) : y2 P f avs H nx K :=
 ⟨_, _, All2.map (fun x hx => zBV H _ 3 x (fun o ho => List.mem_flatten.2 ⟨_, List.mem_map.2 ⟨x, hx, rfl⟩, ho⟩)), h⟩
attribute [go_sem] fpsF
end Go.Abs

namespace Go.Abs
open Go
end Go.Abs

namespace Go.Abs
open Go
variable [Cur]
def zBk (tmps : Array Value) (ps : Array Tmp) (vs : Array Value) : Array Value := (ps.zip vs).foldl (fun tmps (t, a) => tmps.setIfInBounds t a) tmps
def roundC (P : Program) : G4 := fun loc vs w γ R =>
 ∃ l c, loc 0 = .blk l c ∧ Bx (fun w₁ => ∃ r, w₁.heap[l]? = some (.loop r) ∧ vs.size = r.params.size ∧ zAu (Cur.way P) l r.fn (zBk r.tmps r.params vs) r.assign r.body R w₁ γ) γ w
theorem roundC.mono {P : Program} (loc : Nat → Loc) (vs : Array Value) (w : World) (γ : Gh) (R R' : zUd) (h : ∀ e w' γ', R e w' γ' → R' e w' γ') (hc : roundC P loc vs w γ R) : roundC P loc vs w γ R' :=
 let ⟨l, c, h1, h2⟩ := hc
 ⟨l, c, h1, fun w₁ hr => let ⟨r, k1, k2, k3⟩ := h2 w₁ hr; ⟨r, k1, k2, zGl k3 h⟩⟩
def Y4 (P : Program) (args : List AV) (fp : List AObj) (r : AV) (out : List AObj) : Prop := zAR (roundC P) args fp r out
def X8 (env : List (Nat × AV)) : List Tmp → List AV → List (Nat × AV)
 | t :: ts, x :: xs => X8 ((t, x) :: env) ts xs
 | _, _ => env
theorem zGh {w : World} {I : Nat → Prop} {loc : Nat → Loc} {n : Nat} : ∀ (ts : List Tmp) (xs : List AV) (vs : List Value) (env : List (Nat × AV)) (tmps : Array Value), tmps.size = n → (∀ t, t ∈ ts → t < n) → (∀ t, VR w I loc (lkV env t) (tmps.getD t undef)) →
  xs.length = vs.length → (∀ i (h : i < xs.length) (h' : i < vs.length), VR w I loc xs[i] vs[i]) →
  ((ts.zip vs).foldl (fun tmps (p : Tmp × Value) => tmps.setIfInBounds p.1 p.2) tmps).size = n ∧ ∀ t, VR w I loc (lkV (X8 env ts xs) t) (((ts.zip vs).foldl (fun tmps (p : Tmp × Value) => tmps.setIfInBounds p.1 p.2) tmps).getD t undef)
 | [], xs, vs, env, tmps, hn, _, he, _, _ => by
  refine ⟨by simpa using hn, fun t => ?_⟩
  have : X8 env [] xs = env := by cases xs <;> rfl
  rw [this]; simpa using he t
 | t :: ts, [], [], env, tmps, hn, _, he, _, _ => ⟨by simpa using hn, fun t => by simpa [X8] using he t⟩
 | t :: ts, x :: xs, v :: vs, env, tmps, hn, ht, he, hl, hx => by
  have h0 : t < n := ht t (by simp)
  simp only [List.zip_cons_cons, List.foldl_cons, X8]
  refine zGh ts xs vs ((t, x) :: env) (tmps.setIfInBounds t v) (by simpa using hn) (fun u hu => ht u (by simp [hu])) (fun u => ?_) (by simpa using hl) (fun i h h' => by have := hx (i + 1) (by simpa using h) (by simpa using h'); simp only [List.getElem_cons_succ] at this; exact this)
  simp only [lkV]
  by_cases e : t = u
  ·subst e
   rw [if_pos rfl]
   have : (tmps.setIfInBounds t v).getD t undef = v := by
    have ht' : t < tmps.size := by rw [hn]; exact h0
    simp [ht']
   rw [this]
   have := hx 0 (by simp) (by simp)
   simp only [List.getElem_cons_zero] at this
   exact this
  ·rw [if_neg e]
   have : (tmps.setIfInBounds t v).getD u undef = tmps.getD u undef := by simp [Array.getElem?_setIfInBounds, e]
   rw [this]; exact he u
 | t :: ts, [], v :: vs, _, _, _, _, _, h, _ => by simp at h
 | t :: ts, x :: xs, [], _, _, _, _, _, h, _ => by simp at h
def N0 : Option (Option Code) → LoopState
 | none => .busy
 | some none => .ready
 | some (some _) => .done
theorem or_loop {w : World} {I : Nat → Prop} {loc : Nat → Loc} {o : Nat} {L : LoopK} {env : List (Nat × AV)} {p : Option (Option Code)} :
  OR w I loc o (.loopo L env p) ↔ ∃ b tmps ds, loc o = .blk b 0 ∧ w.heap[b]? = some (.loop { state := N0 p, pending := p.getD none, fn := L.fn, tmps := tmps, params := L.params, assign := L.assign, body := L.body, defers := ds }) ∧ tmps.size = L.n ∧ ∀ t, VR w I loc (lkV env t) (tmps.getD t undef) := by
 cases p with
 | none => exact Iff.rfl
 | some q => cases q <;> exact Iff.rfl
theorem SR.loopSet {E : Env} {I : Nat → Prop} {loc : Nat → Loc} {σ : AS} {a : Act} {w : World} (h : SR E I loc σ a w) {o : Nat} {L : LoopK} {env : List (Nat × AV)} {p : Option (Option Code)} (ho : σ.obj o = .loopo L env p) (p' : Option (Option Code)) :
  ∃ b r, loc o = .blk b 0 ∧ w.heap[b]? = some (.loop r) ∧ r.fn = L.fn ∧ r.params = L.params ∧ r.assign = L.assign ∧ r.body = L.body ∧ r.state = N0 p ∧ r.pending = p.getD none ∧
   r.tmps.size = L.n ∧ (∀ t, VR w I loc (lkV env t) (r.tmps.getD t undef)) ∧
   SR E I loc (σ.setO o (.loopo L env p')) a (w.putObj b (.loop { r with state := N0 p', pending := p'.getD none })) := by
 have hob := h.objs o
 rw [ho] at hob
 obtain ⟨b, tmps, ds, h1, h2, h3, h4⟩ := or_loop.1 hob
 have hb : b < w.heap.size := (Array.getElem?_eq_some_iff.1 h2).1
 have hsep := (h.sep o b 0 (by rw [ho]; rfl) h1).1
 refine ⟨b, _, h1, h2, rfl, rfl, rfl, rfl, rfl, rfl, h3, h4, ?_⟩
 refine h.writeG (w' := w.putObj b (.loop { state := N0 p', pending := p'.getD none, fn := L.fn, tmps := tmps, params := L.params, assign := L.assign, body := L.body, defers := ds })) (A := .loopo L env p') (by rw [ho]; rfl) h1 rfl rfl rfl (by simp) (fun k hk => E7 hk) ?_ (by simp)
 refine or_loop.2 ⟨b, tmps, ds, h1, World.putObj_heap_same hb, h3, fun t => (h4 t).mono (fun k hk => E7 (r := b) (fun e => hsep (by rw [← e]; exact hk))) (fun _ x => x) (fun _ _ => rfl)⟩
theorem SG.loopSet {E : Env} {I : Nat → Prop} {γ : Gh} {loc : Nat → Loc} {σ : AS} {a : Act} {w : World} (h : SG E I γ loc σ a w) {o : Nat} {L : LoopK} {env : List (Nat × AV)} {p : Option (Option Code)} (ho : σ.obj o = .loopo L env p) (p' : Option (Option Code)) :
  ∃ b r, loc o = .blk b 0 ∧ γ.O b ∧ w.heap[b]? = some (.loop r) ∧ r.fn = L.fn ∧ r.params = L.params ∧ r.assign = L.assign ∧ r.body = L.body ∧ r.state = N0 p ∧ r.pending = p.getD none ∧
   r.tmps.size = L.n ∧ (∀ t, VR w I loc (lkV env t) (r.tmps.getD t undef)) ∧
   SG E I γ loc (σ.setO o (.loopo L env p')) a (w.putObj b (.loop { r with state := N0 p', pending := p'.getD none })) := by
 obtain ⟨b, r, g1, g2, g3, g4, g5, g6, g7, g8, g9, g10, g11⟩ := h.sr.loopSet ho p'
 refine ⟨b, r, g1, h.og.live o b 0 (by rw [ho]; rfl) g1, g2, g3, g4, g5, g6, g7, g8, g9, g10, ⟨g11, ⟨⟨fun k hk => by rw [World.putObj_size]; exact h.og.wf.lt k hk, h.og.wf.apart⟩, h.og.rd, fun k c d hl e => ?_, h.og.mark, h.og.own, h.og.fro⟩⟩⟩
 rw [AS.obj_setO] at hl
 by_cases hk : o = k
 ·subst hk; rw [g1] at e; cases e; exact h.og.live o b 0 (by rw [ho]; rfl) g1
 ·rw [if_neg hk] at hl; exact h.og.live k c d hl e
def zWE (n : Nat) (r : AV) (out : List AObj) (σ : AS) : Prop :=
 ∃ m ex, XpF σ.obj m ex r r ∧ objsF σ m ex out m ∧ P3 (L0 out m) = true ∧ ex.all (fun o => !m.contains (some o)) = true ∧ (List.range n).all (fun k => m[k]? == some (some k)) = true
theorem K3 {P : Program} {L : LoopK} {env : List (Nat × AV)} {rest : List AObj} {args : List AV} {out : List AObj} {j : Option Code} (hp : L.params.toList.all (fun t => decide (t < L.n)) = true) (hl : args.length = L.params.size)
  (h : ∀ E l, E.n = rest.length + 1 → HoldR l P E L.assign (fun e σ1 => e = .normal ∧ σ1.obj 0 = .loopo L env (some none) ∧ HoldR l P E L.body (fun e σ2 => σ2.obj 0 = .loopo L env none ∧ zVr e = some j ∧ zWE (rest.length + 1) (.raw (.bool j.isNone)) out (σ2.setO 0 (.loopo L env (some j))))
   (σ1.setO 0 (.loopo L env none))) ⟨L.n, X8 env L.params.toList args, zUS 0 (.loopo L env (some none) :: rest)⟩) : Y4 P args (.loopo L env (some none) :: rest) (.raw (.bool j.isNone)) out := by
 intro w I γ loc vs hs hvl hv
 have hb0 : (Go.Abs.hs (.loopo L env (some none) :: rest)).obj 0 = .loopo L env (some none) := by rw [O8]; rfl
 obtain ⟨b, _, g1, _⟩ := hs.loopSet hb0 none
 refine ⟨b, 0, g1, fun w₁ hr => ?_⟩
 obtain ⟨b', r, g1', gO, g2, g3, g4, g5, g6, g7, g8, g9, g10, _⟩ := (hs.rely hr).loopSet hb0 none
 rw [g1] at g1'; cases g1'
 have hsz : vs.size = r.params.size := by rw [g4, hvl, hl]
 refine ⟨r, g2, hsz, ?_⟩
 have hs1 := hs.rely hr
 have hv1 : ∀ i (h : i < args.length) (h' : i < vs.size), VR w₁ I loc args[i] vs[i] := fun i h h' => (hv i h h').mono (fun b hb => hr.block b (hs.og.rd b hb)) (fun _ x => x) (fun _ _ => rfl)
 have hpt : ∀ t, t ∈ L.params.toList → t < L.n := fun t ht => by
  rw [List.all_eq_true] at hp
  have := hp t ht
  simpa using this
 obtain ⟨q1, q2⟩ := zGh (w := w₁) (I := I) (loc := loc) L.params.toList args vs.toList env r.tmps g9 hpt g10 (by simpa using hvl.symm) (fun i h h' => by have := hv1 i h (by simpa using h'); simpa using this)
 have hfold : zBk r.tmps r.params vs = (L.params.toList.zip vs.toList).foldl (fun tmps (p : Tmp × Value) => tmps.setIfInBounds p.1 p.2) r.tmps := by
  unfold zBk
  rw [g4, ← Array.foldl_toList, Array.toList_zip]
 rw [hfold]
 have hst : SG (o6 w I γ (rest.length + 1) loc) I γ loc ⟨L.n, X8 env L.params.toList args, zUS 0 (.loopo L env (some none) :: rest)⟩ { tmps := (L.params.toList.zip vs.toList).foldl (fun tmps (p : Tmp × Value) => tmps.setIfInBounds p.1 p.2) r.tmps, defers := [] } w₁ :=
  ⟨⟨.nil, q1, q2, hs1.sr.objs, hs1.sr.inj, hs1.sr.imm, hs1.sr.sep, hs1.sr.fr, hs1.sr.base, hs1.sr.top, hs1.sr.keep⟩, ⟨hs1.og.wf, hs1.og.rd, hs1.og.live, fun d r hd => by simp at hd, hs1.og.own, hs1.og.fro⟩⟩
 have hrun := h (o6 w I γ (rest.length + 1) loc) b rfl _ w₁ γ ⟨I, loc, hst⟩
 rw [g5, g6]
 refine zNh (M2 hrun ?_)
 rintro e a1 w1 γ1 ⟨σ1, ⟨rfl, k1, k2⟩, I1, loc1, hs1⟩
 refine ⟨rfl, fun w₂ hr2 => ?_⟩
 obtain ⟨b1, r1, m1, mO, m2, m3, m4, m5, m6, m7, m8, m9, m10, m11⟩ := (hs1.rely hr2).loopSet k1 none
 have hb1 : b1 = b := by
  have : loc1 0 = loc 0 := (hs1.sr.keep 0 (Nat.succ_pos _)).1
  rw [m1, g1] at this; cases this; rfl
 subst hb1
 refine ⟨r1, m2, by rw [m7]; rfl, mO, ?_⟩
 have hw : w₂.putObj b1 (.loop { r1 with state := .busy }) = w₂.putObj b1 (.loop { r1 with state := N0 none, pending := Option.getD (none : Option (Option Code)) none }) := by
  have : r1.pending = none := m8
  simp only [N0, Option.getD_none, ← this]
 rw [hw]
 refine M2 (k2 a1 _ γ1 ⟨I1, loc1, m11⟩) ?_
 rintro e a2 w2 γ2 ⟨σ2, ⟨k3, k4, m, ex, t1, t2, t3, t4, t5⟩, I2, loc2, hs2⟩
 refine ⟨j, k4, fun w₃ hr3 => ?_⟩
 obtain ⟨b2, r2, n1, nO, n2, n3, n4, n5, n6, n7, n8, n9, n10, n11⟩ := (hs2.rely hr3).loopSet k3 (some j)
 have hb2 : b2 = b1 := by
  have : loc2 0 = loc 0 := (hs2.sr.keep 0 (Nat.succ_pos _)).1
  rw [n1, g1] at this; cases this; rfl
 subst hb2
 have hst2 : ({ r2 with state := if j.isNone then .ready else .done, pending := j } : Loop) = { r2 with state := N0 (some j), pending := (some j).getD none } := by cases j <;> rfl
 refine ⟨r2, n2, nO, fun w₄ hr4 => ?_⟩
 rw [hst2] at hr4
 have hweak : Weak (rest.length + 1) m ex (σ2.setO 0 (.loopo L env (some j))) σ2.n [] out := ⟨rfl, trivial, t2, t3, t4, t5⟩
 have n12 := n11.rely hr4
 have hsr := n12.wk hweak.wk.1 rfl hweak.wk.2
 have hval := Xp.sound n12.sr (XpF.sound t1) (.pure (.raw (.bool j.isNone) rfl))
 have hlen : rest.length + 1 ≤ out.length := by
  have h7 := (t2.sound).1
  rw [List.all_eq_true] at t5
  have := t5 rest.length (by simp)
  have hm : m[rest.length]? = some (some rest.length) := by simpa using this
  have := (List.getElem?_eq_some_iff.1 hm).1
  omega
 exact ⟨_, _, _, rfl, ⟨hsr.bare, hval, hlen⟩⟩
end Go.Abs

namespace Go.Abs
open Go
variable [Cur]
def G3 (P : Program) (y : AV) (avs : List AV) (H : Nat → AObj) (nx : Nat) (K : Cont) : Prop :=
 ∃ oid ids ex args fp r out, y = .yld oid ∧ ids.head? = some oid ∧ MetX (roundC P) avs H nx ids ex args fp r out ∧ K (r.ren (x9 ids nx)) (ids ++ ex ++ W9 ids nx out) (u7 ids nx out)
section
variable {P : Program} {E : Env} {I : Nat → Prop} {loc : Nat → Loc} {σ : AS} {a : Act} {w : World}
theorem zRj {ρ : Option Nat} {γ : Gh} (hst : St E σ a w γ) {o : Oper} {fo : Operand} {args : Array Operand} {ts : Array TypeId} (hop : o.op = .call ⟨.value fo, args, ts⟩) {nx : Nat} {K : Cont}
  (h : G3 P (σ.ev fo) (args.toList.map σ.ev) σ.obj nx K) (hd : ∀ d, o.dst = some d → d < σ.n) {next : Nx3} {Q : w6}
  (hn : ∀ v rd wr a' w' γ', K v rd wr → St E ((σ.writes wr).putD o.dst v) a' w' γ' → next a' w' γ') : Z0 (Cur.way P) ρ o next Q a w γ := by
 obtain ⟨oid, ids, ex, args', fp, r, out, hy, hh, hm, hK⟩ := h
 refine T1 (.inr fun c e => by rw [hop] at e; cases e) fun w₁ hr => ?_
 obtain ⟨I, loc, hs⟩ := hst.rely hr
 obtain ⟨g1, g2⟩ := Y5 hs.sr args
 have hfo := hs.sr.ev fo
 rw [hy] at hfo
 generalize hfv : a.eval fo = fv at hfo
 obtain ⟨l, c, h1, h2⟩ := zBK (C := roundC P) roundC.mono hs g1 g2 hm
 obtain ⟨lp, h2, h3, h4⟩ := h2 w₁ (.refl hr.wf')
 cases hfo with
 | pure hp => cases hp
 | yld _ b c' hb =>
  have h0 : zUQ (r9 ids) loc 0 = loc oid := by
   cases ids with
   | nil => simp at hh
   | cons i r => simp at hh; subst hh; simp [zUQ, r9]
  rw [h0, hb] at h1
  cases h1
  have hlive : γ.O l ∨ γ.F l := by
   refine .inl (hs.og.live oid l c ?_ hb)
   have e0 : ids.getD 0 0 = oid := by
    cases ids with
    | nil => simp at hh
    | cons i r => simp at hh; subst hh; rfl
   have h5 := hm.fps 0 (by
    have := hm.fpl
    cases ids with
    | nil => simp at hh
    | cons i r => simp at this; omega)
   rw [e0] at h5
   exact h5.2.live h5.1
  have hrun : (execOp a.eval o).run P w₁ = .ok (.round l lp.fn (zBk lp.tmps lp.params (args.map a.eval)) lp.assign lp.body) w₁ := by
   simp only [execOp, hop, resolve, hfv, Deferred.ofValue, Sem.run_bind, Sem.run_pure, Result.andThen_ok, invoke, Array.empty_append]
   exact run_yield h2 h3
  have hsz : ¬ (args.map a.eval).size ≠ lp.params.size := by rw [h3]; simp
  have hevs : (execOp a.eval o).events P w₁ #[] = #[⟨.obj l, false, false⟩] := by
   have : (Instr.yield l (args.map a.eval)).events P w₁ #[] = #[⟨.obj l, false, false⟩] := by
    have : args.size = lp.params.size := by simpa using h3
    simp [Instr.yield, Instr.getLoop, getObj, bind, Sem.bind, pure, h2, Sem.runT, Sem.events, Obj.isChan, this, -Sem.runT_eq]
   simp only [execOp, hop, resolve, hfv, Deferred.ofValue, Sem.events_bind, Sem.run_pure, Sem.run_bind, Result.andThen_ok, Result.evThen_ok, Sem.events_pure, invoke, Array.empty_append]
   exact this
  have hg0 := Guar.refl hr.wf'
  refine ⟨_, w₁, γ, hrun, ⟨hg0.wf, hg0.tape, hg0.os, hg0.output, hg0.size, hg0.block, hg0.own, hg0.fro, hg0.tok, ?_⟩, ?_⟩
  ·rw [hevs]
   intro e he
   simp at he
   subst he
   exact ⟨rfl, hlive.elim (fun h => .inl h) (fun h => .inr ⟨rfl, h⟩)⟩
  ·simp only [zB2]
   refine zGl h4 ?_
   rintro e w' γ' ⟨v, I', loc', rfl, hsr, hvr, _⟩
   exact hn _ _ _ _ _ _ hK ⟨I', loc', hsr.putD hvr (fun d e => by rw [(U1 _ σ).1]; exact hd d e)⟩
theorem zDX {ρ : Option Nat} {all : List Oper} {K : AS → List Touch → Prop} {Q : w6} {m : Nat} (hm : m ≤ all.length) (hK : ∀ σ ts a w γ, K σ ts → St E σ a w γ → zUZ (Cur.way P) ρ all.toArray Q (List.range' m (all.length - m)) a w γ) :
  ∀ (l : List Oper) (k : Nat) (σ : AS) (ts : List Touch) (a : Act) (w : World) (γ : Gh), k + l.length = m → (∀ i (h : i < l.length), all[k + i]? = some l[i]) → q9 P all K l σ ts → St E σ a w γ → zUZ (Cur.way P) ρ all.toArray Q (List.range' k (all.length - k)) a w γ
 | [], k, σ, ts, a, w, γ, e, _, h, hs => by
  simp only [List.length_nil, Nat.add_zero] at e
  subst e
  exact hK σ ts a w γ h hs
 | o :: rest, k, σ, ts, a, w, γ, e, hg, h, hst => by
  simp only [List.length_cons] at e
  have hk : all[k]? = some o := by have := hg 0 (by simp); simpa using this
  have hlen : all.length - k = (all.length - (k + 1)) + 1 := by omega
  have hg' : ∀ i (h : i < rest.length), all[k + 1 + i]? = some rest[i] := fun i h => by
   have := hg (i + 1) (by simpa using h)
   simp only [List.getElem_cons_succ] at this
   rw [show k + 1 + i = k + (i + 1) by omega]; exact this
  rw [hlen, List.range'_succ]
  obtain ⟨I, loc, hs⟩ := hst
  rcases zAi hs.sr h with ⟨hw, hd, he⟩ | ⟨hw, hd, hr⟩
  ·exact N2 (o := o) (by simpa using hk) hw (zAd ⟨I, loc, hs⟩ he (fun d e => by rw [e] at hd; exact hd) (fun v rd wr a' w' γ' hk hst => zDX hm hK rest (k + 1) _ _ a' w' γ' (by omega) hg' hk hst))
  ·refine zAB (by simp [hk, hw]) ?_
   have e2 : (all.toArray[k]?).bind (·.dst) = o.dst := by simp [hk]
   rw [e2]
   exact zDX hm hK rest (k + 1) _ _ _ w γ (by omega) hg' hr ⟨I, loc, hs.putD G0 (fun d e => by rw [e] at hd; exact hd)⟩
theorem A0 {ρ : Option Nat} {Q : Exit → AS → Prop} {id : Nat} {pre post : List Oper} {o : Oper} {Y : AS → Prop}
  (hY : ∀ σ1 a1 w1 γ1, Y σ1 → St E σ1 a1 w1 γ1 → (∀ d, o.dst = some d → d < σ1.n) → Z0 (Cur.way P) ρ o (fun a' w' γ' => ∃ σ', q9 P (pre ++ o :: post) (fun σ' _ => Q .normal σ') post σ' [] ∧ St E σ' a' w' γ') (zUr E Q) a1 w1 γ1)
  (h : q9 P (pre ++ o :: post) (fun σ1 _ => l5 (pre ++ o :: post) σ1 o
   ((match o.dst with | some d => ltN d σ1.n | none => True) ∧ Y σ1)
   ((match o.dst with | some d => ltN d σ1.n | none => True) ∧ q9 P (pre ++ o :: post) (fun σ' _ => Q .normal σ') post (σ1.putD o.dst (.tup [])) [])) pre σ []) : HoldG ρ P E (.region id (pre ++ o :: post).toArray false) Q σ := fun a w γ hs => by
 refine D7 ?_
 have hdrop : (pre ++ o :: post).drop (pre.length + 1) = post := by
  rw [show pre ++ o :: post = (pre ++ [o]) ++ post by simp]
  exact List.drop_left' (by simp)
 have tail : ∀ (σ : AS) (a : Act) (w : World) (γ : Gh), q9 P (pre ++ o :: post) (fun σ' _ => Q .normal σ') post σ [] → St E σ a w γ → zUZ (Cur.way P) ρ (pre ++ o :: post).toArray (zUr E Q) (List.range' (pre.length + 1) ((pre ++ o :: post).length - (pre.length + 1))) a w γ := fun σ a w γ h hs =>
  zAw (ρ := ρ) (Q := zUr E Q) (fun σ' _ a' w' γ' h1 h2 => S4 h1 h2) post (pre.length + 1) σ [] a w γ hdrop h hs
 have hat : (pre ++ o :: post)[pre.length]? = some o := by simp
 have := zDX (P := P) (E := E) (ρ := ρ) (Q := zUr E Q) (all := pre ++ o :: post) (m := pre.length) (by simp) (fun σ1 ts1 a1 w1 γ1 hg hst1 => by
  have hlen : (pre ++ o :: post).length - pre.length = ((pre ++ o :: post).length - (pre.length + 1)) + 1 := by simp; omega
  rw [hlen, List.range'_succ]
  obtain ⟨I1, loc1, hs1⟩ := hst1
  rcases zAi hs1.sr hg with ⟨hw, hd, he⟩ | ⟨hw, hd, hr⟩
  ·refine N2 (o := o) (by simpa using hat) hw (zGV (hY σ1 a1 w1 γ1 he ⟨I1, loc1, hs1⟩ (fun d e => by rw [e] at hd; exact hd)) ?_)
   rintro a' w' γ' ⟨σ', h1, h2⟩
   exact tail σ' a' w' γ' h1 h2
  ·refine zAB (by simp only [List.getElem?_toArray, hat, Option.map_some, Option.getD_some]; exact hw) ?_
   have e2 : ((pre ++ o :: post).toArray[pre.length]?).bind (·.dst) = o.dst := by simp
   rw [e2]
   exact tail _ _ _ _ hr ⟨I1, loc1, hs1.putD G0 (fun d e => by rw [e] at hd; exact hd)⟩) pre 0 σ [] a w γ (by simp) (fun i hi => by simp [List.getElem?_append_left hi, hi]) h hs
 rwa [Nat.sub_zero, ← List.range_eq_range'] at this
theorem zFe {ρ : Option Nat} {Q : Exit → AS → Prop} {id : Nat} {pre post : List Oper} {o : Oper} {fo : Operand} {args : Array Operand} {ts : Array TypeId} (hop : o.op = .call ⟨.value fo, args, ts⟩)
  (h : q9 P (pre ++ o :: post) (fun σ1 _ => l5 (pre ++ o :: post) σ1 o
   ((match o.dst with | some d => ltN d σ1.n | none => True) ∧ G3 P (σ1.ev fo) (args.toList.map σ1.ev) σ1.obj σ1.nx (fun v _ wr => q9 P (pre ++ o :: post) (fun σ' _ => Q .normal σ') post ((σ1.writes wr).putD o.dst v) []))
   ((match o.dst with | some d => ltN d σ1.n | none => True) ∧ q9 P (pre ++ o :: post) (fun σ' _ => Q .normal σ') post (σ1.putD o.dst (.tup [])) [])) pre σ []) : HoldG ρ P E (.region id (pre ++ o :: post).toArray false) Q σ :=
 A0 (Y := fun σ1 => G3 P (σ1.ev fo) (args.toList.map σ1.ev) σ1.obj σ1.nx (fun v _ wr => q9 P (pre ++ o :: post) (fun σ' _ => Q .normal σ') post ((σ1.writes wr).putD o.dst v) []))
  (fun σ1 a1 w1 γ1 he hst hd => zRj hst hop he hd (fun v rd wr a' w' γ' hk hst => ⟨_, hk, hst⟩)) h
theorem zL1 {Q : Exit → AS → Prop} {id : Nat} {pre post : List Oper} {o : Oper} {fo : Operand} {args : Array Operand} {ts : Array TypeId} (hop : o.op = .call ⟨.value fo, args, ts⟩)
  (h : q9 P (pre ++ o :: post) (fun σ1 _ => l5 (pre ++ o :: post) σ1 o
   ((match o.dst with | some d => ltN d σ1.n | none => True) ∧ G3 P (σ1.ev fo) (args.toList.map σ1.ev) σ1.obj σ1.nx (fun v _ wr => q9 P (pre ++ o :: post) (fun σ' _ => Q .normal σ') post ((σ1.writes wr).putD o.dst v) []))
   ((match o.dst with | some d => ltN d σ1.n | none => True) ∧ q9 P (pre ++ o :: post) (fun σ' _ => Q .normal σ') post (σ1.putD o.dst (.tup [])) [])) pre σ []) : Hold P E (.region id (pre ++ o :: post).toArray false) Q σ := zFe hop h
theorem zLo {l : Nat} {Q : Exit → AS → Prop} {id : Nat} {pre post : List Oper} {o : Oper} {fo : Operand} {args : Array Operand} {ts : Array TypeId} (hop : o.op = .call ⟨.value fo, args, ts⟩)
  (h : q9 P (pre ++ o :: post) (fun σ1 _ => l5 (pre ++ o :: post) σ1 o
   ((match o.dst with | some d => ltN d σ1.n | none => True) ∧ G3 P (σ1.ev fo) (args.toList.map σ1.ev) σ1.obj σ1.nx (fun v _ wr => q9 P (pre ++ o :: post) (fun σ' _ => Q .normal σ') post ((σ1.writes wr).putD o.dst v) []))
   ((match o.dst with | some d => ltN d σ1.n | none => True) ∧ q9 P (pre ++ o :: post) (fun σ' _ => Q .normal σ') post (σ1.putD o.dst (.tup [])) [])) pre σ []) : HoldR l P E (.region id (pre ++ o :: post).toArray false) Q σ := zFe hop h
theorem SR.mark (h : SR E I loc σ a w) : SR E I loc σ { a with defers := { target := .collected w.heap.size, args := #[] } :: a.defers } (w.alloc (.deferred (some []))) := by
 have hI : ∀ b, I b → (w.alloc (.deferred (some []))).heap[b]? = w.heap[b]? := fun b hb => Z8 _ _ _ (h.imm b hb)
 obtain ⟨ms, h0, hE, hn, hm⟩ := h.defers
 refine ⟨⟨_ :: ms, congrArg _ h0, hE, ?_, fun d hd => ?_⟩, h.size, fun t => (h.tmps t).mono hI (fun _ x => x) (fun _ _ => rfl), fun o => (h.objs o).mono hI (fun _ x => x) (fun _ _ => rfl) (fun e => h.un e) (fun hl b c hb => Z8 _ _ _ ((h.objs o).lt hl hb)), h.inj, fun b hb => by have := h.imm b hb; simp; omega, h.sep, ?_, h.base, h.top, h.keep⟩
 ·simp only [List.map_cons, List.nodup_cons]
  refine ⟨fun hq => ?_, hn⟩
  obtain ⟨d, hd, e⟩ := List.mem_map.1 hq
  obtain ⟨r, rfl, h1, _⟩ := hm d hd
  have := (Array.getElem?_eq_some_iff.1 h1).1
  simp at e; omega
 ·rcases List.mem_cons.1 hd with rfl | hd
  ·refine ⟨_, rfl, World.alloc_heap_new _ _, fun hi => by have := h.imm _ hi; omega, fun hlt => by have := h.fr.size; omega, fun o c hl e => ?_⟩
   have := (h.objs o).lt hl e; omega
  ·obtain ⟨r, rfl, h1, h2, h3, h4⟩ := hm d hd
   have hr := (Array.getElem?_eq_some_iff.1 h1).1
   exact ⟨r, rfl, by rw [Z8 _ _ _ hr]; exact h1, h2, h3, h4⟩
 ·exact h.fr.of_same rfl rfl rfl (by simp) (fun b hb _ => Z8 _ _ _ (by have := h.fr.size; omega))
theorem zIP {x : AV} {v : Value} {caps : List AV} {vs : Array Value} (h0 : VR w I loc x v) (hl : caps.length = vs.size) (h : ∀ i (h : i < caps.length) (h' : i < vs.size), VR w I loc caps[i] vs[i]) :
  (x :: caps).length = (#[v] ++ vs).size ∧ ∀ i (h : i < (x :: caps).length) (h' : i < (#[v] ++ vs).size), VR w I loc (x :: caps)[i] (#[v] ++ vs)[i] := by
 refine ⟨by simp; omega, fun i h1 h2 => ?_⟩
 cases i with
 | zero =>
  have e : (#[v] ++ vs)[0] = v := by simp
  rw [e]; exact h0
 | succ i =>
  have hi : i < vs.size := by simp at h2; omega
  have e : (#[v] ++ vs)[i + 1] = vs[i] := by simp [Array.getElem_append]
  rw [e]; exact h i (by simpa using h1) hi
def zGi (P : Program) (E : Env) (Q : Exit → AS → Prop) (nx : Nat) (σ : AS) : Prop :=
 ∃ L env p, σ.obj nx = .loopo L env (some p) ∧ (match p with
  | none => Q .normal (σ.setO nx .dead)
  | some c => Hold P E c Q (σ.setO nx .dead))
theorem SG.mark {γ : Gh} (h : SG E I γ loc σ a w) : SG E I ⟨fun b => γ.O b ∨ b = w.heap.size, γ.F, γ.tok⟩ loc σ { a with defers := { target := .collected w.heap.size, args := #[] } :: a.defers } (w.alloc (.deferred (some []))) := by
 refine ⟨h.sr.mark, ⟨(Guar.alloc h.og.wf).wf, fun b hb => (h.og.rd b hb).imp .inl id, fun o b c hl e => .inl (h.og.live o b c hl e), fun d r hd e => ?_, fun b hb => .inl (h.og.own b hb), h.og.fro⟩⟩
 rcases List.mem_cons.1 hd with rfl | hd
 ·simp only [Target.collected.injEq] at e; exact .inr e.symm
 ·exact .inl (h.og.mark d r hd e)
theorem zLw {Q : Exit → AS → Prop} {g : Operand} {ps : Array Tmp} {assign body : Code} {f : FuncId} {caps : List AV} (hg : σ.ev g = .fn f caps) (hc : y9 P f = true) {nx : Nat} (hnx : σ.obj nx = .unb)
  (h : ∀ fn, ∃ nx', y2 P f (.yld nx :: caps) (σ.setO nx (.loopo ⟨fn, ps, assign, body, σ.n⟩ σ.env (some none))).obj nx' (fun _ _ wr => zGi P E Q nx ((σ.setO nx (.loopo ⟨fn, ps, assign, body, σ.n⟩ σ.env (some none))).writes wr))) :
  Hold P E (.rangeFunc g ps assign body) Q σ := fun a w γ hst => by
 refine zRa fun _ => ?_
 have hgv0 : ∃ vs, a.eval g = .func (.func f) #[] vs := by
  obtain ⟨I, loc, hs⟩ := hst
  have hgv := hs.sr.ev g
  rw [hg] at hgv
  generalize a.eval g = fv at hgv
  cases hgv with
  | pure hp => cases hp
  | fn _ _ vs q1 q2 => exact ⟨vs, rfl⟩
 obtain ⟨vs, hfv⟩ := hgv0
 refine zRb hfv (fun args w => ⟨N7 hc args, zBR hc args⟩) (fun fn w₁ hr => ?_)
 obtain ⟨I, loc, hs⟩ := hst.rely hr
 obtain ⟨nx', hcall⟩ := h fn
 have hs1 := hs.mark
 have hG1 := Guar.alloc (o := .deferred (some [])) hs.og.wf
 have hG2 := Guar.alloc (o := .loop { state := .ready, pending := none, fn, tmps := a.tmps, params := ps, assign, body, defers := w₁.heap.size }) hs1.og.wf
 have hor : OR (L4 w₁ fn a ps assign body) I (y1 loc nx (.blk (w₁.alloc (.deferred (some []))).heap.size 0)) nx (.loopo ⟨fn, ps, assign, body, σ.n⟩ σ.env (some none)) := by
  refine or_loop.2 ⟨_, a.tmps, w₁.heap.size, by simp only [y1, if_true], World.alloc_heap_new _ _, hs.sr.size, fun t => ?_⟩
  exact (hs1.sr.tmps t).mono (fun b hb => Z8 _ _ _ (hs1.sr.imm b hb)) (fun _ x => x) (fun o ho => by
   unfold y1; rw [if_neg]; rintro rfl; exact ho (hs.sr.un hnx))
 have hs2 := hs1.sr.born hnx (.loop { state := .ready, pending := none, fn, tmps := a.tmps, params := ps, assign, body, defers := w₁.heap.size }) hor
 have hsz : (w₁.alloc (.deferred (some []))).heap.size = w₁.heap.size + 1 := by simp
 rw [hsz] at hs2
 have hsg : SG E I ⟨fun b => (γ.O b ∨ b = w₁.heap.size) ∨ b = w₁.heap.size + 1, γ.F, γ.tok⟩ (y1 loc nx (.blk (w₁.heap.size + 1) 0)) (σ.setO nx (.loopo ⟨fn, ps, assign, body, σ.n⟩ σ.env (some none))) (H3 w₁ a) (L4 w₁ fn a ps assign body) := by
  have hwf := hG2.wf
  rw [hsz] at hwf
  refine ⟨hs2, ⟨hwf, fun b hb => (hs1.og.rd b hb).imp .inl id, fun o b c hl e => ?_, fun d r hd e => .inl (hs1.og.mark d r hd e), fun b hb => .inl (hs1.og.own b hb), hs1.og.fro⟩⟩
  rw [AS.obj_setO] at hl
  by_cases ho : nx = o
  ·subst ho
   simp only [y1, if_true, Loc.blk.injEq] at e
   exact .inr e.1.symm
  ·rw [if_neg ho] at hl
   have ho' : ¬ o = nx := fun h => ho h.symm
   simp only [y1, if_neg ho'] at e
   exact .inl (hs1.og.live o b c hl e)
 have hGG : Guar γ ⟨fun b => (γ.O b ∨ b = w₁.heap.size) ∨ b = w₁.heap.size + 1, γ.F, γ.tok⟩ w₁ (L4 w₁ fn a ps assign body) #[] := by
  refine ⟨hsg.og.wf, rfl, rfl, rfl, Nat.le_trans hG1.size hG2.size, fun b hb ho => ?_, fun b hb => ?_, fun b hb => .inl hb, rfl, .nil⟩
  ·exact (Z8 _ _ _ (by rw [hsz]; omega)).trans (Z8 _ _ _ hb)
  ·rcases hb with (hb | rfl) | rfl
   ·exact .inl hb
   ·exact .inr (Nat.le_refl _)
   ·exact .inr (Nat.le_succ _)
 refine ⟨_, hGG, ?_⟩
 have hgv := hsg.sr.ev g
 have hge : (σ.setO nx (.loopo ⟨fn, ps, assign, body, σ.n⟩ σ.env (some none))).ev g = .fn f caps := by rw [← hg]; cases g <;> rfl
 rw [hge] at hgv
 have hev : (H3 w₁ a).eval g = a.eval g := by cases g <;> rfl
 rw [hev, hfv] at hgv
 cases hgv with
 | pure hp => cases hp
 | fn _ _ vs q1 q2 =>
  obtain ⟨z1, z2⟩ := zIP (x := .yld nx) (v := .func (.yield (w₁.heap.size + 1)) #[] #[]) (.yld _ _ 0 (by simp only [y1, if_true])) q1 q2
  obtain ⟨r, rd, wr, hK, hcl⟩ := zCM (vs := #[.func (.yield (w₁.heap.size + 1)) #[] #[]] ++ vs) hsg z1 z2 hcall
  refine R6 hcl ?_
  rintro e w' γ' ⟨v, I', loc', rfl, hsr, hvr, hkeep⟩
  obtain ⟨L, env, p, ho, hp⟩ := hK
  obtain ⟨b, rc, g1, gO, g2, g3, g4, g5, g6, g7, g8, g9, g10, _⟩ := hsr.loopSet ho none
  have hb : b = w₁.heap.size + 1 := by
   have := hkeep nx (by simp [y1])
   rw [g1] at this
   simp only [y1, if_true] at this
   cases this; rfl
  subst hb
  refine ⟨rc, g2, by rw [g7]; cases p <;> simp [N0], gO, ?_⟩
  have hsr2 : SR E I' loc' ((((σ.setO nx (.loopo ⟨fn, ps, assign, body, σ.n⟩ σ.env (some none))).writes wr)).setO nx .dead) (H3 w₁ a) (w'.putObj (w₁.heap.size + 1) (.loop { rc with state := .exhausted })) :=
   hsr.sr.writeG (w' := w'.putObj (w₁.heap.size + 1) (.loop { rc with state := .exhausted })) (by rw [ho]; rfl) g1 rfl rfl rfl (by simp) (fun k hk => E7 hk) trivial (by simp)
  have hsg2 : St E ((((σ.setO nx (.loopo ⟨fn, ps, assign, body, σ.n⟩ σ.env (some none))).writes wr)).setO nx .dead) (H3 w₁ a) (w'.putObj (w₁.heap.size + 1) (.loop { rc with state := .exhausted })) γ' := by
   refine ⟨I', loc', hsr2, ⟨⟨fun k hk => by rw [World.putObj_size]; exact hsr.og.wf.lt k hk, hsr.og.wf.apart⟩, hsr.og.rd, fun o k c hl e => ?_, hsr.og.mark, hsr.og.own, hsr.og.fro⟩⟩
   rw [AS.obj_setO] at hl
   by_cases hk : nx = o
   ·rw [if_pos hk] at hl; cases hl
   ·rw [if_neg hk] at hl; exact hsr.og.live o k c hl e
  split
  ·rename_i hq
   cases p with
   | none => exact S4 hp hsg2
   | some c => rw [g8] at hq; cases hq
  ·rename_i c hq
   cases p with
   | none => rw [g8] at hq; cases hq
   | some c' => rw [g8] at hq; cases hq; exact hp _ _ _ hsg2
end
end Go.Abs

namespace Go.Abs
open Go
variable [Cur]
attribute [go_sem] zAp zBh
section
variable {H : Nat → AObj} {m : List (Option Nat)} {ex : List Nat} {f : Nat → Nat} {n : Nat}
@[go_sem] theorem zSE (k o : Nat) : XpF H m ex (.yld k) (.yld o) ↔ m[k]? = some (some o) := by simp only [XpF]
@[go_sem] theorem zSu (t : TypeId) (o x : Nat) : zUO H (n + 1) (.ifp t o x) = (.ifp t o x, []) := rfl
@[go_sem] theorem zSt (t : TypeId) (x : AV) : zUO H (n + 1) (.ifc t x) = (.ifc t x, []) := rfl
@[go_sem] theorem zSm (xs : List AV) : zUO H (n + 1) (.clp xs) = (.clp xs, []) := rfl
@[go_sem] theorem zT5 (o : Nat) : AV.ren f (.yld o) = .yld (f o) := by simp only [AV.ren]
@[go_sem] theorem zS4 (o : Nat) : zUO H (n + 1) (.yld o) = (.yld o, []) := rfl
end
section
variable {P : Program} {f : FuncId} {args : List AV} {fp : List AObj} {r : AV} {out : List AObj}
theorem zIQ {w : World} {I : Nat → Prop} {loc : Nat → Loc} {v : Value} (h : VR w I loc (.list []) v) : ∃ a c, v = .slice a 0 c := by
 have hp := h.toPR (.list _)
 cases hp with
 | nil a c => exact ⟨a, c, rfl⟩
 | list b off cap sz _ C => exact ⟨_, _, rfl⟩
theorem zQL (h : ∀ a c, zUL P f (.raw (.slice a 0 c) :: args) fp r out) : zUL P f (.list [] :: args) fp r out := by
 intro w I γ loc vs hs hl hv
 have h0 : 0 < vs.size := by rw [hl]; simp
 have hv0 := hv 0 (by simp) h0
 simp only [List.getElem_cons_zero] at hv0
 obtain ⟨a, c, e⟩ := zIQ hv0
 refine h a c w I γ loc vs hs (by simpa using hl) (fun i hi hi' => ?_)
 cases i with
 | zero => simp only [List.getElem_cons_zero]; rw [e]; exact .pure (.raw _ rfl)
 | succ i =>
  have := hv (i + 1) (by simpa using hi) hi'
  simp only [List.getElem_cons_succ] at this ⊢
  exact this
end
end Go.Abs

namespace Go.Abs
open Go
abbrev Str := List UInt8
abbrev sV (l : Str) : AV := .raw (.string ⟨l.toArray⟩)
@[go_sem, simp] theorem zST (a b : List UInt8) : (⟨a.toArray⟩ : ByteArray) ++ ⟨b.toArray⟩ = ⟨(a ++ b).toArray⟩ := by
 apply ByteArray.ext
 rw [ByteArray.data_append]
 simp
@[go_sem, simp] theorem zSW (a : List UInt8) : (⟨a.toArray⟩ : ByteArray).size = a.length := by simp [ByteArray.size]
@[go_sem, simp] theorem zSU (a : List UInt8) : (⟨a.toArray⟩ : ByteArray).data.toList = a := rfl
@[go_sem, simp] theorem zSX (a : List UInt8) : (⟨a.toArray⟩ : ByteArray).toList = a := by rw [ByteArray.toList_eq]
@[go_sem, simp] theorem zSV (a : List UInt8) (i j : Nat) : (⟨a.toArray⟩ : ByteArray).extract i j = ⟨((a.take j).drop i).toArray⟩ := by
 apply ByteArray.ext
 rw [ByteArray.data_extract]
 simp [List.extract, List.drop_take]
theorem zBM {l : List UInt8} {i : Nat} (h : i < l.length) (ha : (l.getD i 0).toNat < 128) : Utf8.decode ⟨l.toArray⟩ i = ((l.getD i 0).toNat, 1) := by
 have e : (⟨l.toArray⟩ : ByteArray)[i]'(by simpa using h) = l.getD i 0 := by
  show l.toArray[i] = _
  simp [h]
 rw [decode_ascii (⟨l.toArray⟩ : ByteArray) i (by simpa using h) (by rw [e]; exact ha), e]
theorem zLH {l : List UInt8} {i : Nat} (h : i < l.length) : (⟨l.toArray⟩ : ByteArray).get! i = l.getD i 0 := by
 show l.toArray[i]! = _
 simp [h]
theorem zEl {l : List UInt8} {i : Nat} (h : i < l.length) (ha : 128 ≤ (l.getD i 0).toNat) : 128 ≤ (Utf8.decode ⟨l.toArray⟩ i).1 ∧ 1 ≤ (Utf8.decode ⟨l.toArray⟩ i).2 := by
 unfold Utf8.decode
 simp only [Nat.add_zero, zLH h]
 rw [if_neg (by omega)]
 repeat' split
 all_goals (first | (refine ⟨?_, by omega⟩; simp_all [Utf8.runeError]; done) | (refine ⟨?_, by omega⟩; simp_all [Utf8.runeError]; omega))
theorem zEr {n : Int} (h0 : 0 ≤ n) (h1 : n < 128) : Utf8.encode n = ⟨[UInt8.ofNat n.toNat].toArray⟩ := by
 unfold Utf8.encode
 have hv : Utf8.valid n = true := by unfold Utf8.valid; simp; omega
 simp only [hv, if_true]
 rw [if_pos (by omega)]
end Go.Abs

namespace Go.Abs
open Go
variable [Cur]
def zVG (P : Program) (f : FuncId) (avs : List AV) (H : Nat → AObj) (nx : Nat) (K : Cont) : Prop :=
 ∃ (T : Type) (_ : T) (ids ex : List Nat) (args : List AV) (fp : List AObj) (r : T → AV) (out : T → List AObj), C3 P f args fp r out ∧ (∀ t, MetX (fun _ _ _ _ _ => True) avs H nx ids ex args fp (r t) (out t)) ∧
  ∀ t, K ((r t).ren (x9 ids nx)) (ids ++ ex ++ W9 ids nx (out t)) (u7 ids nx (out t))
section
variable {P : Program} {E : Env} {I : Nat → Prop} {loc : Nat → Loc} {σ : AS} {a : Act} {w : World}
theorem zIX {γ : Gh} {f : FuncId} {avs : List AV} {vs : Array Value} {nx : Nat} {K : Cont} (hs : SG E I γ loc σ a w) (g1 : avs.length = vs.size) (g2 : ∀ i (h : i < avs.length) (h' : i < vs.size), VR w I loc avs[i] vs[i]) (h : zVG P f avs σ.obj nx K) :
  U6 (Cur.way P) .normal f vs (fun e w' γ' => ∃ v rd wr x, K v rd wr ∧ e = .returned x ∧ ∃ I' loc', SG E I' γ' loc' (σ.writes wr) a w' ∧ VR w' I' loc' v x) w γ := by
 obtain ⟨T, t0, ids, ex, as', fp, r, out, sp, hm, hK⟩ := h
 obtain ⟨⟨h1, h2, h3⟩, _⟩ := zCP hs g1 g2 (hm t0)
 refine R6 (sp w _ γ _ _ h1 h2 h3) ?_
 rintro e w' γ' ⟨t, hp⟩
 obtain ⟨_, hb⟩ := zCP hs g1 g2 (hm t)
 obtain ⟨v, I', loc', h4, h5, h6, _⟩ := hb e w' γ' hp
 exact ⟨_, _, _, v, hK t, h4, I', loc', h5, h6⟩
theorem zEs {ρ : Option Nat} {γ : Gh} (hst : St E σ a w γ) {o : Oper} {f : FuncId} {nx : Nat} {K : Cont} (hnd : ∀ c, o.op ≠ .defer c) (hd : ∀ d, o.dst = some d → d < σ.n) {next : Nx3} {Q : w6}
  (hrun : ∀ w I loc, SG E I γ loc σ a w → ∃ avs vs, (execOp a.eval o).run P w = .ok (.enter f vs) w ∧ (execOp a.eval o).events P w #[] = #[] ∧ avs.length = vs.size ∧ (∀ i (h : i < avs.length) (h' : i < vs.size), VR w I loc avs[i] vs[i]) ∧ zVG P f avs σ.obj nx K)
  (hn : ∀ v rd wr a' w' γ', K v rd wr → St E ((σ.writes wr).putD o.dst v) a' w' γ' → next a' w' γ') : Z0 (Cur.way P) ρ o next Q a w γ := by
 refine T1 (.inr hnd) fun w₁ hr => ?_
 obtain ⟨I, loc, hs⟩ := hst.rely hr
 obtain ⟨avs, vs, k1, k2, k3, k4, k5⟩ := hrun w₁ I loc hs
 refine ⟨_, w₁, γ, k1, by rw [k2]; exact .refl hr.wf', ?_⟩
 simp only [zB2]
 refine R6 (zIX hs k3 k4 k5) ?_
 rintro e w' γ' ⟨v, rd, wr, x, hK, rfl, I', loc', hsr, hvr⟩
 exact hn _ _ _ _ _ _ hK ⟨I', loc', hsr.putD hvr (fun d e => by rw [(U1 _ σ).1]; exact hd d e)⟩
theorem zIY {ρ : Option Nat} {γ : Gh} (hst : St E σ a w γ) {o : Oper} {fo : Operand} {args : Array Operand} {ts : Array TypeId} (hop : o.op = .call ⟨.value fo, args, ts⟩) {f : FuncId} (hfe : σ.ev fo = .raw (.func (.func f) #[] #[])) (hc : y9 P f = true) {nx : Nat} {K : Cont}
  (h : zVG P f (args.toList.map σ.ev) σ.obj nx K) (hd : ∀ d, o.dst = some d → d < σ.n) {next : Nx3} {Q : w6}
  (hn : ∀ v rd wr a' w' γ', K v rd wr → St E ((σ.writes wr).putD o.dst v) a' w' γ' → next a' w' γ') : Z0 (Cur.way P) ρ o next Q a w γ :=
 zEs hst (f := f) (nx := nx) (K := K) (fun c e => by rw [hop] at e; cases e) hd (fun w I loc hs => by
  have hfo := hs.sr.ev fo
  obtain ⟨g1, g2⟩ := Y5 hs.sr args
  rw [hfe] at hfo
  have e := hfo.raw_eq
  refine ⟨_, args.map a.eval, ?_, ?_, g1, g2, h⟩
  ·simp only [execOp, hop, resolve, e, Deferred.ofValue, Sem.run_bind, Sem.run_pure, Result.andThen_ok, invoke, Array.append_empty, Array.empty_append]
   exact N7 hc _
  ·simp only [execOp, hop, resolve, e, Deferred.ofValue, Sem.events_bind, Sem.run_bind, Sem.run_pure, Result.andThen_ok, Result.evThen_ok, Sem.events_pure, invoke, Array.append_empty, Array.empty_append]
   exact zBR hc _) hn
theorem zLp {Q : Exit → AS → Prop} {id : Nat} {pre post : List Oper} {o : Oper} {fo : Operand} {args : Array Operand} {ts : Array TypeId} (hop : o.op = .call ⟨.value fo, args, ts⟩) {f : FuncId} (hc : y9 P f = true) (hg : o.guard = none)
  (h : q9 P (pre ++ o :: post) (fun σ1 _ => (match o.dst with | some d => ltN d σ1.n | none => True) ∧ σ1.ev fo = .raw (.func (.func f) #[] #[]) ∧
   zVG P f (args.toList.map σ1.ev) σ1.obj σ1.nx (fun v _ wr => q9 P (pre ++ o :: post) (fun σ' _ => Q .normal σ') post ((σ1.writes wr).putD o.dst v) [])) pre σ []) : Hold P E (.region id (pre ++ o :: post).toArray false) Q σ :=
 A0 (Y := fun σ1 => σ1.ev fo = .raw (.func (.func f) #[] #[]) ∧ zVG P f (args.toList.map σ1.ev) σ1.obj σ1.nx (fun v _ wr => q9 P (pre ++ o :: post) (fun σ' _ => Q .normal σ') post ((σ1.writes wr).putD o.dst v) []))
  (fun σ1 a1 w1 γ1 he hst hd => zIY hst hop he.1 hc he.2 hd (fun v rd wr a' w' γ' hk hst => ⟨_, hk, hst⟩))
  (D5 (fun σ1 ts h1 => E6 hg ⟨h1.1, h1.2⟩) h)
end
section
variable {P : Program} {E : Env} {Q : Exit → AS → Prop} {σ : AS} {p : List Nat} {b : Code}
theorem zN1 {id : Nat} {ops : List Oper} (k : Nat) (h : sub p b = .region id ops.toArray false) {o : Oper} (hk : ops[k]? = some o) {fo : Operand} {args : Array Operand} {ts : Array TypeId} (hop : o.op = .call ⟨.value fo, args, ts⟩) {f : FuncId} (hc : y9 P f = true) (hg : o.guard = none)
  (hx : q9 P ops (fun σ1 _ => (match o.dst with | some d => ltN d σ1.n | none => True) ∧ σ1.ev fo = .raw (.func (.func f) #[] #[]) ∧
   zVG P f (args.toList.map σ1.ev) σ1.obj σ1.nx (fun v _ wr => q9 P ops (fun σ' _ => Q .normal σ') (ops.drop (k + 1)) ((σ1.writes wr).putD o.dst v) [])) (ops.take k) σ []) : Hold P E (sub p b) Q σ := by
 obtain ⟨hlt, he⟩ := List.getElem?_eq_some_iff.1 hk
 have e : ops = ops.take k ++ o :: ops.drop (k + 1) := by
  rw [← he, ← List.drop_eq_getElem_cons hlt, List.take_append_drop]
 obtain ⟨pre, hpre⟩ : ∃ pre, pre = ops.take k := ⟨_, rfl⟩
 obtain ⟨post, hpost⟩ : ∃ post, post = ops.drop (k + 1) := ⟨_, rfl⟩
 rw [← hpre, ← hpost] at e hx
 rw [h]
 clear h hk he hlt hpre hpost
 subst e
 exact zLp hop hc hg hx
end
theorem zCG {T : Type} (t0 : T) {P : Program} {f : FuncId} {avs : List AV} {H : Nat → AObj} {nx : Nat} {K : Cont} (ids ex : List Nat) {args : List AV} {fp : List AObj} {r : T → AV} {out : T → List AObj} (sp : C3 P f args fp r out)
  (h1 : ids.Nodup) (h2 : XpL H (ids.map some) ex args avs) (h3 : fpsF H (ids.map some) ex fp ids) (h4 : ∀ o, o ∈ ex → o ∉ ids) (h5 : ex = [] ∨ ∀ t, (Scal (r t) ∧ ∀ A, A ∈ out t → C1 A))
  (h6 : ∀ t j, j < (out t).length - ids.length → H (nx + j) = .unb) (h7 : ∀ t A, A ∈ out t → A ≠ .unb) (hk : ∀ t, K ((r t).ren (x9 ids nx)) (ids ++ ex ++ W9 ids nx (out t)) (u7 ids nx (out t))) : zVG P f avs H nx K := by
 refine ⟨T, t0, ids, ex, args, fp, r, out, sp, fun t => ⟨fun _ _ _ _ _ _ _ _ => trivial, h1, h4, ?_, (fpsF.sound h3).1, fun k h => ?_, h5.imp (fun h => h) (fun h => h t), h6 t, h7 t⟩, hk⟩
 ·rw [← N5]; exact XpL.all2 h2
 ·rw [← N5]; exact (fpsF.sound h3).2 k h
end Go.Abs

namespace Go.Proofs
@[go_sem] theorem Tryz.sz3 : Abs.sizeT prog 3 = some 1 := by kernel_rfl
@[go_sem] theorem Tryz.by3 : Abs.bytesT prog 3 = some 8 := by kernel_rfl
@[go_sem] theorem Tryz.ze3 : Abs.zeroT prog 3 = some (.int .i64 0) := by kernel_rfl
@[go_sem] theorem Tryz.sz5 : Abs.sizeT prog 5 = some 1 := by kernel_rfl
@[go_sem] theorem Tryz.by5 : Abs.bytesT prog 5 = some 1 := by kernel_rfl
@[go_sem] theorem Tryz.ze5 : Abs.zeroT prog 5 = some (.int .u8 0) := by kernel_rfl
@[go_sem] theorem Tryz.sz9 : Abs.sizeT prog 9 = some 1 := by kernel_rfl
@[go_sem] theorem Tryz.by9 : Abs.bytesT prog 9 = some 16 := by kernel_rfl
@[go_sem] theorem Tryz.ze9 : Abs.zeroT prog 9 = some (.string ⟨#[]⟩) := by kernel_rfl
@[go_sem] theorem Tryz.sl22 : Abs.sliceT prog 22 = some 3 := by kernel_rfl
@[go_sem] theorem Tryz.sl25 : Abs.sliceT prog 25 = some 140 := by kernel_rfl
@[go_sem] theorem Tryz.sl26 : Abs.sliceT prog 26 = some 66 := by kernel_rfl
@[go_sem] theorem Tryz.sl29 : Abs.sliceT prog 29 = some 75 := by kernel_rfl
@[go_sem] theorem Tryz.sl30 : Abs.sliceT prog 30 = some 39 := by kernel_rfl
@[go_sem] theorem Tryz.sl37 : Abs.sliceT prog 37 = some 9 := by kernel_rfl
@[go_sem] theorem Tryz.sz39 : Abs.sizeT prog 39 = some 5 := by kernel_rfl
@[go_sem] theorem Tryz.by39 : Abs.bytesT prog 39 = some 48 := by kernel_rfl
@[go_sem] theorem Tryz.ze39 : Abs.zeroT prog 39 = some (.agg #[.string ⟨#[]⟩, .int .i64 0, .int .i64 0, .int .i64 0, .bool false]) := by kernel_rfl
@[go_sem] theorem Tryz.sz66 : Abs.sizeT prog 66 = some 4 := by kernel_rfl
@[go_sem] theorem Tryz.by66 : Abs.bytesT prog 66 = some 56 := by kernel_rfl
@[go_sem] theorem Tryz.ze66 : Abs.zeroT prog 66 = some (.agg #[.string ⟨#[]⟩, .int .i64 0, .int .i64 0, .slice none 0 0]) := by kernel_rfl
@[go_sem] theorem Tryz.sz75 : Abs.sizeT prog 75 = some 2 := by kernel_rfl
@[go_sem] theorem Tryz.by75 : Abs.bytesT prog 75 = some 32 := by kernel_rfl
@[go_sem] theorem Tryz.ze75 : Abs.zeroT prog 75 = some (.agg #[.string ⟨#[]⟩, .string ⟨#[]⟩]) := by kernel_rfl
@[go_sem] theorem Tryz.sz94 : Abs.sizeT prog 94 = some 1 := by kernel_rfl
@[go_sem] theorem Tryz.by94 : Abs.bytesT prog 94 = some 16 := by kernel_rfl
@[go_sem] theorem Tryz.ze94 : Abs.zeroT prog 94 = some (.string ⟨#[]⟩) := by kernel_rfl
@[go_sem] theorem Tryz.sz140 : Abs.sizeT prog 140 = some 2 := by kernel_rfl
@[go_sem] theorem Tryz.by140 : Abs.bytesT prog 140 = some 24 := by kernel_rfl
@[go_sem] theorem Tryz.ze140 : Abs.zeroT prog 140 = some (.agg #[.string ⟨#[]⟩, .int .i64 0]) := by kernel_rfl
@[go_sem] theorem Tryz.ze146 : Abs.zeroT prog 146 = some (.agg #[.nilIface, .nilIface, .nilIface]) := by kernel_rfl
@[go_sem] theorem Tryz.ba146 (ps : List (Nat × Abs.AV)) (K : Abs.Cont) : Abs.buildA prog 146 ps K = Abs.baC (.agg #[.nilIface, .nilIface, .nilIface]) 1 ps K := Abs.buildA_array (e := 82) (n := 3) (by kernel_rfl) Tryz.ze146 (by kernel_rfl) ps K
@[go_sem] theorem Tryz.sl160 : Abs.sliceT prog 160 = some 94 := by kernel_rfl
@[go_sem] theorem Tryz.sl243 : Abs.sliceT prog 243 = some 5 := by kernel_rfl
@[go_sem] theorem Tryz.sz380 : Abs.sizeT prog 380 = some 2 := by kernel_rfl
@[go_sem] theorem Tryz.ze380 : Abs.zeroT prog 380 = some (.agg #[.string ⟨#[]⟩, .string ⟨#[]⟩]) := by kernel_rfl
@[go_sem] theorem Tryz.ba380 (ps : List (Nat × Abs.AV)) (K : Abs.Cont) : Abs.buildA prog 380 ps K = Abs.baC (.agg #[.string ⟨#[]⟩, .string ⟨#[]⟩]) 1 ps K := Abs.buildA_array (e := 9) (n := 2) (by kernel_rfl) Tryz.ze380 (by kernel_rfl) ps K
@[go_sem] theorem Tryz.sl381 : Abs.sliceT prog 381 = some 380 := by kernel_rfl
@[go_sem] theorem Tryz.bs22 (n : Nat) (ps : List (Nat × Abs.AV)) (H : Nat → Abs.AObj) (nx : Nat) (K : Abs.Cont) : Abs.buildSliceA prog 22 n ps H nx K = Abs.bsR 1 n ps H nx K := Abs.buildSliceA_row Tryz.sl22 Tryz.sz3 Tryz.ze3 rfl (by decide) rfl n ps H nx K
@[go_sem] theorem Tryz.ap22 (s x : Abs.AV) (H : Nat → Abs.AObj) (nx : Nat) (K : Abs.Cont) : Abs.appendA prog 22 s x H nx K = Abs.appR 1 8 s x H nx K := Abs.appendA_row Tryz.sl22 Tryz.sz3 Tryz.by3 Tryz.ze3 rfl (by decide) rfl s x H nx K
@[go_sem] theorem Tryz.bs25 (n : Nat) (ps : List (Nat × Abs.AV)) (H : Nat → Abs.AObj) (nx : Nat) (K : Abs.Cont) : Abs.buildSliceA prog 25 n ps H nx K = Abs.bsR 2 n ps H nx K := Abs.buildSliceA_row Tryz.sl25 Tryz.sz140 Tryz.ze140 rfl (by decide) rfl n ps H nx K
@[go_sem] theorem Tryz.ap25 (s x : Abs.AV) (H : Nat → Abs.AObj) (nx : Nat) (K : Abs.Cont) : Abs.appendA prog 25 s x H nx K = Abs.appR 2 24 s x H nx K := Abs.appendA_row Tryz.sl25 Tryz.sz140 Tryz.by140 Tryz.ze140 rfl (by decide) rfl s x H nx K
@[go_sem] theorem Tryz.bs26 (n : Nat) (ps : List (Nat × Abs.AV)) (H : Nat → Abs.AObj) (nx : Nat) (K : Abs.Cont) : Abs.buildSliceA prog 26 n ps H nx K = Abs.bsR 4 n ps H nx K := Abs.buildSliceA_row Tryz.sl26 Tryz.sz66 Tryz.ze66 rfl (by decide) rfl n ps H nx K
@[go_sem] theorem Tryz.ap26 (s x : Abs.AV) (H : Nat → Abs.AObj) (nx : Nat) (K : Abs.Cont) : Abs.appendA prog 26 s x H nx K = Abs.appR 4 56 s x H nx K := Abs.appendA_row Tryz.sl26 Tryz.sz66 Tryz.by66 Tryz.ze66 rfl (by decide) rfl s x H nx K
@[go_sem] theorem Tryz.bs29 (n : Nat) (ps : List (Nat × Abs.AV)) (H : Nat → Abs.AObj) (nx : Nat) (K : Abs.Cont) : Abs.buildSliceA prog 29 n ps H nx K = Abs.bsR 2 n ps H nx K := Abs.buildSliceA_row Tryz.sl29 Tryz.sz75 Tryz.ze75 rfl (by decide) rfl n ps H nx K
@[go_sem] theorem Tryz.ap29 (s x : Abs.AV) (H : Nat → Abs.AObj) (nx : Nat) (K : Abs.Cont) : Abs.appendA prog 29 s x H nx K = Abs.appR 2 32 s x H nx K := Abs.appendA_row Tryz.sl29 Tryz.sz75 Tryz.by75 Tryz.ze75 rfl (by decide) rfl s x H nx K
@[go_sem] theorem Tryz.bs30 (n : Nat) (ps : List (Nat × Abs.AV)) (H : Nat → Abs.AObj) (nx : Nat) (K : Abs.Cont) : Abs.buildSliceA prog 30 n ps H nx K = Abs.bsR 5 n ps H nx K := Abs.buildSliceA_row Tryz.sl30 Tryz.sz39 Tryz.ze39 rfl (by decide) rfl n ps H nx K
@[go_sem] theorem Tryz.ap30 (s x : Abs.AV) (H : Nat → Abs.AObj) (nx : Nat) (K : Abs.Cont) : Abs.appendA prog 30 s x H nx K = Abs.appR 5 48 s x H nx K := Abs.appendA_row Tryz.sl30 Tryz.sz39 Tryz.by39 Tryz.ze39 rfl (by decide) rfl s x H nx K
@[go_sem] theorem Tryz.bs37 (n : Nat) (ps : List (Nat × Abs.AV)) (H : Nat → Abs.AObj) (nx : Nat) (K : Abs.Cont) : Abs.buildSliceA prog 37 n ps H nx K = Abs.bsR 1 n ps H nx K := Abs.buildSliceA_row Tryz.sl37 Tryz.sz9 Tryz.ze9 rfl (by decide) rfl n ps H nx K
@[go_sem] theorem Tryz.ap37 (s x : Abs.AV) (H : Nat → Abs.AObj) (nx : Nat) (K : Abs.Cont) : Abs.appendA prog 37 s x H nx K = Abs.appR 1 16 s x H nx K := Abs.appendA_row Tryz.sl37 Tryz.sz9 Tryz.by9 Tryz.ze9 rfl (by decide) rfl s x H nx K
@[go_sem] theorem Tryz.bs160 (n : Nat) (ps : List (Nat × Abs.AV)) (H : Nat → Abs.AObj) (nx : Nat) (K : Abs.Cont) : Abs.buildSliceA prog 160 n ps H nx K = Abs.bsR 1 n ps H nx K := Abs.buildSliceA_row Tryz.sl160 Tryz.sz94 Tryz.ze94 rfl (by decide) rfl n ps H nx K
@[go_sem] theorem Tryz.ap160 (s x : Abs.AV) (H : Nat → Abs.AObj) (nx : Nat) (K : Abs.Cont) : Abs.appendA prog 160 s x H nx K = Abs.appR 1 16 s x H nx K := Abs.appendA_row Tryz.sl160 Tryz.sz94 Tryz.by94 Tryz.ze94 rfl (by decide) rfl s x H nx K
@[go_sem] theorem Tryz.bs243 (n : Nat) (ps : List (Nat × Abs.AV)) (H : Nat → Abs.AObj) (nx : Nat) (K : Abs.Cont) : Abs.buildSliceA prog 243 n ps H nx K = Abs.bsR 1 n ps H nx K := Abs.buildSliceA_row Tryz.sl243 Tryz.sz5 Tryz.ze5 rfl (by decide) rfl n ps H nx K
@[go_sem] theorem Tryz.ap243 (s x : Abs.AV) (H : Nat → Abs.AObj) (nx : Nat) (K : Abs.Cont) : Abs.appendA prog 243 s x H nx K = Abs.appR 1 1 s x H nx K := Abs.appendA_row Tryz.sl243 Tryz.sz5 Tryz.by5 Tryz.ze5 rfl (by decide) rfl s x H nx K
@[go_sem] theorem Tryz.bs381 (n : Nat) (ps : List (Nat × Abs.AV)) (H : Nat → Abs.AObj) (nx : Nat) (K : Abs.Cont) : Abs.buildSliceA prog 381 n ps H nx K = Abs.bsR 2 n ps H nx K := Abs.buildSliceA_row Tryz.sl381 Tryz.sz380 Tryz.ze380 rfl (by decide) rfl n ps H nx K
theorem Tryz.mixed : prog.follows .mixedOrders = true := by kernel_rfl
end Go.Proofs
namespace Go.Abs
open Go Go.Proofs Tryz
noncomputable abbrev zza := G8 prog
noncomputable abbrev zzb := y9 prog
noncomputable abbrev zzc := zAb prog
noncomputable abbrev zzd := zVK prog
noncomputable abbrev zze := s9 prog
noncomputable abbrev zzf := sizeT prog
noncomputable abbrev zzg := sliceT prog
noncomputable abbrev zzh := U0 prog
noncomputable abbrev zzi := zDt prog
noncomputable abbrev zzj := zeroT prog
@[go_sem] theorem Tryz.facts0 : prog.underlying 2 = some (.int .i64) ∧ zze 3 = some false ∧ zzg 3 = none ∧ zzd 3 = some .i64 ∧ prog.underlying 3 = some (.int .i64) ∧ zze 4 = some false ∧ zzf 4 = some 1 ∧ zzj 4 = some (.bool false) ∧ prog.underlying 4 = some (.bool) ∧ zzg 5 = none ∧ zzd 5 = some .u8 ∧ prog.underlying 5 = some (.int .u8) ∧ zze 9 = some false ∧ zzg 9 = none ∧ zzh 9 = true ∧ zzd 9 = none ∧ prog.underlying 9 = some (.string) ∧ zzg 21 = none ∧ zzd 21 = some .i32 ∧ prog.underlying 21 = some (.int .i32) := by (repeat' apply And.intro) <;> kernel_rfl
@[go_sem] theorem Tryz.facts1 : zze 22 = some false ∧ zzf 22 = some 1 ∧ zzj 22 = some (.slice none 0 0) ∧ prog.underlying 22 = some (.slice 3) ∧ zze 25 = some false ∧ zzf 25 = some 1 ∧ prog.underlying 25 = some (.slice 140) ∧ zze 26 = some false ∧ zzf 26 = some 1 ∧ prog.underlying 26 = some (.slice 66) ∧ zze 28 = some true ∧ zzf 28 = some 2 ∧ zzj 28 = some (.agg #[.slice none 0 0, .slice none 0 0]) ∧ w8 prog 28 0 = some (25, 0) ∧ w8 prog 28 1 = some (26, 1) ∧ zze 29 = some false ∧ zzf 29 = some 1 ∧ prog.underlying 29 = some (.slice 75) ∧ zze 30 = some false ∧ zzf 30 = some 1 := by (repeat' apply And.intro) <;> kernel_rfl
@[go_sem] theorem Tryz.facts2 : prog.underlying 30 = some (.slice 39) ∧ zze 32 = some true ∧ zzf 32 = some 7 ∧ zzj 32 = some (.agg #[.int .i64 0, .int .i64 0, .int .i64 0, .slice none 0 0, .slice none 0 0, .slice none 0 0, .slice none 0 0]) ∧ zzi 32 = true ∧ w8 prog 32 0 = some (3, 0) ∧ w8 prog 32 1 = some (3, 1) ∧ w8 prog 32 2 = some (3, 2) ∧ w8 prog 32 3 = some (28, 3) ∧ w8 prog 32 4 = some (29, 5) ∧ w8 prog 32 5 = some (30, 6) ∧ zze 34 = some false ∧ zzf 34 = some 1 ∧ zzj 34 = some (.int .i64 0) ∧ zzc 34 = true ∧ zze 37 = some false ∧ zzf 37 = some 1 ∧ zzj 37 = some (.slice none 0 0) ∧ prog.underlying 37 = some (.slice 9) ∧ zze 39 = some true := by (repeat' apply And.intro) <;> kernel_rfl
@[go_sem] theorem Tryz.facts3 : zzi 39 = true ∧ w8 prog 39 0 = some (9, 0) ∧ w8 prog 39 1 = some (3, 1) ∧ w8 prog 39 2 = some (3, 2) ∧ w8 prog 39 3 = some (3, 3) ∧ w8 prog 39 4 = some (4, 4) ∧ zze 66 = some true ∧ zzi 66 = true ∧ w8 prog 66 0 = some (9, 0) ∧ w8 prog 66 1 = some (3, 1) ∧ w8 prog 66 2 = some (3, 2) ∧ w8 prog 66 3 = some (22, 3) ∧ zze 67 = some false ∧ zzf 67 = some 1 ∧ zzg 67 = none ∧ zzd 67 = some .u64 ∧ prog.underlying 67 = some (.int .u64) ∧ zzj 69 = some (.agg #[.slice none 0 0, .int .i64 0, .int .u64 0]) ∧ zzi 69 = true ∧ w8 prog 69 0 = some (22, 0) := by (repeat' apply And.intro) <;> kernel_rfl
@[go_sem] theorem Tryz.facts4 : w8 prog 69 1 = some (3, 1) ∧ w8 prog 69 2 = some (67, 2) ∧ zze 70 = some false ∧ zzf 70 = some 1 ∧ zze 75 = some true ∧ zzi 75 = true ∧ w8 prog 75 0 = some (9, 0) ∧ w8 prog 75 1 = some (9, 1) ∧ zze 80 = some false ∧ zzf 80 = some 1 ∧ zzj 80 = some (.pointer none) ∧ zze 82 = some false ∧ zzf 82 = some 1 ∧ zzj 82 = some (.nilIface) ∧ zze 92 = some false ∧ zzf 92 = some 1 ∧ zze 94 = some false ∧ zzh 94 = true ∧ prog.underlying 94 = some (.string) ∧ zze 105 = some false := by (repeat' apply And.intro) <;> kernel_rfl
@[go_sem] theorem Tryz.facts5 : zzf 105 = some 1 ∧ zze 140 = some true ∧ zzi 140 = true ∧ w8 prog 140 0 = some (9, 0) ∧ w8 prog 140 1 = some (3, 1) ∧ zze 146 = some true ∧ zzf 146 = some 3 ∧ zza 146 = some (3, 82) ∧ zze 153 = some false ∧ zzf 153 = some 1 ∧ zzj 157 = some (.agg #[.int .i64 0, .int .i64 0, .int .i64 0, .slice none 0 0, .slice none 0 0, .slice none 0 0, .slice none 0 0, .slice none 0 0]) ∧ zzi 157 = true ∧ w8 prog 157 0 = some (32, 0) ∧ w8 prog 157 1 = some (37, 7) ∧ zze 160 = some false ∧ zzf 160 = some 1 ∧ prog.underlying 160 = some (.slice 94) ∧ zzj 185 = some (.agg #[]) ∧ zzc 185 = true ∧ zzi 185 = true := by (repeat' apply And.intro) <;> kernel_rfl
@[go_sem] theorem Tryz.facts6 : zzj 199 = some (.agg #[]) ∧ zzc 199 = true ∧ zzi 199 = true ∧ zzj 200 = some (.agg #[]) ∧ zzc 200 = true ∧ zzi 200 = true ∧ zze 206 = some false ∧ zzf 206 = some 1 ∧ zzj 206 = some (.map none) ∧ zze 207 = some false ∧ zzf 207 = some 1 ∧ zzj 207 = some (.nilFunc) ∧ zze 242 = some false ∧ zzf 242 = some 1 ∧ zze 243 = some false ∧ zzf 243 = some 1 ∧ prog.underlying 243 = some (.slice 5) ∧ w8 prog 245 0 = some (242, 0) ∧ w8 prog 245 1 = some (243, 1) ∧ zze 328 = some false := by (repeat' apply And.intro) <;> kernel_rfl
@[go_sem] theorem Tryz.facts7 : zzf 328 = some 1 ∧ zze 356 = some false ∧ zzf 356 = some 1 ∧ zze 357 = some false ∧ zzf 357 = some 1 ∧ zzj 357 = some (.nilFunc) ∧ zze 380 = some true ∧ zzg 380 = none ∧ zza 380 = some (2, 9) ∧ prog.underlying 381 = some (.slice 380) ∧ zzj 423 = some (.agg #[.int .u8 0, .int .u8 0, .int .u8 0, .int .u8 0, .int .u8 0, .int .u8 0, .int .u8 0, .int .u8 0, .int .u8 0, .int .u8 0, .int .u8 0, .int .u8 0, .int .u8 0, .int .u8 0, .int .u8 0, .int .u8 0, .int .u8 0, .int .u8 0, .int .u8 0, .int .u8 0, .int .u8 0, .int .u8 0, .int .u8 0, .int .u8 0]) ∧ S6 prog 200 "wayzgoose/part.compare" = some 322 ∧ S6 prog 200 "wayzgoose/part.row" = some 324 ∧ S6 prog 200 "wayzgoose/part.stands" = some 325 ∧ zzb 5 = true ∧ zzb 6 = true ∧ zzb 7 = true ∧ zzb 8 = true ∧ zzb 9 = true ∧ zzb 10 = true := by (repeat' apply And.intro) <;> kernel_rfl
@[go_sem] theorem Tryz.facts8 : zzb 11 = true ∧ zzb 12 = true ∧ zzb 13 = true ∧ zzb 14 = true ∧ zzb 20 = true ∧ zzb 21 = true ∧ zzb 22 = true ∧ zzb 23 = true ∧ zzb 24 = true ∧ zzb 25 = true ∧ zzb 26 = true ∧ zzb 27 = true ∧ zzb 28 = true ∧ zzb 29 = true ∧ zzb 30 = true ∧ zzb 32 = true ∧ zzb 33 = true ∧ zzb 34 = true ∧ zzb 36 = true ∧ zzb 37 = true := by (repeat' apply And.intro) <;> kernel_rfl
@[go_sem] theorem Tryz.facts9 : zzb 38 = true ∧ zzb 39 = true ∧ zzb 41 = true ∧ zzb 42 = true ∧ zzb 43 = true ∧ zzb 45 = true ∧ zzb 46 = true ∧ zzb 47 = true ∧ zzb 48 = true ∧ zzb 49 = true ∧ zzb 50 = true ∧ zzb 51 = true ∧ zzb 58 = true ∧ zzb 61 = true ∧ zzb 62 = true ∧ zzb 63 = true ∧ zzb 64 = true ∧ zzb 65 = true ∧ zzb 66 = true ∧ zzb 67 = true := by (repeat' apply And.intro) <;> kernel_rfl
@[go_sem] theorem Tryz.facts10 : zzb 68 = true ∧ zzb 69 = true ∧ zzb 71 = true ∧ zzb 72 = true ∧ zzb 73 = true ∧ zzb 74 = true ∧ zzb 75 = true ∧ zzb 76 = true ∧ zzb 77 = true ∧ zzb 78 = true ∧ zzb 80 = true ∧ zzb 83 = true ∧ zzb 84 = true ∧ zzb 88 = true ∧ zzb 89 = true ∧ zzb 90 = true ∧ zzb 91 = true ∧ zzb 95 = true ∧ zzb 97 = true ∧ zzb 98 = true := by (repeat' apply And.intro) <;> kernel_rfl
@[go_sem] theorem Tryz.facts11 : zzb 99 = true ∧ zzb 100 = true ∧ zzb 101 = true ∧ zzb 102 = true ∧ zzb 104 = true ∧ zzb 107 = true ∧ zzb 112 = true ∧ zzb 113 = true ∧ zzb 121 = true ∧ zzb 122 = true ∧ zzb 123 = true ∧ zzb 125 = true ∧ zzb 126 = true ∧ zzb 127 = true ∧ zzb 128 = true ∧ zzb 129 = true ∧ zzb 130 = true ∧ zzb 132 = true ∧ zzb 133 = true ∧ zzb 134 = true := by (repeat' apply And.intro) <;> kernel_rfl
@[go_sem] theorem Tryz.facts12 : zzb 139 = true ∧ zzb 140 = true ∧ zzb 147 = true ∧ zzb 148 = true ∧ zzb 150 = true ∧ zzb 153 = true ∧ zzb 157 = true ∧ zzb 158 = true ∧ zzb 164 = true ∧ zzb 165 = true ∧ zzb 166 = true ∧ zzb 167 = true ∧ zzb 177 = true ∧ zzb 178 = true ∧ zzb 180 = true ∧ zzb 186 = true ∧ zzb 187 = true ∧ zzb 188 = true ∧ zzb 214 = true ∧ zzb 215 = true := by (repeat' apply And.intro) <;> kernel_rfl
@[go_sem] theorem Tryz.facts13 : zzb 216 = true ∧ zzb 232 = true ∧ zzb 233 = true ∧ zzb 248 = true ∧ zzb 293 = true ∧ zzb 294 = true ∧ zzb 295 = true ∧ zzb 296 = true ∧ zzb 297 = true ∧ zzb 298 = true ∧ zzb 299 = true ∧ zzb 300 = true ∧ zzb 301 = true ∧ zzb 322 = true ∧ zzb 324 = true ∧ zzb 325 = true := by (repeat' apply And.intro) <;> kernel_rfl
end Go.Abs
namespace Go.Proofs
end Go.Proofs

namespace Go.Abs
open Go
variable [Cur]
abbrev G9 (f : FuncId) (v : Value) : AV := .raw (.func (.func f) #[v] #[])
section
variable {P : Program} {E : Env} {I : Nat → Prop} {loc : Nat → Loc} {σ : AS} {a : Act} {w : World}
theorem zJD {ρ : Option Nat} {γ : Gh} (hst : St E σ a w γ) {o : Oper} {f : FuncId} {x : Operand} (hop : o.op = .makeFunc (.func f) #[x] #[]) {v : Value} (hx : σ.ev x = .raw v) (hd : ∀ d, o.dst = some d → d < σ.n) {next : Nx3} {Q : w6}
  (hn : ∀ a' w' γ', St E (σ.putD o.dst (G9 f v)) a' w' γ' → next a' w' γ') : Z0 (Cur.way P) ρ o next Q a w γ := by
 refine T1 (.inr fun c e => by rw [hop] at e; cases e) fun w₁ hr => ?_
 obtain ⟨I, loc, hs⟩ := hst.rely hr
 have e := hs.sr.ev x
 rw [hx] at e
 have e := e.raw_eq
 have hrun : (execOp a.eval o).run P w₁ = .ok (.value (.func (.func f) #[v] #[])) w₁ := by
  simp [execOp, hop, Instr.makeFunc, e]
 have hev : (execOp a.eval o).events P w₁ #[] = #[] := by
  simp [execOp, hop, Instr.makeFunc, e]
 exact ⟨_, w₁, γ, hrun, by rw [hev]; exact .refl hr.wf', fun w₂ hr2 => hn _ _ _ (St.rely ⟨I, loc, hs.putD (.pure (.raw _ rfl)) hd⟩ hr2)⟩
theorem zJO {ρ : Option Nat} {γ : Gh} (hst : St E σ a w γ) {o : Oper} {fo : Operand} {args : Array Operand} {ts : Array TypeId} (hop : o.op = .call ⟨.value fo, args, ts⟩) {f : FuncId} {v : Value} (hv1 : v.oneCell' = true) (hfe : σ.ev fo = G9 f v) (hc : y9 P f = true) {nx : Nat} {K : Cont}
  (h : zVG P f (.raw v :: args.toList.map σ.ev) σ.obj nx K) (hd : ∀ d, o.dst = some d → d < σ.n) {next : Nx3} {Q : w6}
  (hn : ∀ v rd wr a' w' γ', K v rd wr → St E ((σ.writes wr).putD o.dst v) a' w' γ' → next a' w' γ') : Z0 (Cur.way P) ρ o next Q a w γ :=
 zEs hst (f := f) (nx := nx) (K := K) (fun c e => by rw [hop] at e; cases e) hd (fun w I loc hs => by
  have hfo := hs.sr.ev fo
  obtain ⟨g1, g2⟩ := Y5 hs.sr args
  rw [hfe] at hfo
  have e := hfo.raw_eq
  refine ⟨.raw v :: args.toList.map σ.ev, #[v] ++ args.map a.eval, ?_, ?_, ?_, ?_, h⟩
  ·simp only [execOp, hop, resolve, e, Deferred.ofValue, Sem.run_bind, Sem.run_pure, Result.andThen_ok, invoke, Array.append_empty]
   exact N7 hc _
  ·simp only [execOp, hop, resolve, e, Deferred.ofValue, Sem.events_bind, Sem.run_bind, Sem.run_pure, Result.andThen_ok, Result.evThen_ok, Sem.events_pure, invoke, Array.append_empty]
   exact zBR hc _
  ·rw [List.length_cons, g1, Array.size_append]; simp; omega
  ·intro i h h'
   cases i with
   | zero =>
    have e0 : (#[v] ++ args.map a.eval)[0] = v := by rw [Array.getElem_append_left (by simp)]; rfl
    rw [e0]
    exact .pure (.raw _ hv1)
   | succ i =>
    have hi : i < (args.toList.map σ.ev).length := by simpa using h
    have hi2 : i < (args.map a.eval).size := by omega
    have e2 : (#[v] ++ args.map a.eval)[i + 1] = (args.map a.eval)[i] := by
     rw [Array.getElem_append_right (by simp)]; simp
    rw [e2, List.getElem_cons_succ]
    exact g2 i hi hi2) hn
end
section
variable {P : Program} {E : Env} {Q : Exit → AS → Prop} {σ : AS} {p : List Nat} {b : Code}
theorem zN2 {id : Nat} {ops : List Oper} (k : Nat) (h : sub p b = .region id ops.toArray false) {o : Oper} (hk : ops[k]? = some o) {f : FuncId} {x : Operand} (hop : o.op = .makeFunc (.func f) #[x] #[]) (hg : o.guard = none) {v : Value}
  (hx : q9 P ops (fun σ1 _ => (match o.dst with | some d => ltN d σ1.n | none => True) ∧ σ1.ev x = .raw v ∧
   q9 P ops (fun σ' _ => Q .normal σ') (ops.drop (k + 1)) (σ1.putD o.dst (G9 f v)) []) (ops.take k) σ []) : Hold P E (sub p b) Q σ := by
 obtain ⟨hlt, he⟩ := List.getElem?_eq_some_iff.1 hk
 have e : ops = ops.take k ++ o :: ops.drop (k + 1) := by
  rw [← he, ← List.drop_eq_getElem_cons hlt, List.take_append_drop]
 obtain ⟨pre, hpre⟩ : ∃ pre, pre = ops.take k := ⟨_, rfl⟩
 obtain ⟨post, hpost⟩ : ∃ post, post = ops.drop (k + 1) := ⟨_, rfl⟩
 rw [← hpre, ← hpost] at e hx
 rw [h]
 clear h hk he hlt hpre hpost
 subst e
 exact A0 (Y := fun σ1 => σ1.ev x = .raw v ∧ q9 P (pre ++ o :: post) (fun σ' _ => Q .normal σ') post (σ1.putD o.dst (G9 f v)) [])
  (fun σ1 a1 w1 γ1 he hst hd => zJD hst hop he.1 hd (fun a' w' γ' hst => ⟨_, he.2, hst⟩))
  (D5 (fun σ1 ts h1 => E6 hg ⟨h1.1, h1.2⟩) hx)
theorem zG0 {id : Nat} {ops : List Oper} (k : Nat) (h : sub p b = .region id ops.toArray false) {o : Oper} (hk : ops[k]? = some o) {fo : Operand} {args : Array Operand} {ts : Array TypeId} (hop : o.op = .call ⟨.value fo, args, ts⟩) {f : FuncId} (hc : y9 P f = true) (hg : o.guard = none) {v : Value} (hv1 : v.oneCell' = true)
  (hx : q9 P ops (fun σ1 _ => (match o.dst with | some d => ltN d σ1.n | none => True) ∧ σ1.ev fo = G9 f v ∧
   zVG P f (.raw v :: args.toList.map σ1.ev) σ1.obj σ1.nx (fun v _ wr => q9 P ops (fun σ' _ => Q .normal σ') (ops.drop (k + 1)) ((σ1.writes wr).putD o.dst v) [])) (ops.take k) σ []) : Hold P E (sub p b) Q σ := by
 obtain ⟨hlt, he⟩ := List.getElem?_eq_some_iff.1 hk
 have e : ops = ops.take k ++ o :: ops.drop (k + 1) := by
  rw [← he, ← List.drop_eq_getElem_cons hlt, List.take_append_drop]
 obtain ⟨pre, hpre⟩ : ∃ pre, pre = ops.take k := ⟨_, rfl⟩
 obtain ⟨post, hpost⟩ : ∃ post, post = ops.drop (k + 1) := ⟨_, rfl⟩
 rw [← hpre, ← hpost] at e hx
 rw [h]
 clear h hk he hlt hpre hpost
 subst e
 exact A0 (Y := fun σ1 => σ1.ev fo = G9 f v ∧ zVG P f (.raw v :: args.toList.map σ1.ev) σ1.obj σ1.nx (fun v _ wr => q9 P (pre ++ o :: post) (fun σ' _ => Q .normal σ') post ((σ1.writes wr).putD o.dst v) []))
  (fun σ1 a1 w1 γ1 he hst hd => zJO hst hop hv1 he.1 hc he.2 hd (fun v rd wr a' w' γ' hk hst => ⟨_, hk, hst⟩))
  (D5 (fun σ1 ts h1 => E6 hg ⟨h1.1, h1.2⟩) hx)
end
theorem zHY {P : Program} {f : FuncId} {args : List AV} {fp : List AObj} {r : AV} {out : List AObj} (sp : zUL P f args fp r out) : C3 (T := Unit) P f args fp (fun _ => r) (fun _ => out) := fun w I γ loc vs h1 h2 h3 =>
 R6 (sp w I γ loc vs h1 h2 h3) fun e w' γ' ⟨v, I', loc', h4, h5⟩ => ⟨(), v, I', loc', h4, h5⟩
end Go.Abs

namespace Go.Abs
open Go
variable [Cur]
section
variable {P : Program} {E : Env} {Q : Exit → AS → Prop} {σ : AS} {p : List Nat} {b : Code}
theorem zN0 {id : Nat} {o : Oper} (h : sub p b = .region id #[o] false) {t : TypeId} {d : Tmp} (hop : o.op = .alloc t) (hd : o.dst = some d) (hg : o.guard = none) (hz : zeroT P t = some (.agg #[.pointer none, .slice none 0 0])) (nx : Nat) (hnx : σ.obj nx = .unb) (hdn : ltN d σ.n)
  (hk : Q .normal ((σ.setO nx (.tbox t [.any, .raw (.slice none 0 0)])).put d (.ptr nx 0))) : Hold P E (sub p b) Q σ := by
 rw [h]
 intro a w γ hst
 refine D7 ?_
 show zUZ _ _ #[o] _ [0] _ _ _
 refine N2 (o := o) rfl (by unfold Region.wanted; rw [hg]) (T1 (.inr fun c e => by rw [hop] at e; cases e) fun w₁ hr => ?_)
 obtain ⟨I, loc, hs⟩ := hst.rely hr
 have hrun : (execOp a.eval o).run P w₁ = .ok (.value (.pointer (some ⟨w₁.heap.size, 0, none⟩))) (w₁.alloc (.cells #[.pointer none, .slice none 0 0] t)) := by
  simp [execOp, hop, Instr.alloc, L8 hz, newVar, newRow, Value.cells]
 have hev : (execOp a.eval o).events P w₁ #[] = #[] := by
  simp [execOp, hop, Instr.alloc, L8 hz, newVar, newRow, Value.cells]
 have hb := hs.sr.here.born hnx (.cells #[.pointer none, .slice none 0 0] t) (c := 2) (A := .tbox t [.any, .raw (.slice none 0 0)])
  ⟨w₁.heap.size, #[.pointer none, .slice none 0 0], by simp only [y1, if_true]; rfl, heap_alloc_new w₁ _, .inl rfl, rfl, fun i hi hi' => by
   have hi2 : i < 2 := hi
   have hi3 : i = 0 ∨ i = 1 := by omega
   rcases hi3 with rfl | rfl
   ·exact .pure (.any _)
   ·exact .pure (.raw _ rfl)⟩
 obtain ⟨γ', hg, hsg⟩ := hs.next (es := (execOp a.eval o).events P w₁ #[]) hb (fun d hd => .inl hd) (by rw [hev]; exact .nil)
 have hp := hsg.putD (d := some d) (v := .ptr nx 0) (x := .pointer (some ⟨w₁.heap.size, 0, none⟩)) (.ptr _ _ _ 2 (by simp only [y1, if_true])) (fun t e => by cases e; exact hdn)
 refine ⟨_, _, γ', hrun, hg, fun w₂ hr2 => H2 (S4 hk (St.rely ⟨I, y1 loc nx (.blk w₁.heap.size 2), ?_⟩ hr2))⟩
 rw [hd]
 exact hp
end
end Go.Abs

namespace Go.Abs
open Go
variable [Cur]
def zVD (P : Program) (c : Callee) (ev : Operand → AV) (xs : List AV) : Option (FuncId × List AV) := match c with
 | .value fo => (match ev fo with
  | .raw (.func (.func f) fs caps) => if fs.size = 0 ∧ caps.size = 0 then some (f, xs) else none
  | .fn f caps => some (f, xs ++ caps)
  | _ => none)
 | .invoke r m => (match zVH (ev r) with
  | some (t, y) => (S6 P t m).map fun f => (f, y :: xs)
  | none => none)
 | .builtin _ => none
section
variable {P : Program} {E : Env} {I : Nat → Prop} {loc : Nat → Loc} {σ : AS} {a : Act} {w : World}
theorem zRB (hs : SR E I loc σ a w) {o : Oper} {c : Call} (hop : o.op = .call c) {f : FuncId} {avs : List AV} (h : zVD P c.callee σ.ev (c.args.toList.map σ.ev) = some (f, avs)) (hc : y9 P f = true) :
    ∃ vs, (execOp a.eval o).run P w = .ok (.enter f vs) w ∧ EvsOK ⟨hereFp loc σ a, I, none⟩ w.heap.size ((execOp a.eval o).events P w #[]) ∧ avs.length = vs.size ∧ ∀ i (h : i < avs.length) (h' : i < vs.size), VR w I loc avs[i] vs[i] := by
  have T : zUM P (p7 I loc σ a w) w.heap.size (execOp a.eval o) → EvsOK ⟨hereFp loc σ a, I, none⟩ w.heap.size ((execOp a.eval o).events P w #[]) := fun h => zAe ((h w hs.keeps).1 _ .nil)
  obtain ⟨callee, args, ts⟩ := c
  obtain ⟨g1, g2⟩ := Y5 hs args
  unfold zVD at h
  cases callee with
  | builtin b => cases h
  | value fo =>
    simp only at h
    have hfo := hs.ev fo
    split at h
    · rename_i f' fs caps hfe
      split at h
      · rename_i he
        cases h
        have e1 : fs = #[] := Array.eq_empty_of_size_eq_zero he.1
        have e2 : caps = #[] := Array.eq_empty_of_size_eq_zero he.2
        subst e1; subst e2
        rw [hfe] at hfo
        have e := hfo.raw_eq
        refine ⟨args.map a.eval, ?_, T ?_, g1, g2⟩
        · simp only [execOp, hop, resolve, e, Deferred.ofValue, Sem.run_bind, Sem.run_pure, Result.andThen_ok, invoke, Array.append_empty, Array.empty_append]
          exact N7 hc _
        · simp only [execOp, hop, resolve, e]
          exact zAQ (args := _) hc
      · cases h
    · rename_i f' caps hfe
      cases h
      rw [hfe] at hfo
      generalize hfv : a.eval fo = fv at hfo
      cases hfo with
      | pure hp => cases hp
      | fn _ _ vs q1 q2 =>
        refine ⟨args.map a.eval ++ vs, ?_, T ?_, by simp only [List.length_append, Array.size_append]; omega, fun i h1 h2 => ?_⟩
        · simp only [execOp, hop, resolve, hfv, Deferred.ofValue, Sem.run_bind, Sem.run_pure, Result.andThen_ok, invoke, Array.empty_append]
          exact N7 hc _
        · simp only [execOp, hop, resolve, hfv]
          exact zAQ (args := _) hc
        · by_cases hlt : i < (args.toList.map σ.ev).length
          · rw [List.getElem_append_left hlt, Array.getElem_append_left (by omega)]
            exact g2 i hlt _
          · rw [List.getElem_append_right (by omega), Array.getElem_append_right (by omega)]
            have e3 : i - (args.map a.eval).size = i - (args.toList.map σ.ev).length := by omega
            simp only [e3]
            exact q2 _ _ _
    · cases h
  | invoke r m =>
    simp only at h
    cases hq : zVH (σ.ev r) with
    | none => simp only [hq] at h; cases h
    | some p =>
      obtain ⟨t, y⟩ := p
      simp only [hq] at h
      cases hm : S6 P t m with
      | none => rw [hm] at h; cases h
      | some f' =>
        rw [hm] at h
        cases h
        obtain ⟨v, hv, hy⟩ := zBO (hs.ev r) hq
        have hfu : ∃ n, P.types.size + Made.depth = n + 1 := ⟨P.types.size + Made.depth - 1, by have : 0 < Made.depth := by decide
                                                                                                omega⟩
        obtain ⟨n, hn⟩ := hfu
        have e0 : ((#[Value.iface t v] ++ args.map a.eval) : Array Value)[0]? = some (.iface t v) := by rw [Array.getElem?_append_left (by simp)]; rfl
        refine ⟨#[v] ++ args.map a.eval, ?_, T ?_, by simp only [List.length_cons, Array.size_append, g1]; simp; omega, fun i h1 h2 => ?_⟩
        · simp only [execOp, hop, resolve, hv, Sem.run_bind, Sem.run_pure, Result.andThen_ok, invoke]
          simp only [e0, callMethod, hn, Sem.run_bind, run_program, Result.andThen_ok, zDa hm]
          have e : ((#[Value.iface t v] ++ args.map a.eval).extract 1 (#[Value.iface t v] ++ args.map a.eval).size) = args.map a.eval := by
            apply Array.ext'
            simp
            exact List.take_of_length_le (by simp)
          simp only [e]
          exact N7 hc _
        · simp only [execOp, hop, resolve, hv]
          show zUM P _ _ (invoke (.fn (.method m) #[]) (#[Value.iface t v] ++ args.map a.eval))
          simp only [invoke, e0, callMethod]
          refine TameV.bind tame_program fun q hq => ?_
          subst hq
          rw [hn]
          exact TameV.bind (zHx hm n v) fun r hr => by subst hr; exact zAQ hc
        · cases i with
          | zero => simpa using hy
          | succ i =>
            have := g2 i (by simpa using h1) (by simp at h2; simp; omega)
            simp only [List.getElem_cons_succ]
            rw [Array.getElem_append_right (by simp)]
            simpa using this
abbrev zUt (v : Value) : List PanicEntry := [{ v := v, recovered := false }]
abbrev zV2 (P : Program) (f : FuncId) (v : Value) : G4 := fun _ vs w γ R => U6 (Cur.way P) .normal f vs (fun e w γ => e = .panicked (zUt v) ∧ R (.returned undef) w γ) w γ
def G7 (P : Program) (f : FuncId) (v : Value) (args : List AV) (fp : List AObj) (out : List AObj) : Prop := zAR (zV2 P f v) args fp .any out
def zVa (P : Program) (f : FuncId) (v : Value) (avs : List AV) (H : Nat → AObj) (nx : Nat) (K : List (Nat × AObj) → Prop) : Prop :=
 ∃ (ids ex : List Nat) (args : List AV) (fp : List AObj) (out : List AObj), MetX (zV2 P f v) avs H nx ids ex args fp .any out ∧ K (u7 ids nx out)
theorem zGd {ρ : Option Nat} {γ : Gh} (hst : St E σ a w γ) {o : Oper} {c : Call} (hop : o.op = .call c) {f : FuncId} {avs : List AV} (ht : zVD P c.callee σ.ev (c.args.toList.map σ.ev) = some (f, avs)) (hc : y9 P f = true) {v : Value} {nx : Nat} {K : List (Nat × AObj) → Prop}
  (h : zVa P f v avs σ.obj nx K) {next : Nx3} {Q : w6} (hn : ∀ wr a' w' γ', K wr → St E (σ.writes wr) a' w' γ' → Q (.panic (zUt v)) a' w' γ') : Z0 (Cur.way P) ρ o next Q a w γ := by
 refine T1 (.inr fun c e => by rw [hop] at e; cases e) fun w₁ hr => ?_
 obtain ⟨I, loc, hs⟩ := hst.rely hr
 obtain ⟨vs, k1, k2, k3, k4⟩ := zRB hs.sr hop ht hc
 obtain ⟨ids, ex, as', fp, out, hm, hK⟩ := h
 have hg0 := Guar.refl hs.og.wf
 refine ⟨_, w₁, γ, k1, ⟨hg0.wf, hg0.tape, hg0.os, hg0.output, hg0.size, hg0.block, hg0.own, hg0.fro, hg0.tok, fun e he => (k2 e he).mono (fun b => hereFp.own hs.og) hs.og.rd⟩, ?_⟩
 simp only [zB2]
 have := zBK (C := zV2 P f v) (fun loc vs w γ R R' h hc => R6 hc fun e w γ ⟨h1, h2⟩ => ⟨h1, h _ _ _ h2⟩) hs k3 k4 hm
 refine R6 this ?_
 rintro e w' γ' ⟨rfl, v', I', loc', _, hsr, _⟩
 exact hn _ _ _ _ hK ⟨I', loc', hsr⟩
theorem zNL {ρ : Option Nat} {γ : Gh} (hst : St E σ a w γ) {o : Oper} {x : Operand} (hop : o.op = .panic x) {t : TypeId} {v : Value} (hv : σ.ev x = .raw (.iface t v)) {next : Nx3} {Q : w6} (hq : ∀ w' γ', St E σ a w' γ' → Q (.panic (zUt (.iface t v))) a w' γ') : Z0 (Cur.way P) ρ o next Q a w γ := by
 refine zNB (v := .iface t v) (.inr fun c e => by rw [hop] at e; cases e) fun w₁ hr => ?_
 have hst1 := hst.rely hr
 obtain ⟨I, loc, hs⟩ := hst1
 have e := hs.sr.ev x
 rw [hv] at e
 have e := e.raw_eq
 have hp : Instr.panic (.iface t v) = goPanic (.iface t v) := rfl
 refine ⟨?_, ?_, fun w₂ hr2 => hq _ _ (St.rely ⟨I, loc, hs⟩ hr2)⟩
 ·simp only [execOp, hop, e, hp]; rfl
 ·have T := E4 (P := P) hs.sr.keeps (s := execOp a.eval o) (by simp only [execOp, hop, e, hp]; exact q7 l8 fun _ => q8) _ .nil
  exact fun e he => (zAe T e he).mono (fun b => hereFp.own hs.og) hs.og.rd
theorem zRM {f : FuncId} {fn : Func} {kd : CallKind} {R : zUd} {ch : List PanicEntry} (hf : P.funcs[f]? = some fn) (hR : ∀ a w γ, St E σ a w γ → Bx (R (.panicked ch) · γ) γ w)
  (ds : List Deferred) (a : Act) (w : World) (γ : Gh) (h : St E σ a w γ) (_e : a.defers = ds) (he : E.ds = [] := by rfl) : zUh (Cur.way P) kd f R (.panicking ch) a w γ :=
 zC6 (by simp) (fun a w γ h e => zRK hf (e.trans he) (hR a w γ h)) h
end
def zIO (n : Nat) (out : List AObj) (σ : AS) : Prop :=
 ∃ m ex, objsF σ m ex out m ∧ P3 (L0 out m) = true ∧ ex.all (fun o => !m.contains (some o)) = true ∧ (List.range n).all (fun k => m[k]? == some (some k)) = true
theorem zDo {P : Program} {f : FuncId} {fn : Func} {v : Value} {args : List AV} {fp : List AObj} {out : List AObj} (hf : P.funcs[f]? = some fn) (hb : fn.body.isSome = true)
  (h : ∀ E : Env, E.n = fp.length → Hold P E (sub [] (W3 fn)) (fun e σ' => e = .panic (zUt v) ∧ zIO fp.length out σ') ⟨args.length + (fn.ntmps - args.length), zUg 0 args, zUS 0 fp⟩) : G7 P f v args fp out := by
 obtain ⟨c, hc⟩ := Option.isSome_iff_exists.1 hb
 intro w I γ loc vs hs hl hv
 refine zCQ hf hc ?_
 have hst : SG (o6 w I γ fp.length loc) I γ loc ⟨args.length + (fn.ntmps - args.length), zUg 0 args, zUS 0 fp⟩ { tmps := vs ++ Array.replicate (fn.ntmps - vs.size) undef, defers := [] } w := by
  refine ⟨⟨.nil, by simp [hl], fun t => ?_, hs.sr.objs, hs.sr.inj, hs.sr.imm, hs.sr.sep, hs.sr.fr, hs.sr.base, hs.sr.top, hs.sr.keep⟩, ⟨hs.og.wf, hs.og.rd, hs.og.live, fun d r hd => by simp at hd, hs.og.own, hs.og.fro⟩⟩
  show VR w I loc (lkV (zUg 0 args) t) _
  rw [zAl]
  simp only [Nat.not_lt_zero, if_false, Nat.sub_zero]
  by_cases ht : t < args.length
  ·rw [w4 ht]
   have ht' : t < vs.size := by omega
   have e : (vs ++ Array.replicate (fn.ntmps - vs.size) undef).getD t undef = vs[t] := by
    simp [Array.getElem?_append_left ht', ht']
   rw [e]; exact hv t ht ht'
  ·rw [List.getD, List.getElem?_eq_none (by omega)]; exact .pure (.any _)
 have h' := h (o6 w I γ fp.length loc) rfl
 simp only [sub, W3, hc, Option.getD_some] at h'
 refine M2 (h' _ w γ ⟨I, loc, hst⟩) ?_
 rintro e a w' γ' ⟨σ', ⟨rfl, m, ex, h3, h4, h5, h6⟩, hs'⟩
 have hweak : Weak fp.length m ex σ' σ'.n [] out := ⟨rfl, trivial, h3, h4, h5, h6⟩
 have hlen : fp.length ≤ out.length := by
  have h7 := (h3.sound).1
  rcases Nat.eq_zero_or_pos fp.length with h0 | h0
  ·omega
  ·rw [List.all_eq_true] at h6
   have := h6 (fp.length - 1) (by simp; omega)
   have hm : m[fp.length - 1]? = some (some (fp.length - 1)) := by simpa using this
   have := (List.getElem?_eq_some_iff.1 hm).1
   omega
 refine zRM (E := o6 w I γ fp.length loc) (σ := σ') hf (fun a w' γ' hs' w₁ hr => ?_) a.defers a w' γ' hs' rfl
 obtain ⟨I', loc', hs'⟩ := hs'.rely hr
 have hsr := hs'.wk hweak.wk.1 rfl hweak.wk.2
 exact ⟨rfl, undef, _, _, rfl, ⟨hsr.bare, .pure (.any _), hlen⟩⟩
section
variable {P : Program} {E : Env} {Q : Exit → AS → Prop} {σ : AS} {p : List Nat} {b : Code}
theorem zG2 {id : Nat} {ops : List Oper} (k : Nat) (h : sub p b = .region id ops.toArray false) {o : Oper} (hk : ops[k]? = some o) {c : Call} (hop : o.op = .call c) (hg : o.guard = none) {v : Value}
  (hx : q9 P ops (fun σ1 _ => (match o.dst with | some d => ltN d σ1.n | none => True) ∧ ∃ f avs, zVD P c.callee σ1.ev (c.args.toList.map σ1.ev) = some (f, avs) ∧ y9 P f = true ∧
   zVa P f v avs σ1.obj σ1.nx (fun wr => Q (.panic (zUt v)) (σ1.writes wr))) (ops.take k) σ []) : Hold P E (sub p b) Q σ := by
 obtain ⟨hlt, he⟩ := List.getElem?_eq_some_iff.1 hk
 have e : ops = ops.take k ++ o :: ops.drop (k + 1) := by
  rw [← he, ← List.drop_eq_getElem_cons hlt, List.take_append_drop]
 obtain ⟨pre, hpre⟩ : ∃ pre, pre = ops.take k := ⟨_, rfl⟩
 obtain ⟨post, hpost⟩ : ∃ post, post = ops.drop (k + 1) := ⟨_, rfl⟩
 rw [← hpre, ← hpost] at e
 rw [← hpre] at hx
 rw [h]
 clear h hk he hlt hpre hpost
 subst e
 exact A0 (Y := fun σ1 => ∃ f avs, zVD P c.callee σ1.ev (c.args.toList.map σ1.ev) = some (f, avs) ∧ y9 P f = true ∧ zVa P f v avs σ1.obj σ1.nx (fun wr => Q (.panic (zUt v)) (σ1.writes wr)))
  (fun σ1 a1 w1 γ1 ⟨f, avs, h1, h2, h3⟩ hst hd => zGd hst hop h1 h2 h3 (fun wr a' w' γ' hk hst => ⟨_, hk, hst⟩))
  (D5 (fun σ1 ts h1 => E6 hg ⟨h1.1, h1.2⟩) hx)
theorem zN9 {id : Nat} {ops : List Oper} (k : Nat) (h : sub p b = .region id ops.toArray false) {o : Oper} (hk : ops[k]? = some o) {x : Operand} (hop : o.op = .panic x) (hg : o.guard = none) {t : TypeId} {v : Value}
  (hx : q9 P ops (fun σ1 _ => (match o.dst with | some d => ltN d σ1.n | none => True) ∧ σ1.ev x = .raw (.iface t v) ∧ Q (.panic (zUt (.iface t v))) σ1) (ops.take k) σ []) : Hold P E (sub p b) Q σ := by
 obtain ⟨hlt, he⟩ := List.getElem?_eq_some_iff.1 hk
 have e : ops = ops.take k ++ o :: ops.drop (k + 1) := by
  rw [← he, ← List.drop_eq_getElem_cons hlt, List.take_append_drop]
 obtain ⟨pre, hpre⟩ : ∃ pre, pre = ops.take k := ⟨_, rfl⟩
 obtain ⟨post, hpost⟩ : ∃ post, post = ops.drop (k + 1) := ⟨_, rfl⟩
 rw [← hpre, ← hpost] at e
 rw [← hpre] at hx
 rw [h]
 clear h hk he hlt hpre hpost
 subst e
 exact A0 (Y := fun σ1 => σ1.ev x = .raw (.iface t v) ∧ Q (.panic (zUt (.iface t v))) σ1)
  (fun σ1 a1 w1 γ1 ⟨h1, h2⟩ hst hd => zNL hst hop h1 (fun w' γ' hst => ⟨_, h2, hst⟩))
  (D5 (fun σ1 ts h1 => E6 hg ⟨h1.1, h1.2⟩) hx)
end
end Go.Abs

namespace Go.Abs
open Go
variable [Cur]
abbrev dC (P : Program) (f : FuncId) (mode mode' : FrameMode) : G4 := fun _ vs w γ R => zAc (Cur.way P) f vs mode (fun m w γ => m = mode' ∧ R (.returned undef) w γ) w γ
def zBH (P : Program) (f : FuncId) (mode mode' : FrameMode) (args : List AV) (fp : List AObj) (out : List AObj) : Prop := zAR (dC P f mode mode') args fp .any out
section
variable {P : Program} {E : Env} {σ : AS} {a : Act} {w : World} {γ : Gh}
theorem zDT (a : Act) (d : Option Tmp) (x : Value) : (a.put d x).defers = a.defers := by cases d <;> rfl
theorem zKL {ρ : Option Nat} {ds : List Deferred} (hs : St E σ a w γ) (ha : a.defers = ds) {o : Oper} {nx : Nat} {K : Cont} (h : zUV P o σ.ev σ.obj nx K) (hd : ∀ d, o.dst = some d → d < σ.n) {next : Nx3} {Q : w6}
  (hn : ∀ v rd wr a' w' γ', K v rd wr → St E ((σ.writes wr).putD o.dst v) a' w' γ' → a'.defers = ds → next a' w' γ') : Z0 (Cur.way P) ρ o next Q a w γ := by
 have hdw : ∀ wr, ∀ d, o.dst = some d → d < (σ.writes wr).n := fun wr d e => by rw [(U1 wr σ).1]; exact hd d e
 refine T1 (.inr (zEz h)) fun w₁ hr => ?_
 obtain ⟨I, loc, hs⟩ := hs.rely hr
 have hev := zEy hs.sr h
 have key : ∀ (x : Value) (v : AV) (rd : List Nat) (wr : List (Nat × AObj)) (w' : World) (γ' : Gh) (I' : Nat → Prop) (loc' : Nat → Loc), K v rd wr → SG E I' γ' loc' (σ.writes wr) a w' → VR w' I' loc' v x → Bx (next (a.put o.dst x) · γ') γ' w' := fun x v rd wr w' γ' I' loc' hK hsg hv w₂ hr2 =>
  hn v rd wr (a.put o.dst x) _ _ hK (St.rely ⟨I', loc', hsg.putD hv (hdw wr)⟩ hr2) (by rw [zDT]; exact ha)
 cases zE0 hs.sr.here h with
 | val v rd wr x w' I' loc' hK hrun hsr hv =>
  obtain ⟨γ', hg, hsg⟩ := hs.next hsr (fun d hd => .inl hd) hev
  exact ⟨_, w', γ', hrun, hg, key x v rd wr w' γ' I' loc' hK hsg hv⟩
 | unit v rd wr w' I' loc' hK hrun hsr hv =>
  obtain ⟨γ', hg, hsg⟩ := hs.next hsr (fun d hd => .inl hd) hev
  exact ⟨_, w', γ', hrun, hg, key undef v rd wr w' γ' I' loc' hK hsg hv⟩
 | call f avs vs hrun hc hl hv =>
  obtain ⟨r, rd, wr, hK, hcl⟩ := zCM hs hl hv hc
  have hg0 := Guar.refl hs.og.wf
  refine ⟨_, w₁, γ, hrun, ⟨hg0.wf, hg0.tape, hg0.os, hg0.output, hg0.size, hg0.block, hg0.own, hg0.fro, hg0.tok, fun e he => (hev e he).mono (fun b => hereFp.own hs.og) hs.og.rd⟩, R6 hcl ?_⟩
  rintro e w' γ' ⟨v, I', loc', rfl, hsg, hvr, _⟩
  exact hn r rd wr _ _ _ hK ⟨I', loc', hsg.putD hvr (hdw wr)⟩ (by rw [zDT]; exact ha)
theorem zBo {ρ : Option Nat} {all tail : List Oper} {ds : List Deferred} {K : AS → List Touch → Prop} {Q : w6}
  (hK : ∀ σ ts a w γ, K σ ts → St E σ a w γ → a.defers = ds → zUZ (Cur.way P) ρ all.toArray Q (List.range' (all.length - tail.length) tail.length) a w γ) :
  ∀ (l : List Oper) (k : Nat) (σ : AS) (ts : List Touch) (a : Act) (w : World) (γ : Gh), all.drop k = l ++ tail → q9 P all K l σ ts → St E σ a w γ → a.defers = ds → zUZ (Cur.way P) ρ all.toArray Q (List.range' k (all.length - k)) a w γ
 | [], k, σ, ts, a, w, γ, e, h, hs, ha => by
  have h1 : all.length - k = tail.length := by have := congrArg List.length e; simpa using this
  have h2 : List.range' k (all.length - k) = List.range' (all.length - tail.length) tail.length := by
   rcases Nat.eq_zero_or_pos tail.length with h0 | h0
   ·rw [h1, h0]; rfl
   ·have : k = all.length - tail.length := by omega
    rw [h1, this]
  rw [h2]
  exact hK σ ts a w γ h hs ha
 | o :: rest, k, σ, ts, a, w, γ, e, h, hst, ha => by
  have hlen : all.length - k = (rest ++ tail).length + 1 := by have := congrArg List.length e; simpa using this
  have hk : all[k]? = some o := by
   have := congrArg (·[0]?) e
   simpa using this
  have hdr : all.drop (k + 1) = rest ++ tail := by
   have := congrArg List.tail e
   simpa using this
  have hl2 : all.length - (k + 1) = (rest ++ tail).length := by omega
  rw [hlen, List.range'_succ, ← hl2]
  obtain ⟨I, loc, hs⟩ := hst
  rcases zAi hs.sr h with ⟨hw, hd, he⟩ | ⟨hw, hd, hr⟩
  ·exact N2 (o := o) (by simpa using hk) hw (zKL ⟨I, loc, hs⟩ ha he (fun d e => by rw [e] at hd; exact hd) (fun v rd wr a' w' γ' hk hst ha' => zBo hK rest (k + 1) _ _ a' w' γ' hdr hk hst ha'))
  ·refine zAB (by simp [hk, hw]) ?_
   have e2 : (all.toArray[k]?).bind (·.dst) = o.dst := by simp [hk]
   rw [e2]
   exact zBo hK rest (k + 1) _ _ _ w γ hdr hr ⟨I, loc, hs.putD G0 (fun d e => by rw [e] at hd; exact hd)⟩ (by rw [zDT]; exact ha)
theorem zJ6 {o : Oper} {fo : Operand} {ts : Array TypeId} {g : FuncId} {vs : Array Value} (ho : o.op = .defer ⟨.value fo, #[], ts⟩) (hv : a.eval fo = .func (.func g) #[] vs) {next : Nx3} {Q : w6}
  (hnx : ∀ w₁, Rely γ w w₁ → next ({ a with defers := { target := .fn (.func g) vs, args := #[] } :: a.defers }.put o.dst undef) w₁ γ) : Z0 (Cur.way P) none o next Q a w γ := by
 refine T1 (.inl rfl) fun w₁ hr => ⟨.defer { target := .fn (.func g) vs, args := #[] }, w₁, γ, ?_, ?_, fun w₂ hr2 => hnx w₂ (hr.trans hr2)⟩
 ·simp [execOp, ho, resolve, hv, Deferred.ofValue]
 ·have : (execOp a.eval o).events P w₁ #[] = #[] := by simp [execOp, ho, resolve, hv, Deferred.ofValue, Sem.events_bind]
  rw [this]
  exact Guar.refl hr.wf'
def Env.root (E : Env) (m : Nat) (loc : Nat → Loc) (ds : List Deferred) : Env := ⟨E.w0, E.I0, m, loc, E.fp, E.γ0, ds⟩
theorem zMa {I : Nat → Prop} {loc : Nat → Loc} {k : Nat} (hs : SR E I loc σ a w) (h : (σ.obj k).live = true) : loc k ≠ .un := by
 have ho := hs.objs k
 revert ho h
 generalize σ.obj k = A
 intro h ho e
 cases A with
 | unb => cases h
 | dead => cases h
 | box cs => rcases ho with ⟨h1, _⟩ | ⟨b, C, t, h1, _⟩ <;> rw [e] at h1 <;> cases h1
 | row sz xs => obtain ⟨_, _, ⟨h1, _⟩ | ⟨b, C, t, h1, _⟩⟩ := ho <;> rw [e] at h1 <;> cases h1
 | mapo ks xs => obtain ⟨b, es, c, h1, _⟩ := ho; rw [e] at h1; cases h1
 | iter c ks xs => obtain ⟨b, h1, _⟩ := ho; rw [e] at h1; cases h1
 | siter s p => obtain ⟨b, h1, _⟩ := ho; rw [e] at h1; cases h1
 | tbox t cs => obtain ⟨b, C, h1, _⟩ := ho; rw [e] at h1; cases h1
 | brow t l => rcases ho with ⟨h1, _⟩ | ⟨b, C, h1, _⟩ <;> rw [e] at h1 <;> cases h1
 | loopo L env p => obtain ⟨b, t, d, h1, _⟩ := ho; rw [e] at h1; cases h1
theorem SG.root {I : Nat → Prop} {loc : Nat → Loc} (h : SG E I γ loc σ a w) {m : Nat} (hm : ∀ k, k < m → loc k ≠ .un) {d : Deferred} (hd : ∀ r, d.target ≠ .collected r) : SG (E.root m loc [d]) I γ loc σ { a with defers := [d] } w := by
 obtain ⟨hs, og⟩ := h
 exact ⟨⟨⟨[], rfl, fun d' h' r => by simp only [Env.root, List.mem_singleton] at h'; subst h'; exact hd r, List.nodup_nil, fun d' h' => by simp at h'⟩, hs.size, hs.tmps, hs.objs, hs.inj, hs.imm, hs.sep,
  ⟨hs.fr.os, hs.fr.tape, hs.fr.output, hs.fr.size, hs.fr.block, hs.fr.drawn, hs.fr.laid⟩, hs.base, hs.top, fun k hk => ⟨rfl, hm k hk⟩⟩, ⟨og.wf, og.rd, og.live, fun d' r h' e => by simp only [List.mem_singleton] at h'; subst h'; exact (hd r e).elim, og.own, og.fro⟩⟩
theorem SG.undefer {I : Nat → Prop} {loc loc1 : Nat → Loc} {m : Nat} {ds : List Deferred} (h : SG (E.root m loc1 ds) I γ loc σ a w) : SG (E.root m loc1 []) I γ loc σ { a with defers := [] } w := by
 obtain ⟨hs, og⟩ := h
 exact ⟨⟨.nil, hs.size, hs.tmps, hs.objs, hs.inj, hs.imm, hs.sep,
  ⟨hs.fr.os, hs.fr.tape, hs.fr.output, hs.fr.size, hs.fr.block, hs.fr.drawn, hs.fr.laid⟩, hs.base, hs.top, hs.keep⟩, ⟨og.wf, og.rd, og.live, fun d' r h' e => by simp at h', og.own, og.fro⟩⟩
theorem SG.unroot {I : Nat → Prop} {loc loc1 : Nat → Loc} {m : Nat} {ds : List Deferred} (h : SG (E.root m loc1 ds) I γ loc σ a w) (he : E.ds = []) (hk : ∀ k, k < E.n → k < m ∧ loc1 k = E.loc0 k) : SG E I γ loc σ { a with defers := [] } w := by
 obtain ⟨hs, og⟩ := h
 exact ⟨⟨.nil he, hs.size, hs.tmps, hs.objs, hs.inj, hs.imm, hs.sep,
  ⟨hs.fr.os, hs.fr.tape, hs.fr.output, hs.fr.size, hs.fr.block, hs.fr.drawn, hs.fr.laid⟩, hs.base, hs.top, fun k h1 => ⟨((hs.keep k (hk k h1).1).1).trans (hk k h1).2, (hs.keep k (hk k h1).1).2⟩⟩, ⟨og.wf, og.rd, og.live, fun d' r h' e => by simp at h', og.own, og.fro⟩⟩
def O2 (P : Program) (E : Env) (c : Code) (Q : Exit → FrameMode → AS → Prop) (mode : FrameMode) (σ : AS) : Prop :=
 ∀ a w γ, St E σ a w γ → Code.wpD (Cur.way P) c (fun e a m w γ => ∃ σ', Q e m σ' ∧ St E σ' a w γ) mode a w γ
theorem zFh {c : Code} {Q : Exit → FrameMode → AS → Prop} {mode : FrameMode} (h : Hold P E c (fun e σ => Q e mode σ) σ) : O2 P E c Q mode σ := fun a w γ hs => zRS (h a w γ hs)
theorem zLh {x y : Code} {Q : Exit → FrameMode → AS → Prop} {mode : FrameMode} (h : O2 P E x (fun e m σ' => match e with | .normal => O2 P E y Q m σ' | e => Q e m σ') mode σ) : O2 P E (.seq x y) Q mode σ := fun a w γ hs =>
 zRU fun b k fr cs hb hk hm => (h a w γ hs b k fr cs hb hk hm).mono fun g w γ ⟨e, a, m, h1, h2⟩ => ⟨e, a, m, fun w₁ hr => by
  obtain ⟨σ', q1, q2⟩ := h1 w₁ hr
  cases e with
  | normal => exact q1 a w₁ γ q2
  | _ => exact ⟨σ', q1, q2⟩, h2⟩
theorem zLg {id : Nat} {o : Oper} {post : List Oper} {args : Array Operand} {ts : Array TypeId} {Q : Exit → FrameMode → AS → Prop} {mode : FrameMode} (hop : o.op = .call ⟨.builtin .recover, args, ts⟩) (hg : o.guard = none) (h1 : ((Y1 mode).1).oneCell' = true) (hd : ∀ d, o.dst = some d → d < σ.n)
  (h : q9 P (o :: post) (fun σ' _ => Q .normal (Y1 mode).2 σ') post (σ.putD o.dst (.raw (Y1 mode).1)) []) : O2 P E (.region id (o :: post).toArray false) Q mode σ := fun a w γ hs =>
 zRT (n := post.length) (o := o) (by simp) (by simp) hg hop fun w₁ hr => by
  obtain ⟨I, loc, hs⟩ := hs.rely hr
  have := zAw (P := P) (ρ := none) (Q := zUr E (fun e σ => Q e (Y1 mode).2 σ)) (fun σ' _ a' w' γ' h1 h2 => S4 h1 h2) post 1 _ [] _ w₁ γ (by simp) h ⟨I, loc, hs.putD (d := o.dst) (x := (Y1 mode).1) (.pure (.raw _ h1)) hd⟩
  have e : (o :: post).toArray.size - 1 = post.length := by simp
  have e2 : (o :: post).length - 1 = post.length := by simp
  simp only [e2] at this
  exact this
end
theorem zHW {P : Program} {f : FuncId} {fn : Func} {mode mode' : FrameMode} {args : List AV} {fp : List AObj} {out : List AObj} (hf : P.funcs[f]? = some fn) (hb : fn.body.isSome = true)
  (h : ∀ E : Env, E.n = fp.length → O2 P E (sub [] (W3 fn)) (fun e m σ' => (e = .normal ∨ e = .ret) ∧ I6 m = mode' ∧ G6 P fn fp.length .any out σ') mode ⟨args.length + (fn.ntmps - args.length), zUg 0 args, zUS 0 fp⟩) : zBH P f mode mode' args fp out := by
 obtain ⟨c, hc⟩ := Option.isSome_iff_exists.1 hb
 intro w I γ loc vs hs hl hv
 have hst : SG (o6 w I γ fp.length loc) I γ loc ⟨args.length + (fn.ntmps - args.length), zUg 0 args, zUS 0 fp⟩ { tmps := vs ++ Array.replicate (fn.ntmps - vs.size) undef, defers := [] } w := by
  refine ⟨⟨.nil, by simp [hl], fun t => ?_, hs.sr.objs, hs.sr.inj, hs.sr.imm, hs.sr.sep, hs.sr.fr, hs.sr.base, hs.sr.top, hs.sr.keep⟩, ⟨hs.og.wf, hs.og.rd, hs.og.live, fun d r hd => by simp at hd, hs.og.own, hs.og.fro⟩⟩
  show VR w I loc (lkV (zUg 0 args) t) _
  rw [zAl]
  simp only [Nat.not_lt_zero, if_false, Nat.sub_zero]
  by_cases ht : t < args.length
  ·rw [w4 ht]
   have ht' : t < vs.size := by omega
   have e : (vs ++ Array.replicate (fn.ntmps - vs.size) undef).getD t undef = vs[t] := by
    simp [Array.getElem?_append_left ht', ht']
   rw [e]; exact hv t ht ht'
  ·rw [List.getD, List.getElem?_eq_none (by omega)]; exact .pure (.any _)
 have h' := h (o6 w I γ fp.length loc) rfl
 simp only [sub, W3, hc, Option.getD_some] at h'
 refine zJ5 hf hc fun b k fr cs hb hk hm => (h' _ w γ ⟨I, loc, hst⟩ b k fr cs hb hk hm).mono fun g w' γ' ⟨e, a, m, h1, h2⟩ => ⟨e, a, m, fun w₁ hr => ?_, h2⟩
 obtain ⟨σ', ⟨he, hml, xs, mm, ex, r1, r2, r3, r4, r5, r6⟩, hs'⟩ := h1 w₁ hr
 have hweak : Weak fp.length mm ex σ' σ'.n [] out := ⟨rfl, trivial, r3, r4, r5, r6⟩
 have hlen : fp.length ≤ out.length := by
  have h7 := (r3.sound).1
  rcases Nat.eq_zero_or_pos fp.length with h0 | h0
  ·omega
  ·rw [List.all_eq_true] at r6
   have := r6 (fp.length - 1) (by simp; omega)
   have hm : mm[fp.length - 1]? = some (some (fp.length - 1)) := by simpa using this
   have := (List.getElem?_eq_some_iff.1 hm).1
   omega
 refine ⟨he, zFz (E := o6 w I γ fp.length loc) (σ := σ') hf (fun a w' γ' hs' _ w₁ hr => ?_) a.defers a w₁ γ' hs' rfl⟩
 obtain ⟨I', loc', hs'⟩ := hs'.rely hr
 obtain ⟨v, hrun, hev, hvr⟩ := zDV hs'.sr r1
 have hsr := hs'.wk hweak.wk.1 rfl hweak.wk.2
 exact ⟨v, hrun, fun e he => (hev e he).mono (fun b => hereFp.own hs'.og) hs'.og.rd, fun w₂ hr2 => ⟨v, rfl, hml, undef, _, _, rfl, ⟨(hsr.rely hr2).bare, .pure (.any _), hlen⟩⟩⟩
theorem zRL {P : Program} {E : Env} {σ : AS} {a : Act} {w : World} {γ : Gh} {kd : CallKind} {f0 f : FuncId} {R : zUd} {mode mode' : FrameMode} (hst : St E σ a w γ) {caps : Array Value} {avs : List AV} (hm : mode ≠ .run) (hc : y9 P f = true)
  (hv : ∀ w I loc, SR E I loc σ a w → avs.length = caps.size ∧ ∀ i (h : i < avs.length) (h' : i < caps.size), VR w I loc avs[i] caps[i]) {nx : Nat} {ids ex : List Nat} {args : List AV} {fp : List AObj} {out : List AObj} (hmet : MetX (dC P f mode mode') avs σ.obj nx ids ex args fp .any out)
  (hn : ∀ w' γ', St E (σ.writes (u7 ids nx out)) a w' γ' → zUh (Cur.way P) kd f0 R mode' { a with defers := [] } w' γ') : zUh (Cur.way P) kd f0 R mode { a with defers := [{ target := .fn (.func f) caps, args := #[] }] } w γ := by
 refine zRI hm rfl (fun r e => by cases e) (by simp) fun w₁ hr => ?_
 obtain ⟨I, loc, hs⟩ := hst.rely hr
 obtain ⟨g1, g2⟩ := hv w₁ I loc hs.sr
 refine ⟨f, caps, ?_, ?_, ?_⟩
 ·simp only [invoke, Array.empty_append]
  exact N7 hc _
 ·simp only [invoke, Array.empty_append]
  rw [zBR hc]
  exact .nil
 ·have := zBK (C := dC P f mode mode') (fun loc vs w γ R R' h hc => zEk hc fun m w γ ⟨h1, h2⟩ => ⟨h1, h _ _ _ h2⟩) hs g1 g2 hmet
  refine zEk this ?_
  rintro m w' γ' ⟨rfl, v', I', loc', _, hsr, _⟩
  exact hn w' γ' ⟨I', loc', hsr⟩
def zEm (P : Program) (g : FuncId) (caps : List AV) (F : AS → Prop) (e : Exit) (σ : AS) : Prop :=
 ∃ md, (match e with | .normal => md = .returning | .ret => md = .returning | .panic ch => md = .panicking ch | _ => False) ∧
  ∃ (nx : Nat) (ids ex : List Nat) (as' : List AV) (fp out : List AObj), MetX (dC P g md .returning) caps σ.obj nx ids ex as' fp .any out ∧ F (σ.writes (u7 ids nx out))
theorem zCY {P : Program} {E : Env} {f g : FuncId} {kd : CallKind} {R : zUd} {md : FrameMode} {loc1 : Nat → Loc} {m : Nat} {vs : Array Value} {caps : List AV} (hE : E.ds = []) (hkE : ∀ k, k < E.n → k < m ∧ loc1 k = E.loc0 k) (hmd : md ≠ .run) (hc : y9 P g = true)
  (hl : caps.length = vs.size) (hcv : ∀ loc, (∀ k, k < m → loc k = loc1 k) → ∀ w I i (h : i < caps.length) (h' : i < vs.size), VR w I loc caps[i] vs[i]) {σ : AS} {a : Act} {w : World} {γ : Gh} (hs : St (E.root m loc1 [{ target := .fn (.func g) vs, args := #[] }]) σ a w γ)
  {nx : Nat} {ids ex : List Nat} {as' : List AV} {fp out : List AObj} (hmet : MetX (dC P g md .returning) caps σ.obj nx ids ex as' fp .any out)
  (hR : ∀ a w γ, St E (σ.writes (u7 ids nx out)) a w γ → a.defers = [] → zUh (Cur.way P) kd f R .returning a w γ) : zUh (Cur.way P) kd f R md a w γ := by
 refine zC6 hmd (fun a w γ h e => ?_) hs
 have h0 : St (E.root m loc1 []) σ { a with defers := [] } w γ := let ⟨I, loc, q⟩ := h; ⟨I, loc, q.undefer⟩
 have key := zRL (f0 := f) (kd := kd) (R := R) h0 hmd hc (caps := vs) (avs := caps) (fun w I loc hs => ⟨hl, fun i h1 h2 => hcv loc (fun k hk => (hs.keep k hk).1) w I i h1 h2⟩) hmet (fun w' γ' h3 => by
  obtain ⟨I, loc, q⟩ := h3
  exact hR _ _ _ ⟨I, loc, q.unroot hE hkE⟩ rfl)
 obtain ⟨t, d⟩ := a
 have e : d = [{ target := .fn (.func g) vs, args := #[] }] := e
 subst e
 exact key
theorem zHZ {P : Program} {f : FuncId} {fn : Func} {i0 i1 : Nat} {ops0 pre : List Oper} {o : Oper} {rest : Code} {fo : Operand} {ts : Array TypeId} {g : FuncId} {caps : List AV} {m : Nat} {args : List AV} {fp : List AObj} {r : AV} {out : List AObj}
  (hf : P.funcs[f]? = some fn) (hb : fn.body = some (.seq (.region i0 ops0.toArray false) (.seq (.region i1 (pre ++ [o]).toArray false) rest))) (ho : o.op = .defer ⟨.value fo, #[], ts⟩) (hg : o.guard = none) (hd : o.dst = none) (hc : y9 P g = true)
  (hm : fp.length ≤ m) (hcap : ∀ x, x ∈ caps → ∃ k, k < m ∧ x = .ptr k 0)
  (h : ∀ E : Env, E.n = fp.length → q9 P ops0 (fun σ1 _ => q9 P (pre ++ [o]) (fun σ2 _ => σ2.ev fo = .fn g caps ∧ (∀ k, k < m → (σ2.obj k).live = true) ∧
   ∀ E' : Env, E'.n = m → Hold P E' rest (zEm P g caps (G6 P fn fp.length r out)) σ2) pre σ1 []) ops0 ⟨args.length + (fn.ntmps - args.length), zUg 0 args, zUS 0 fp⟩ []) : zUL P f args fp r out := by
 intro w I γ loc vs hs hl hv
 refine zCQ hf hb ?_
 have hst : SG (o6 w I γ fp.length loc) I γ loc ⟨args.length + (fn.ntmps - args.length), zUg 0 args, zUS 0 fp⟩ { tmps := vs ++ Array.replicate (fn.ntmps - vs.size) undef, defers := [] } w := by
  refine ⟨⟨.nil, by simp [hl], fun t => ?_, hs.sr.objs, hs.sr.inj, hs.sr.imm, hs.sr.sep, hs.sr.fr, hs.sr.base, hs.sr.top, hs.sr.keep⟩, ⟨hs.og.wf, hs.og.rd, hs.og.live, fun d r hd => by simp at hd, hs.og.own, hs.og.fro⟩⟩
  show VR w I loc (lkV (zUg 0 args) t) _
  rw [zAl]
  simp only [Nat.not_lt_zero, if_false, Nat.sub_zero]
  by_cases ht : t < args.length
  ·rw [w4 ht]
   have ht' : t < vs.size := by omega
   have e : (vs ++ Array.replicate (fn.ntmps - vs.size) undef).getD t undef = vs[t] := by
    simp [Array.getElem?_append_left ht', ht']
   rw [e]; exact hv t ht ht'
  ·rw [List.getD, List.getElem?_eq_none (by omega)]; exact .pure (.any _)
 have h' := h (o6 w I γ fp.length loc) rfl
 refine zD7 (D7 ?_)
 rw [List.range_eq_range']
 refine zBo (tail := []) (ds := []) (fun σ1 ts1 a1 w1 γ1 h1 hs1 ha1 => ?_) ops0 0 _ [] _ w γ (by simp) h' ⟨I, loc, hst⟩ rfl
 refine H2 fun w1' hr1 => ?_
 show Code.wpM _ none _ _ a1 w1' γ1
 refine zD7 (D7 ?_)
 rw [List.range_eq_range']
 refine zBo (tail := [o]) (ds := []) (fun σ2 ts2 a2 w2 γ2 h2 hs2 ha2 => ?_) pre 0 σ1 [] a1 w1' γ1 (by simp) h1 (hs1.rely hr1) ha1
 obtain ⟨k1, k2, k3⟩ := h2
 have hz : (pre ++ [o]).length - [o].length = pre.length := by simp
 rw [hz]
 show zUZ _ none _ _ [pre.length] a2 w2 γ2
 have hko : (pre ++ [o]).toArray[pre.length]? = some o := by simp
 refine N2 (o := o) hko (by unfold Region.wanted; rw [hg]) ?_
 have hgv0 : ∃ cv, a2.eval fo = .func (.func g) #[] cv := by
  obtain ⟨I2, loc2, hs2⟩ := hs2
  have hgv := hs2.sr.ev fo
  rw [k1] at hgv
  generalize a2.eval fo = fv at hgv
  cases hgv with
  | pure hp => cases hp
  | fn _ _ vs q1 q2 => exact ⟨vs, rfl⟩
 obtain ⟨cv, hcv⟩ := hgv0
 refine zJ6 ho hcv fun w₁ hr => ?_
 have hs2 := hs2.rely hr
 refine H2 fun w₃ hr3 => ?_
 have hs2 := hs2.rely hr3
 obtain ⟨I2, loc2, hs2⟩ := hs2
 have hgv := hs2.sr.ev fo
 rw [k1, hcv] at hgv
 rw [hd, ha2]
 show Code.wpM _ none _ _ _ _ _
 have hst3 : St (Env.root (o6 w I γ fp.length loc) m loc2 [{ target := .fn (.func g) cv, args := #[] }]) σ2 { a2 with defers := [{ target := .fn (.func g) cv, args := #[] }] } w₃ γ2 := ⟨I2, loc2, hs2.root (fun k hk => zMa hs2.sr (k2 k hk)) (fun r e => by cases e)⟩
 refine M2 (k3 (Env.root (o6 w I γ fp.length loc) m loc2 [{ target := .fn (.func g) cv, args := #[] }]) rfl _ _ _ hst3) ?_
 have hkE : ∀ k, k < (o6 w I γ fp.length loc).n → k < m ∧ loc2 k = (o6 w I γ fp.length loc).loc0 k := fun k hk => ⟨Nat.lt_of_lt_of_le hk hm, (hs2.sr.keep k hk).1⟩
 have hcv2 : caps.length = cv.size ∧ ∀ loc', (∀ k, k < m → loc' k = loc2 k) → ∀ w I i (h : i < caps.length) (h' : i < cv.size), VR w I loc' caps[i] cv[i] := by
  cases hgv with
  | pure hp => cases hp
  | fn _ _ _ q1 q2 =>
   refine ⟨q1, fun loc' hl' w I i h1 h2 => ?_⟩
   obtain ⟨k, hk, hx⟩ := hcap _ (List.getElem_mem h1)
   have := q2 i h1 h2
   rw [hx] at this ⊢
   generalize cv[i] = cvi at this ⊢
   cases this with
   | pure hp => cases hp
   | ptr _ _ b c e => exact .ptr _ _ b c ((hl' k hk).trans e)
 have fin : ∀ σ', G6 P fn fp.length r out σ' → ∀ a w' γ', St (o6 w I γ fp.length loc) σ' a w' γ' → a.defers = [] → zUh (Cur.way P) .normal f (fun e w' γ' => ∃ v I' loc', e = .returned v ∧ Post w I γ loc fp.length r out v w' I' γ' loc') .returning a w' γ' := by
  rintro σ' ⟨xs, mm, ex, r1, r2, r3, r4, r5, r6⟩ a w' γ' hs' ha
  have hweak : Weak fp.length mm ex σ' σ'.n [] out := ⟨rfl, trivial, r3, r4, r5, r6⟩
  have hlen : fp.length ≤ out.length := by
   have h7 := (r3.sound).1
   rcases Nat.eq_zero_or_pos fp.length with h0 | h0
   ·omega
   ·rw [List.all_eq_true] at r6
    have := r6 (fp.length - 1) (by simp; omega)
    have hm : mm[fp.length - 1]? = some (some (fp.length - 1)) := by simpa using this
    have := (List.getElem?_eq_some_iff.1 hm).1
    omega
  refine zH2 hf ha fun w₁ hr => ?_
  obtain ⟨I', loc', hs'⟩ := hs'.rely hr
  obtain ⟨v, hrun, hev, hvr⟩ := zDV hs'.sr r1
  have hsr := hs'.wk hweak.wk.1 rfl hweak.wk.2
  have hval := Xp.sound hs'.sr (XpF.sound r2) hvr
  exact ⟨v, hrun, fun e he => (hev e he).mono (fun b => hereFp.own hs'.og) hs'.og.rd, fun w₂ hr2 => ⟨v, _, _, rfl, ⟨(hsr.rely hr2).bare, hval.mono (fun b hb => hr2.block b (hsr.og.rd b hb)) (fun _ x => x) (fun _ _ => rfl), hlen⟩⟩⟩
 rintro e a w' γ' ⟨σ', ⟨md, hmd, nx, ids, ex, as', fp', out', hmet, hF⟩, hs'⟩
 cases e with
 | normal => simp only at hmd; subst hmd; exact zCY rfl hkE (by simp) hc hcv2.1 hcv2.2 hs' hmet (fin _ hF)
 | ret => simp only at hmd; subst hmd; exact zCY rfl hkE (by simp) hc hcv2.1 hcv2.2 hs' hmet (fin _ hF)
 | panic ch => simp only at hmd; subst hmd; exact zCY rfl hkE (by simp) hc hcv2.1 hcv2.2 hs' hmet (fin _ hF)
 | _ => exact hmd.elim
end Go.Abs

namespace Go.Abs
open Go
variable [Cur]
def zBD (P : Program) (f : FuncId) (vs : List Value) (r : Value) : Prop :=
 r.oneCell' = true ∧ ∀ w, (callFunc f vs.toArray).run P w = .ok (.value r) w ∧ ∀ γ n, EvsOK γ n ((callFunc f vs.toArray).events P w #[])
section
variable {P : Program} {E : Env} {σ : AS} {a : Act} {w : World} {γ : Gh}
theorem zKS {ρ : Option Nat} (hst : St E σ a w γ) {o : Oper} {fo : Operand} {args : Array Operand} {ts : Array TypeId} (hop : o.op = .call ⟨.value fo, args, ts⟩) {f : FuncId} (hfe : σ.ev fo = .raw (.func (.func f) #[] #[])) {l : List Value} (hl : Q1 (args.toList.map σ.ev) = some l) {r : Value} (hx : zBD P f l r)
  (hd : ∀ d, o.dst = some d → d < σ.n) {next : Nx3} {Q : w6} (hn : ∀ a' w' γ', St E (σ.putD o.dst (.raw r)) a' w' γ' → next a' w' γ') : Z0 (Cur.way P) ρ o next Q a w γ := by
 refine T1 (.inr fun c e => by rw [hop] at e; cases e) fun w₁ hr => ?_
 obtain ⟨I, loc, hs⟩ := hst.rely hr
 have hfo := hs.sr.ev fo
 obtain ⟨g1, g2⟩ := Y5 hs.sr args
 rw [hfe] at hfo
 have e := hfo.raw_eq
 have hargs : args.map a.eval = l.toArray := by
  have := H4 hl (args.map a.eval).toList (by simpa using g1) (fun i h h' => by have := g2 i h (by simpa using h'); simpa using this)
  rw [← this]
 obtain ⟨h1, h2⟩ := hx
 have hrun : (execOp a.eval o).run P w₁ = .ok (.value r) w₁ := by
  simp only [execOp, hop, resolve, e, Deferred.ofValue, Sem.run_bind, Sem.run_pure, Result.andThen_ok, invoke, Array.append_empty, Array.empty_append, hargs]
  exact (h2 w₁).1
 have hev : EvsOK γ w₁.heap.size ((execOp a.eval o).events P w₁ #[]) := by
  simp only [execOp, hop, resolve, e, Deferred.ofValue, Sem.events_bind, Sem.run_bind, Sem.run_pure, Result.andThen_ok, Result.evThen_ok, Sem.events_pure, invoke, Array.append_empty, Array.empty_append, hargs]
  exact (h2 w₁).2 _ _
 have hg0 := Guar.refl hs.og.wf
 exact ⟨_, w₁, γ, hrun, ⟨hg0.wf, hg0.tape, hg0.os, hg0.output, hg0.size, hg0.block, hg0.own, hg0.fro, hg0.tok, hev⟩, fun w₂ hr2 => hn _ _ _ (St.rely ⟨I, loc, hs.putD (.pure (.raw _ h1)) hd⟩ hr2)⟩
end
section
variable {P : Program} {E : Env} {Q : Exit → AS → Prop} {σ : AS} {p : List Nat} {b : Code}
end
end Go.Abs

namespace Go.Abs
open Go Go.RowKit
variable [Cur]
@[reducible] def T0 : Cur := ⟨fun P => zBe P⟩
def V7 (w : World) : Prop := ∀ p, p ∈ zB8 → w.cell? ⟨p.1, 0, none⟩ = some p.2
abbrev zVe (w : World) : Nat → Prop := fun b => b < w.heap.size
abbrev gh0 (w : World) : Gh := ⟨fun _ => False, zVe w, none⟩
theorem zKZ {w : World} (h : V7 w) : SG (o6 w (zVe w) (gh0 w) 0 (fun _ => .un)) (zVe w) (gh0 w) (fun _ => .un) (hs []) P2 w := by
 have hlive : ∀ o, ((hs []).obj o).live = true → False := fun o h => by simp [hs, zUS, AS.obj, lkO, AObj.live] at h
 refine ⟨⟨.nil, rfl, fun t => .pure (.any _), fun o => rfl, fun o o' b c c' h => (hlive _ h).elim, fun b hb => hb, fun o b c h => (hlive _ h).elim,
  ⟨rfl, rfl, rfl, Nat.le_refl _, fun b _ _ _ => rfl, fun _ => Nat.le_refl _, fun p hp => ⟨h p hp, fun ⟨j, c, hj, _⟩ => absurd hj (Nat.not_lt_zero j), .inr ?_⟩⟩, fun b hb => hb, fun b hb => .inl hb, fun k hk => absurd hk (Nat.not_lt_zero k)⟩,
  ⟨⟨fun b hb => hb.elim (fun h => h.elim) id, fun b hb => hb.elim⟩, fun b hb => .inr hb, fun o b c h => (hlive _ h).elim, fun d r hd => by simp [P2] at hd, fun b hb => hb, fun b hb => hb⟩⟩
 have l1 := h p hp
 rcases Nat.lt_or_ge p.1 w.heap.size with h | h
 ·exact h
 ·simp [World.cell?, Array.getElem?_eq_none h] at l1
theorem zGA {P : Program} {f : FuncId} {args : List AV} {r : AV} {out : List AObj} (sp : @zUL T0 P f args [] r out) {w : World} (hl : V7 w) {vs : Array Value} (hsz : vs.size = args.length)
  (hv : ∀ i (h : i < args.length) (h' : i < vs.size), VR w (zVe w) (fun _ => .un) args[i] vs[i]) :
  Calls P f vs w fun e w' => ∃ v I' loc', e = .returned v ∧ VR w' I' loc' r v ∧ Below w.heap.size w w' := by
 have hw : (gh0 w).Wf w := ⟨fun b hb => hb.elim (fun h => h.elim) id, fun b hb => hb.elim⟩
 refine (zJa (sp w (zVe w) (gh0 w) (fun _ => .un) vs (zKZ hl) hsz hv) hw).mono ?_
 rintro e w' ⟨γ', ⟨v, I', loc', rfl, hp⟩, _⟩
 have fr := hp.sg.sr.fr
 exact ⟨v, I', loc', rfl, hp.val, fr.os, fr.tape, fr.output, fr.size, fun k hk => fr.block k hk (.inr hk) (fun ⟨j, c, hj, _⟩ => absurd hj (Nat.not_lt_zero j))⟩
theorem zGB {P : Program} {f : FuncId} {vl : List Value} (h1 : vl.all Value.oneCell' = true) {r : AV} {out : List AObj} (sp : @zUL T0 P f (vl.map .raw) [] r out) {w : World} (hl : V7 w) :
  Calls P f vl.toArray w fun e w' => ∃ v I' loc', e = .returned v ∧ VR w' I' loc' r v ∧ Below w.heap.size w w' :=
 zGA sp hl (by simp) fun i h h' => by
  have hi : i < vl.length := by simpa using h'
  have := List.all_eq_true.1 h1 vl[i] (List.getElem_mem hi)
  simpa using VR.pure (.raw _ this)
end Go.Abs

namespace Go.Abs
open Go Go.RowKit
attribute [local instance] T0
def zA2 : ResultVar → Bool
 | .tmp _ => true
 | .cell _ _ => false
theorem zHA {P : Program} (tm : Array Value) (w : World) : ∀ {vs : List ResultVar}, vs.all zA2 = true → ∃ us : List Value, ∀ w, (vs.mapM (L6 tm)).run P w = .ok us w ∧ ∀ es, (vs.mapM (L6 tm)).events P w es = es
 | [], _ => ⟨[], fun w => ⟨by simp, fun es => by simp⟩⟩
 | v :: vs, h => by
  rw [List.all_cons, Bool.and_eq_true] at h
  obtain ⟨us, hu⟩ := zHA (P := P) tm w h.2
  cases v with
  | cell b t => simp [zA2] at h
  | tmp t =>
   refine ⟨tm.getD t undef :: us, fun w => ⟨?_, fun es => ?_⟩⟩
   ·rw [List.mapM_cons, Sem.run_bind]
    show Result.andThen (.ok (tm.getD t undef) w) _ = _
    rw [Result.andThen_ok, Sem.run_bind, (hu w).1]; rfl
   ·rw [List.mapM_cons, Sem.events_bind]
    show Result.evThen (.ok (tm.getD t undef) w) _ _ = _
    rw [Result.evThen_ok, Sem.events_bind, (hu w).1, Result.evThen_ok]
    exact (hu w).2 es
theorem zNd {P : Program} {fn : Func} (h : fn.results.toList.all zA2 = true) (tm : Array Value) : ∃ v, ∀ w, (results fn tm).run P w = .ok v w ∧ (results fn tm).events P w #[] = #[] := by
 obtain ⟨us, hu⟩ := zHA (P := P) tm default h
 have e4 : fn.results = fn.results.toList.toArray := by simp
 refine ⟨if h : us.toArray.size = 1 then us.toArray[0] else .tuple us.toArray, fun w => ⟨?_, ?_⟩⟩
 ·rw [zBn, Sem.run_bind, e4, List.mapM_toArray]
  simp only [Sem.run_map, (hu w).1, Result.andThen_ok, Sem.run_pure]
 ·rw [zBn, Sem.events_bind, e4, List.mapM_toArray]
  simp only [Sem.run_map, (hu w).1, Result.andThen_ok, Sem.run_pure, Result.evThen_ok, Sem.events_pure, Sem.events_map]
  exact (hu w).2 #[]
theorem zJZ {P : Program} {f : FuncId} {fn : Func} {args : Array Value} {R : zUd} {w : World} {γ : Gh} (hf : P.funcs[f]? = some fn) (hs : fn.results.toList.all zA2 = true)
  (h : ∀ w₁, Rely γ w w₁ → Calls P f args w₁ fun e w' => ∃ v, e = .returned v ∧ Rely γ w₁ w' ∧ Bx (R (.returned v) · γ) γ w') : U6 (zBe P) .normal f args R w γ := fun cs => by
 refine .phase fun w₁ hr hw => ?_
 obtain ⟨e, w', fr, ⟨v, rfl, hr2, hR⟩, hc, hfn, hm, hd, hk, fn', hf', hres⟩ := h w₁ hr cs
 rw [hfn, hf] at hf'
 cases hf'
 obtain ⟨v', hv⟩ := zNd (P := P) hs fr.tmps
 rw [(hv w').1] at hres
 cases hres
 refine ⟨Conc.G fr cs, w', γ, hc, .stop ⟨fr, fn, rfl, hfn, hk, hd, hf, .inl ⟨hm, fun w₂ hr3 => ⟨v, (hv w₂).1, ?_, fun w₃ hr4 => hR w₃ (hr3.trans hr4)⟩⟩⟩, hr2.wf', hr2.tape, hr2.os, hr2.output⟩
 rw [(hv w₂).2]
 exact .nil
theorem zI9 {γ : Gh} {w w' : World} (hw : γ.Wf w) (hb : Below w.heap.size w w') : Rely γ w w' :=
 ⟨hw, hb.tape, hb.os, hb.output, hb.size, fun b h => hb.block b (hw.lt b h), fun k hk ⟨st, sm, e⟩ => ⟨st, sm, (hb.block _ (Array.getElem?_eq_some_iff.1 e).1).trans e⟩⟩
theorem SG.laidW {E : Env} {I : Nat → Prop} {γ : Gh} {loc : Nat → Loc} {σ : AS} {a : Act} {w : World} (h : SG E I γ loc σ a w) : V7 w := fun p hp => by
 obtain ⟨l1, l2, l3⟩ := h.sr.fr.laid p hp
 have hlt : p.1 < E.w0.heap.size := by
  rcases Nat.lt_or_ge p.1 E.w0.heap.size with h | h
  ·exact h
  ·simp [World.cell?, Array.getElem?_eq_none h] at l1
 exact (zAZ (h.sr.fr.block p.1 hlt l3 l2) 0).trans l1
theorem zNY {w : World} {I : Nat → Prop} {loc : Nat → Loc} (vls : List Value) (vs : Array Value) (hl : vs.size = (vls.map AV.raw).length) (h : ∀ i (h : i < (vls.map AV.raw).length) (h' : i < vs.size), VR w I loc (vls.map AV.raw)[i] vs[i]) : vs = vls.toArray := by
 apply Array.ext
 ·simpa using hl
 ·intro i h1 h2
  have h3 : i < vls.length := by simpa using h2
  have k := h i (by simpa using h3) h1
  rw [List.getElem_map] at k
  simpa using k.raw_eq
theorem zRF {w : World} {I : Nat → Prop} {loc : Nat → Loc} {r s : Value} (hr : r.oneCell' = true) (hs : s.oneCell' = true) : VR w I loc (.tup [.raw r, .raw s]) (.tuple #[r, s]) :=
 .tup _ _ rfl fun i hi hi' => by
  have : i = 0 ∨ i = 1 := by simp at hi; omega
  rcases this with rfl | rfl
  ·exact .pure (.raw _ hr)
  ·exact .pure (.raw _ hs)
theorem zMd {P : Program} {f : FuncId} {fn : Func} (hf : P.funcs[f]? = some fn) (hsl : fn.results.toList.all zA2 = true) (vl : List Value) (r s : Value) (hr : r.oneCell' = true) (hs' : s.oneCell' = true)
  (h : ∀ w, V7 w → Calls P f vl.toArray w fun e w' => e = .returned (.tuple #[r, s]) ∧ Below w.heap.size w w') : @zUL T0 P f (vl.map .raw) [] (.tup [.raw r, .raw s]) [] := by
 intro w I γ loc vs hs hv hargs
 obtain rfl := zNY vl vs hv hargs
 refine zJZ hf hsl fun w₁ hr1 => ?_
 have hs1 := hs.rely hr1
 refine (h w₁ hs1.laidW).mono ?_
 rintro e w' ⟨rfl, hb⟩
 have hr2 := zI9 hs1.og.wf hb
 exact ⟨_, rfl, hr2, fun w₂ hr3 => ⟨_, I, loc, rfl, (hs1.rely hr2).rely hr3, zRF hr hs', by simp⟩⟩
theorem zMc {P : Program} {f : FuncId} {vl : List Value} (h1 : vl.all Value.oneCell' = true) {r : Value} (sp : @zUL T0 P f (vl.map .raw) [] (.raw r) []) {w : World} (hl : V7 w) :
  Calls P f vl.toArray w fun e w' => e = .returned r ∧ Below w.heap.size w w' :=
 letI : Cur := T0
 (zGB h1 sp hl).mono fun e w' ⟨v, I', loc', he, hp, hb⟩ => by
  have := hp.raw_eq
  subst this
  exact ⟨he, hb⟩
theorem zMe {P : Program} {f : FuncId} {vl : List Value} (h1 : vl.all Value.oneCell' = true) {r s : Value} (sp : @zUL T0 P f (vl.map .raw) [] (.tup [.raw r, .raw s]) []) {w : World} (hl : V7 w) :
  Calls P f vl.toArray w fun e w' => e = .returned (.tuple #[r, s]) ∧ Below w.heap.size w w' :=
 letI : Cur := T0
 (zGB h1 sp hl).mono fun e w' ⟨v, I', loc', he, hv, hb⟩ => by
  refine ⟨?_, hb⟩
  cases hv with
  | tup xs vs hn hx =>
   have e0 := (hx 0 (by simp) (by simp at hn; omega)).raw_eq
   have e1 := (hx 1 (by simp) (by simp at hn; omega)).raw_eq
   have hn2 : vs.size = 2 := by simpa using hn.symm
   have : vs = #[r, s] := by
    apply Array.ext
    ·simpa using hn2
    ·intro i g1 g2
     have hi : i = 0 ∨ i = 1 := by omega
     rcases hi with rfl | rfl
     ·exact e0
     ·exact e1
   rw [he, this]
  | pure h => cases h
theorem zFx {w w' : World} (h : V7 w) (hb : Below w.heap.size w w') : V7 w' := fun p hp => by
 have hc := h p hp
 have hlt : p.1 < w.heap.size := by
  rcases Nat.lt_or_ge p.1 w.heap.size with k | k
  ·exact k
  ·simp [World.cell?, Array.getElem?_eq_none k] at hc
 exact (hb.cell (p := ⟨p.1, 0, none⟩) hlt).trans hc
end Go.Abs

namespace Go.Abs
open Go
abbrev iV (n : Int) : AV := .raw (.int .i64 n)
abbrev bV (b : Bool) : AV := .raw (.bool b)
@[go_sem] theorem zS5 {α β : Type} [Inhabited α] {f : α → β} {l : List α} {i : Nat} {d : β} (h : i < l.length) : (l.map f).getD i d = f (l.getD i default) := by
 simp [List.getD, h]
@[go_sem] theorem zTV (n : Nat) : (0 ≤ (n : Int)) = True := by simp
@[go_sem] theorem zTT (m n : Nat) : ((m : Int) < (n : Int)) = (m < n) := by simp
@[go_sem] theorem zTS (m n : Nat) : ((m : Int) ≤ (n : Int)) = (m ≤ n) := by simp
attribute [go_sem] Int.toNat_natCast List.length_map List.length_append List.length_take Nat.zero_add Nat.add_zero
theorem wrap_i64 {n : Int} (h0 : -9223372036854775808 ≤ n) (h1 : n ≤ 9223372036854775807) : IntKind.i64.wrap n = n := by
 rw [IntKind.wrap_i64]; omega
theorem u6 {n : Nat} (h : n < 9223372036854775807) : IntKind.i64.wrap ((n : Int) + 1) = ((n + 1 : Nat) : Int) := by
 rw [wrap_i64 (by omega) (by omega)]; omega
structure Plate where
 number : Int
 letter : Int
 deriving DecidableEq, Inhabited
structure House where
 street : Int
 plate : Plate
 deriving DecidableEq, Inhabited
abbrev zVF := List (List Plate)
@[reducible] def Plate.enc (p : Plate) : AV := .agg [iV p.number, iV p.letter]
@[reducible] def House.enc (p : House) : AV := .agg [iV p.street, iV p.plate.number, iV p.plate.letter]
@[reducible] def zEq (l : List Plate) : AV := .list (l.map Plate.enc)
attribute [go_sem] Plate.enc House.enc zEq
end Go.Abs

