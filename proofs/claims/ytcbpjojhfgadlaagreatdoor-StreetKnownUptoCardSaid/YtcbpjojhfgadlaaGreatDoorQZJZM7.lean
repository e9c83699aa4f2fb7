/-
  WHAT THE PROOF STANDS ON, PART 7: contracts of the program's functions. No condition.
-/
import Derived.Scope
import Derived.Test.YtcbpjojhfgadlaaGreatDoorQZJ6
set_option maxRecDepth 100000
set_option maxHeartbeats 16000000
set_option linter.unusedVariables false
set_option linter.unusedSimpArgs false
set_option linter.unusedSectionVars false
namespace Go.Proofs
open Go Go.Abs
@[go_sem] theorem Tryz.by9 : Abs.bytesT Tryz.prog 9 = some 16 := by kernel_rfl
@[go_sem] theorem Tryz.ze9 : Abs.zeroT Tryz.prog 9 = some (.string ⟨#[]⟩) := by kernel_rfl
@[go_sem] theorem Tryz.sz9 : Abs.sizeT Tryz.prog 9 = some 1 := by kernel_rfl
@[go_sem] theorem Tryz.ag26 : Abs.v8 Tryz.prog 26 = some false := by kernel_rfl
@[go_sem] theorem Tryz.sz26 : Abs.sizeT Tryz.prog 26 = some 1 := by kernel_rfl
@[go_sem] theorem Tryz.by26 : Abs.bytesT Tryz.prog 26 = some 8 := by kernel_rfl
@[go_sem] theorem Tryz.ze26 : Abs.zeroT Tryz.prog 26 = some (.nilFunc) := by kernel_rfl
@[go_sem] theorem Tryz.sl26 : Abs.sliceT Tryz.prog 26 = none := by kernel_rfl
@[go_sem] theorem Tryz.ag32 : Abs.v8 Tryz.prog 32 = some false := by kernel_rfl
@[go_sem] theorem Tryz.sz32 : Abs.sizeT Tryz.prog 32 = some 1 := by kernel_rfl
@[go_sem] theorem Tryz.by32 : Abs.bytesT Tryz.prog 32 = some 24 := by kernel_rfl
@[go_sem] theorem Tryz.ze32 : Abs.zeroT Tryz.prog 32 = some (.slice none 0 0) := by kernel_rfl
@[go_sem] theorem Tryz.sl32 : Abs.sliceT Tryz.prog 32 = some 9 := by kernel_rfl
@[go_sem] theorem Tryz.un32 : Tryz.prog.underlying 32 = some (.slice 9) := by kernel_rfl
@[go_sem] theorem Tryz.ag36 : Abs.v8 Tryz.prog 36 = some false := by kernel_rfl
@[go_sem] theorem Tryz.sz36 : Abs.sizeT Tryz.prog 36 = some 1 := by kernel_rfl
@[go_sem] theorem Tryz.by36 : Abs.bytesT Tryz.prog 36 = some 8 := by kernel_rfl
@[go_sem] theorem Tryz.ze36 : Abs.zeroT Tryz.prog 36 = some (.nilFunc) := by kernel_rfl
@[go_sem] theorem Tryz.sl36 : Abs.sliceT Tryz.prog 36 = none := by kernel_rfl
@[go_sem] theorem Tryz.ag40 : Abs.v8 Tryz.prog 40 = some false := by kernel_rfl
@[go_sem] theorem Tryz.sz40 : Abs.sizeT Tryz.prog 40 = some 1 := by kernel_rfl
@[go_sem] theorem Tryz.by40 : Abs.bytesT Tryz.prog 40 = some 8 := by kernel_rfl
@[go_sem] theorem Tryz.ze40 : Abs.zeroT Tryz.prog 40 = some (.nilFunc) := by kernel_rfl
@[go_sem] theorem Tryz.sl40 : Abs.sliceT Tryz.prog 40 = none := by kernel_rfl
@[go_sem] theorem Tryz.ag61 : Abs.v8 Tryz.prog 61 = some false := by kernel_rfl
@[go_sem] theorem Tryz.sz61 : Abs.sizeT Tryz.prog 61 = some 1 := by kernel_rfl
@[go_sem] theorem Tryz.by61 : Abs.bytesT Tryz.prog 61 = some 8 := by kernel_rfl
@[go_sem] theorem Tryz.ze61 : Abs.zeroT Tryz.prog 61 = some (.nilFunc) := by kernel_rfl
@[go_sem] theorem Tryz.sl61 : Abs.sliceT Tryz.prog 61 = none := by kernel_rfl
@[go_sem] theorem Tryz.ag93 : Abs.v8 Tryz.prog 93 = some false := by kernel_rfl
@[go_sem] theorem Tryz.sz93 : Abs.sizeT Tryz.prog 93 = some 1 := by kernel_rfl
@[go_sem] theorem Tryz.by93 : Abs.bytesT Tryz.prog 93 = some 8 := by kernel_rfl
@[go_sem] theorem Tryz.ze93 : Abs.zeroT Tryz.prog 93 = some (.nilFunc) := by kernel_rfl
@[go_sem] theorem Tryz.sl93 : Abs.sliceT Tryz.prog 93 = none := by kernel_rfl
@[go_sem] theorem Tryz.ag119 : Abs.v8 Tryz.prog 119 = some false := by kernel_rfl
@[go_sem] theorem Tryz.sz119 : Abs.sizeT Tryz.prog 119 = some 1 := by kernel_rfl
@[go_sem] theorem Tryz.by119 : Abs.bytesT Tryz.prog 119 = some 8 := by kernel_rfl
@[go_sem] theorem Tryz.ze119 : Abs.zeroT Tryz.prog 119 = some (.nilFunc) := by kernel_rfl
@[go_sem] theorem Tryz.sl119 : Abs.sliceT Tryz.prog 119 = none := by kernel_rfl
@[go_sem] theorem Tryz.bs32 (n : Nat) (ps : List (Nat × Abs.AV)) (H : Nat → Abs.AObj) (nx : Nat) (K : Abs.Cont) : Abs.buildSliceA Tryz.prog 32 n ps H nx K = Abs.bsR 1 n ps H nx K := Abs.buildSliceA_row Tryz.sl32 Tryz.sz9 Tryz.ze9 rfl (by decide) rfl n ps H nx K
@[go_sem] theorem Tryz.ap32 (s x : Abs.AV) (H : Nat → Abs.AObj) (nx : Nat) (K : Abs.Cont) : Abs.appendA Tryz.prog 32 s x H nx K = Abs.appR 1 16 s x H nx K := Abs.appendA_row Tryz.sl32 Tryz.sz9 Tryz.by9 Tryz.ze9 rfl (by decide) rfl s x H nx K
@[go_sem] theorem Tryz.ca5 : Abs.r8 Tryz.prog 5 = true := by kernel_rfl
@[go_sem] theorem Tryz.ca6 : Abs.r8 Tryz.prog 6 = true := by kernel_rfl
@[go_sem] theorem Tryz.ca26 : Abs.r8 Tryz.prog 26 = true := by kernel_rfl
@[go_sem] theorem Tryz.ca29 : Abs.r8 Tryz.prog 29 = true := by kernel_rfl
@[go_sem] theorem Tryz.ca32 : Abs.r8 Tryz.prog 32 = true := by kernel_rfl
@[go_sem] theorem Tryz.ca34 : Abs.r8 Tryz.prog 34 = true := by kernel_rfl
@[go_sem] theorem Tryz.ca36 : Abs.r8 Tryz.prog 36 = true := by kernel_rfl
@[go_sem] theorem Tryz.ca37 : Abs.r8 Tryz.prog 37 = true := by kernel_rfl
@[go_sem] theorem Tryz.ca38 : Abs.r8 Tryz.prog 38 = true := by kernel_rfl
@[go_sem] theorem Tryz.ca40 : Abs.r8 Tryz.prog 40 = true := by kernel_rfl
@[go_sem] theorem Tryz.ca50 : Abs.r8 Tryz.prog 50 = true := by kernel_rfl
@[go_sem] theorem Tryz.ca61 : Abs.r8 Tryz.prog 61 = true := by kernel_rfl
@[go_sem] theorem Tryz.ca62 : Abs.r8 Tryz.prog 62 = true := by kernel_rfl
@[go_sem] theorem Tryz.ca69 : Abs.r8 Tryz.prog 69 = true := by kernel_rfl
@[go_sem] theorem Tryz.ca93 : Abs.r8 Tryz.prog 93 = true := by kernel_rfl
@[go_sem] theorem Tryz.ca98 : Abs.r8 Tryz.prog 98 = true := by kernel_rfl
@[go_sem] theorem Tryz.ca119 : Abs.r8 Tryz.prog 119 = true := by kernel_rfl
end Go.Proofs
namespace Go.Abs
open Go Go.Proofs Tryz
set_option maxRecDepth 10000

theorem hasA_key (hs : List House) (h : House) : zON (hs.map House.key) h.key = decide (h ∈ hs) := by
  unfold zON; rw [R7]; by_cases hm : h ∈ hs <;> simp [hm]
end Go.Abs

namespace Go.Abs
open Go

theorem insH_len {x : House} : ∀ {l : List House}, (zN0 x l).length ≤ l.length + 1
  | [] => by simp [zN0]
  | y :: r => by
    simp only [zN0]
    split
    · simp only [List.length_cons]; have := insH_len (x := x) (l := r); omega
    · split <;> simp
theorem mv_len_all (p : zNU) (c : Change) (h : House) : (mv p c h).length ≤ 2 := by
  unfold mv toP
  repeat' split
  all_goals simp
end Go.Abs

namespace Go.Abs
open Go Go.Proofs Tryz

theorem err_zero {p : zNU} {c : Change} (h : p7 p c = 0) : Valid p ∧ Fit p c := by
  unfold p7 at h
  split at h
  · rename_i hc; exact ⟨(Q1 p).1 hc, Fit.of_can h⟩
  · rename_i hc; exact absurd h hc
theorem was_some {p : zNU} {c : Change} {h x : House} (e : zDi p c h = some x) : x ∈ q6 p ∧ h ∈ mv p c x := by
  unfold zDi at e
  exact ⟨List.mem_of_find?_eq_some e, by simpa using List.find?_some e⟩
theorem was_none {p : zNU} {c : Change} {h : House} (e : zDi p c h = none) : ∀ x, x ∈ q6 p → h ∉ mv p c x := fun x hx => by
  unfold zDi at e
  simpa using List.find?_eq_none.1 e x hx
theorem was_uniq {p : zNU} {c : Change} {h x : House} (v : Valid p) (f : Fit p c) (hx : x ∈ q6 p) (hm : h ∈ mv p c x) : zDi p c h = some x := by
  cases e : zDi p c h with
  | none => exact absurd hm (was_none e x hx)
  | some y =>
    obtain ⟨h1, h2⟩ := was_some e
    rw [zCP v f h1 hx h2 hm]
theorem was_not {p : zNU} {c : Change} {h : House} (hn : ∀ x, x ∈ q6 p → h ∉ mv p c x) : zDi p c h = none := by
  cases e : zDi p c h with
  | none => rfl
  | some y =>
    obtain ⟨h1, h2⟩ := was_some e
    exact absurd h2 (hn y h1)
theorem was_case {p : zNU} {c : Change} {h : House} :
    (p7 p c ≠ 0 ∧ zJv p c h = p7 p c ∧ zOv p c h = zDp) ∨ (p7 p c = 0 ∧ zDi p c h = none ∧ zJv p c h = 3 ∧ zOv p c h = zDp) ∨ (p7 p c = 0 ∧ zJv p c h = 0 ∧ zDi p c h = some (zOv p c h)) := by
  unfold zOv zJv
  by_cases e : p7 p c = 0
  · cases w : zDi p c h with
    | none => right; left; simp [e]
    | some x => right; right; simp [e]
  · left; simp [e]
end Go.Abs

namespace Go.Abs
open Go Go.Proofs Tryz
attribute [local irreducible] q8 Hold y4
set_option maxRecDepth 10000
set_option maxHeartbeats 4000000

theorem sp_asked_err (s : Story) (hst : s.steps.length ≤ 4294967296) (hwl : ∀ w, w ∈ s.steps → w.length ≤ 4294967296) (hfl : s.facts.length ≤ 4294967296) (hpl : s.first.length ≤ 4294967296) (h : j5 s ≠ 0) :
    zNV prog 60 [s.enc] [] (.tup [zOr, .list [], iV (j5 s)]) [] := by
  have sb := zIx s hst hwl hfl hpl (.tup [zOr, iV (j5 s)]) [] (j5 s) rfl ⟨fun e => absurd e h, fun _ => ⟨rfl, rfl⟩⟩
  have hne : (j5 s != 0) = true := by simpa using h
  refine z9 func60 rfl (fun E hE => ?_); simp only [go_sem, ntmps60]
  repeat' (first | (refine Qr rfl ?_; try intro _ hK; try simp only [go_sem, *]) | refine Qh rfl ?_ | refine Qd rfl (by kernel_rfl) ?_ | (refine Qc rfl rfl ?_ ?_ <;> (intro hb; have hc := hb; try simp only [go_sem] at hc)) | refine z6 rfl ?_ | (refine Qb ?_ ?_; focus kernel_rfl) | (refine z8 (sb) ?_; simp only [go_sem, *]) | ((with_reducible apply And.intro); focus omega) | (refine z5 hK ?_; clear hK; simp only [go_sem, *]) | simp only [z3, z4, go_sem, *])
  all_goals try contradiction
  (refine ⟨[_, _, _], [], [], ⟨rfl, rfl, rfl, trivial⟩, ?_⟩; simp only [go_sem, *])

end Go.Abs

namespace Go.Abs
open Go

theorem flatMap_lenK {α β : Type} (f : α → List β) (k : Nat) : ∀ (l : List α), (∀ x, x ∈ l → (f x).length ≤ k) → (l.flatMap f).length ≤ l.length * k
 | [], _ => Nat.zero_le _
 | x :: r, h => by
  have h1 := h x (by simp)
  have h2 := flatMap_lenK f k r (fun y hy => h y (by simp [hy]))
  rw [List.flatMap_cons, List.length_append, List.length_cons, Nat.add_mul]
  omega
def whereR (s : Story) (h : House) : List House := if N3 s h = 0 then zA0 s h else []
def whenceL (s : Story) (h : House) : List House := (s0 s).flatMap fun t => (q6 s.first).filter fun x => decide (h ∈ t.now x)
def whenceErr (s : Story) (h : House) : Int := if j5 s = 0 then if s0 s = [] then 11 else if whenceL s h = [] then 3 else 0 else j5 s
def whenceR (s : Story) (h : House) : List House := if j5 s = 0 then if s0 s = [] then [] else p5 (whenceL s h) else []
def verdN (s : Story) (h to : House) : Nat := (s0 s).countP fun t => decide (to ∈ t.now h)
def verdOf (n all : Nat) : Int := if n = 0 then 2 else if n = all then 1 else 3
def verdR (s : Story) (h to : House) : Int := if N3 s h = 0 then verdOf (verdN s h to) (s0 s).length else 0
theorem where_zero {s : Story} {h : House} (he : N3 s h = 0) : j5 s = 0 ∧ h ∈ q6 s.first ∧ s0 s ≠ [] := by
 unfold N3 at he
 by_cases h1 : j5 s = 0
 ·rw [if_pos h1] at he
  by_cases h2 : h ∈ q6 s.first
  ·rw [if_pos h2] at he
   refine ⟨h1, h2, fun e => ?_⟩
   rw [if_pos e] at he; omega
  ·rw [if_neg h2] at he; omega
 ·rw [if_neg h1] at he; exact absurd he h1
theorem sortH_nil : p5 [] = [] := rfl
end Go.Abs

namespace Go.Abs
open Go Go.Proofs Tryz
attribute [local irreducible] q8 Hold y4
set_option maxRecDepth 10000
set_option maxHeartbeats 4000000

theorem whereL_len {s : Story} (h : House) (o : Told s) (hh : h ∈ q6 s.first) : (S4 s h).length ≤ 216 := by
 have h1 := flatMap_lenK (fun t : Truth => t.now h) 8 (s0 s) (fun t ht => ((zDc o.first) t ht).small o.steps hh)
 have h2 := J6 o.steps (fun w hw => (o.ways w hw).2.1)
 unfold S4
 omega
theorem whenceL_len {s : Story} (h : House) (o : Told s) : (whenceL s h).length ≤ 648 := by
 have h1 := flatMap_lenK (fun t : Truth => (q6 s.first).filter fun x => decide (h ∈ t.now x)) 24 (s0 s) (fun t ht => by
  have := List.length_filter_le (fun x => decide (h ∈ t.now x)) (q6 s.first)
  have := o.first.count
  omega)
 have h2 := J6 o.steps (fun w hw => (o.ways w hw).2.1)
 unfold whenceL
 omega

theorem sp_WhereS (s : Story) (h : House) (hst : s.steps.length ≤ 4294967296) (hwl : ∀ w, w ∈ s.steps → w.length ≤ 4294967296) (hfl : s.facts.length ≤ 4294967296) (hpl : s.first.length ≤ 4294967296) (ss : zNV prog 58 [.list ((S4 s h).map House.enc)] [] (.list ((p5 (S4 s h)).map House.enc)) []) :
  zNV prog 35 [s.enc, h.enc] [] (.tup [.list ((whereR s h).map House.enc), iV (N3 s h)]) [] := by
 unfold whereR
 by_cases he : N3 s h = 0
 ·obtain ⟨hs, hh, hne⟩ := where_zero he
  have o := E8 hs
  have hl := J6 o.steps (fun w hw => (o.ways w hw).2.1)
  have ht := zDc o.first
  have sa := zAt s hs
  have sc := zAn (q6 s.first) h (by have := o.first.count; omega)
  have e0 : decide (h ∈ q6 s.first) = true := by simpa using hh
  rw [e0] at sc
  have hWl := whereL_len h o hh
  have hw := o.first.wf
  have hwf := hw _ hh
  have h3 := o.steps
  have hsm : ∀ t, t ∈ s0 s → (t.now h).length ≤ 8 := fun t hm => (ht t hm).small h3 hh
  rw [if_pos he, he]
  unfold zA0
  have hwl : ([] : List House) ++ ((s0 s).drop 0).flatMap (fun t => t.now h) = S4 s h := rfl
  generalize S4 s h = W at *
  generalize s0 s = l at *
  have hl0 : ((l.length : Int) == 0) = false := by
   have : 0 < l.length := List.length_pos_iff.2 hne
   simp; omega
  clear he e0 ht hne hst hfl hpl
  refine z9 func35 rfl (fun E hE => ?_); simp only [go_sem, ntmps35]
  repeat' (first | (refine Qr rfl ?_; try intro _ hK; try simp only [go_sem, *]) | refine Qh rfl ?_ | refine Qd rfl (by kernel_rfl) ?_ | (refine Qc rfl rfl ?_ ?_ <;> (intro hb; have hc := hb; try simp only [go_sem] at hc)) | refine z6 rfl ?_ | (refine Qb ?_ ?_; focus kernel_rfl) | (refine u3 (sa) ?_; simp only [go_sem, *]) | (refine z8 (sc) ?_; simp only [go_sem, *]) | ((with_reducible apply And.intro); focus omega) | (refine z5 hK ?_; clear hK; simp only [go_sem, *]) | simp only [z3, z4, go_sem, *])
  all_goals try contradiction
  clear sa sc hl0
  refine v9 rfl (l.length) (fun i (acc : List House) => acc ++ (l.drop i).flatMap (fun t => t.now h) = W) 46 (fun i acc => [(33, iV i), (32, iV l.length), (31, .list (l.map (Truth.enc s.first))), (9, .own 1 3 0 acc.length), (3, .ptr 0 0)]) (fun i acc => [.box [iV h.street, iV h.plate.number, iV h.plate.letter], .row 3 (acc.map House.enc)]) [some 1, none] [] ([]) (by exact hwl) ?_; intro i acc hi hP
  clear hwl
  have hql := congrArg List.length hP
  simp only [List.length_append] at hql
  by_cases hi2 : i < l.length
  ·have hti := hsm _ (w5 hi2)
   rw [v3 hi2, List.flatMap_cons] at hP
   repeat' (first | (refine Qr rfl ?_; try intro _ hK; try simp only [go_sem, *]) | refine Qh rfl ?_ | refine Qd rfl (by kernel_rfl) ?_ | (refine Qc rfl rfl ?_ ?_ <;> (intro hb; have hc := hb; try simp only [go_sem] at hc)) | refine z6 rfl ?_ | (refine Qb ?_ ?_; focus kernel_rfl) | ((with_reducible apply And.intro); focus omega) | (refine z5 hK ?_; clear hK; simp only [go_sem, *]) | simp only [z3, z4, go_sem, *])
   refine W5 (h := h) (hs := q6 s.first) (F := zNY (l.getD i default).now) hw hwf ?_
   rw [if_pos hh, zNY]
   repeat' (first | (refine Qr rfl ?_; try intro _ hK; try simp only [go_sem, *]) | refine Qh rfl ?_ | refine Qd rfl (by kernel_rfl) ?_ | (refine Qc rfl rfl ?_ ?_ <;> (intro hb; have hc := hb; try simp only [go_sem] at hc)) | refine z6 rfl ?_ | (refine Qb ?_ ?_; focus kernel_rfl) | ((with_reducible apply And.intro); focus omega) | (refine z5 hK ?_; clear hK; simp only [go_sem, *]) | simp only [z3, z4, go_sem, *])
   refine ⟨fun y hy => ?_, fun y hy => ?_, by omega, ?_⟩
   ·obtain ⟨z, _, rfl⟩ := List.mem_map.1 hy
    simp [go_sem]
   ·obtain ⟨z, _, rfl⟩ := List.mem_map.1 hy
    simp [go_sem]
   ·repeat' (first | (refine Qr rfl ?_; try intro _ hK; try simp only [go_sem, *]) | refine Qh rfl ?_ | refine Qd rfl (by kernel_rfl) ?_ | (refine Qc rfl rfl ?_ ?_ <;> (intro hb; have hc := hb; try simp only [go_sem] at hc)) | refine z6 rfl ?_ | (refine Qb ?_ ?_; focus kernel_rfl) | ((with_reducible apply And.intro); focus omega) | (refine z5 hK ?_; clear hK; simp only [go_sem, *]) | simp only [z3, z4, go_sem, *])
    exact x9 (i' := i + 1) [some 0, some 3] [] (acc ++ (l.getD i default).now h) (by rw [← hP]; simp)
  ·rw [u0 (by omega), List.flatMap_nil, List.append_nil] at hP
   subst hP
   clear hql
   repeat' (first | (refine Qr rfl ?_; try intro _ hK; try simp only [go_sem, *]) | refine Qh rfl ?_ | refine Qd rfl (by kernel_rfl) ?_ | (refine Qc rfl rfl ?_ ?_ <;> (intro hb; have hc := hb; try simp only [go_sem] at hc)) | refine z6 rfl ?_ | (refine Qb ?_ ?_; focus kernel_rfl) | ((with_reducible apply And.intro); focus omega) | (refine z5 hK ?_; clear hK; simp only [go_sem, *]) | simp only [z3, z4, go_sem, *])
   (refine o3 (ss) (by simp only [go_sem, *]; done) rfl (by simp only [go_sem]; done) (by simp) (by simp) ?_; simp only [go_sem, w6, *])
   repeat' (first | (refine Qr rfl ?_; try intro _ hK; try simp only [go_sem, *]) | refine Qh rfl ?_ | refine Qd rfl (by kernel_rfl) ?_ | (refine Qc rfl rfl ?_ ?_ <;> (intro hb; have hc := hb; try simp only [go_sem] at hc)) | refine z6 rfl ?_ | (refine Qb ?_ ?_; focus kernel_rfl) | ((with_reducible apply And.intro); focus omega) | (refine z5 hK ?_; clear hK; simp only [go_sem, *]) | simp only [z3, z4, go_sem, *])
   (refine ⟨[_, _], [], [], ⟨rfl, rfl, trivial⟩, ?_⟩; simp only [go_sem, *])
 ·rw [if_neg he]
  by_cases hs : j5 s = 0
  ·have o := E8 hs
   have sa := zAt s hs
   have sc := zAn (q6 s.first) h (by have := o.first.count; omega)
   unfold N3 at he ⊢
   rw [if_pos hs] at he ⊢
   by_cases hh : h ∈ q6 s.first
   ·rw [if_pos hh] at he ⊢
    by_cases ht : s0 s = []
    ·rw [if_pos ht]
     rw [ht] at sa
     rw [decide_eq_true hh] at sc
     clear he hh ht hst hwl hfl hpl
     refine z9 func35 rfl (fun E hE => ?_); simp only [go_sem, ntmps35]
     repeat' (first | (refine Qr rfl ?_; try intro _ hK; try simp only [go_sem, *]) | refine Qh rfl ?_ | refine Qd rfl (by kernel_rfl) ?_ | (refine Qc rfl rfl ?_ ?_ <;> (intro hb; have hc := hb; try simp only [go_sem] at hc)) | refine z6 rfl ?_ | (refine Qb ?_ ?_; focus kernel_rfl) | (refine u3 (sa) ?_; simp only [go_sem, *]) | (refine z8 (sc) ?_; simp only [go_sem, *]) | ((with_reducible apply And.intro); focus omega) | (refine z5 hK ?_; clear hK; simp only [go_sem, *]) | simp only [z3, z4, go_sem, *])
     all_goals try contradiction
     (refine ⟨[_, _], [], [], ⟨rfl, rfl, trivial⟩, ?_⟩; simp only [go_sem, *])
    ·rw [if_neg ht] at he; exact absurd rfl he
   ·rw [if_neg hh]
    rw [decide_eq_false hh] at sc
    clear he hh hst hwl hfl hpl
    refine z9 func35 rfl (fun E hE => ?_); simp only [go_sem, ntmps35]
    repeat' (first | (refine Qr rfl ?_; try intro _ hK; try simp only [go_sem, *]) | refine Qh rfl ?_ | refine Qd rfl (by kernel_rfl) ?_ | (refine Qc rfl rfl ?_ ?_ <;> (intro hb; have hc := hb; try simp only [go_sem] at hc)) | refine z6 rfl ?_ | (refine Qb ?_ ?_; focus kernel_rfl) | (refine u3 (sa) ?_; simp only [go_sem, *]) | (refine z8 (sc) ?_; simp only [go_sem, *]) | ((with_reducible apply And.intro); focus omega) | (refine z5 hK ?_; clear hK; simp only [go_sem, *]) | simp only [z3, z4, go_sem, *])
    all_goals try contradiction
    (refine ⟨[_, _], [], [], ⟨rfl, rfl, trivial⟩, ?_⟩; simp only [go_sem, *])
  ·have sa := sp_asked_err s hst hwl hfl hpl hs
   unfold N3
   rw [if_neg hs]
   have e2 : (j5 s != 0) = true := by simpa using hs
   clear hs he hst hwl hfl hpl
   generalize j5 s = k at *
   refine z9 func35 rfl (fun E hE => ?_); simp only [go_sem, ntmps35]
   repeat' (first | (refine Qr rfl ?_; try intro _ hK; try simp only [go_sem, *]) | refine Qh rfl ?_ | refine Qd rfl (by kernel_rfl) ?_ | (refine Qc rfl rfl ?_ ?_ <;> (intro hb; have hc := hb; try simp only [go_sem] at hc)) | refine z6 rfl ?_ | (refine Qb ?_ ?_; focus kernel_rfl) | (refine z8 (sa) ?_; simp only [go_sem, *]) | ((with_reducible apply And.intro); focus omega) | (refine z5 hK ?_; clear hK; simp only [go_sem, *]) | simp only [z3, z4, go_sem, *])
   all_goals try contradiction
   (refine ⟨[_, _], [], [], ⟨rfl, rfl, trivial⟩, ?_⟩; simp only [go_sem, *])

theorem sp_Verdict (s : Story) (h to : House) (hst : s.steps.length ≤ 4294967296) (hwl : ∀ w, w ∈ s.steps → w.length ≤ 4294967296) (hfl : s.facts.length ≤ 4294967296) (hpl : s.first.length ≤ 4294967296) :
  zNV prog 37 [s.enc, h.enc, to.enc] [] (.tup [iV (verdR s h to), iV (N3 s h)]) [] := by
 unfold verdR
 by_cases he : N3 s h = 0
 ·obtain ⟨hs, hh, hne⟩ := where_zero he
  have o := E8 hs
  have hl := J6 o.steps (fun w hw => (o.ways w hw).2.1)
  have sa := zAt s hs
  have sc := zAn (q6 s.first) h (by have := o.first.count; omega)
  rw [decide_eq_true hh] at sc
  have hw := o.first.wf
  have hwf := hw _ hh
  have h3 := o.steps
  have sC := fun (t : Truth) (ht : t ∈ s0 s) => zAn (t.now h) to (by have := ((zDc o.first) t ht).small h3 hh; omega)
  rw [if_pos he, he]
  have h0 : 0 + ((s0 s).drop 0).countP (fun t => decide (to ∈ t.now h)) = verdN s h to := by rw [Nat.zero_add]; rfl
  have hvl : verdN s h to ≤ (s0 s).length := List.countP_le_length
  generalize verdN s h to = V at *
  generalize s0 s = l at *
  have hlp : 0 < l.length := List.length_pos_iff.2 hne
  have hl0 : ((l.length : Int) == 0) = false := by simp; omega
  clear he hne hst hwl hfl hpl
  refine z9 func37 rfl (fun E hE => ?_); simp only [go_sem, ntmps37]
  repeat' (first | (refine Qr rfl ?_; try intro _ hK; try simp only [go_sem, *]) | refine Qh rfl ?_ | refine Qd rfl (by kernel_rfl) ?_ | (refine Qc rfl rfl ?_ ?_ <;> (intro hb; have hc := hb; try simp only [go_sem] at hc)) | refine z6 rfl ?_ | (refine Qb ?_ ?_; focus kernel_rfl) | (refine u3 (sa) ?_; simp only [go_sem, *]) | (refine z8 (sc) ?_; simp only [go_sem, *]) | ((with_reducible apply And.intro); focus omega) | (refine z5 hK ?_; clear hK; simp only [go_sem, *]) | simp only [z3, z4, go_sem, *])
  all_goals try contradiction
  clear sa sc hl0
  refine v9 rfl (l.length) (fun i (n : Nat) => n + (l.drop i).countP (fun t => decide (to ∈ t.now h)) = V) 55 (fun i n => [(35, iV i), (34, iV l.length), (33, .list (l.map (Truth.enc s.first))), (11, iV n), (9, .list (l.map (Truth.enc s.first))), (5, .ptr 1 0), (4, .ptr 0 0)]) (fun i n => [.box [iV h.street, iV h.plate.number, iV h.plate.letter], .box [iV to.street, iV to.plate.number, iV to.plate.letter]]) [some 1, some 2] [] (0) (by exact h0) ?_; intro i n hi hP
  clear h0
  by_cases hi : i < l.length
  ·have hi3 : (i : Int) < l.length := by omega
   rw [zEp hi] at hP
   have sC1 := sC _ (w5 hi)
   clear sC
   repeat' (first | (refine Qr rfl ?_; try intro _ hK; try simp only [go_sem, *]) | refine Qh rfl ?_ | refine Qd rfl (by kernel_rfl) ?_ | (refine Qc rfl rfl ?_ ?_ <;> (intro hb; have hc := hb; try simp only [go_sem] at hc)) | refine z6 rfl ?_ | (refine Qb ?_ ?_; focus kernel_rfl) | ((with_reducible apply And.intro); focus omega) | (refine z5 hK ?_; clear hK; simp only [go_sem, *]) | simp only [z3, z4, go_sem, *])
   refine W5 (h := h) (hs := q6 s.first) (F := zNY (l.getD i default).now) hw hwf ?_
   rw [if_pos hh, zNY]
   cases hd : decide (to ∈ (l.getD i default).now h) with
   | true =>
    rw [hd] at sC1 hP
    clear hd
    repeat' (first | (refine Qr rfl ?_; try intro _ hK; try simp only [go_sem, *]) | refine Qh rfl ?_ | refine Qd rfl (by kernel_rfl) ?_ | (refine Qc rfl rfl ?_ ?_ <;> (intro hb; have hc := hb; try simp only [go_sem] at hc)) | refine z6 rfl ?_ | (refine Qb ?_ ?_; focus kernel_rfl) | (refine z8 (sC1) ?_; simp only [go_sem, *]) | ((with_reducible apply And.intro); focus omega) | (refine z5 hK ?_; clear hK; simp only [go_sem, *]) | simp only [z3, z4, go_sem, *])
    all_goals try contradiction
    exact x9 (i' := i + 1) [some 0, some 1] [] (n + 1) (by rw [← hP]; simp; omega)
   | false =>
    rw [hd] at sC1 hP
    clear hd
    repeat' (first | (refine Qr rfl ?_; try intro _ hK; try simp only [go_sem, *]) | refine Qh rfl ?_ | refine Qd rfl (by kernel_rfl) ?_ | (refine Qc rfl rfl ?_ ?_ <;> (intro hb; have hc := hb; try simp only [go_sem] at hc)) | refine z6 rfl ?_ | (refine Qb ?_ ?_; focus kernel_rfl) | (refine z8 (sC1) ?_; simp only [go_sem, *]) | ((with_reducible apply And.intro); focus omega) | (refine z5 hK ?_; clear hK; simp only [go_sem, *]) | simp only [z3, z4, go_sem, *])
    all_goals try contradiction
    exact x9 (i' := i + 1) [some 0, some 1] [] (n) (by rw [← hP]; simp)
  ·have hi3 : ¬ (i : Int) < l.length := by omega
   rw [u0 (by omega)] at hP
   have hn : n = V := by simpa using hP
   subst hn
   clear sC hP
   unfold verdOf
   by_cases c : n = 0
   ·have c1 : ((n : Int) == 0) = true := by simpa using c
    rw [if_pos c]
    clear c
    repeat' (first | (refine Qr rfl ?_; try intro _ hK; try simp only [go_sem, *]) | refine Qh rfl ?_ | refine Qd rfl (by kernel_rfl) ?_ | (refine Qc rfl rfl ?_ ?_ <;> (intro hb; have hc := hb; try simp only [go_sem] at hc)) | refine z6 rfl ?_ | (refine Qb ?_ ?_; focus kernel_rfl) | ((with_reducible apply And.intro); focus omega) | (refine z5 hK ?_; clear hK; simp only [go_sem, *]) | simp only [z3, z4, go_sem, *])
    all_goals try contradiction
    (refine ⟨[_, _], [], [], ⟨rfl, rfl, trivial⟩, ?_⟩; simp only [go_sem, *])
   ·have c1 : ((n : Int) == 0) = false := by rw [beq_eq_false_iff_ne]; omega
    rw [if_neg c]
    by_cases d : n = l.length
    ·have d1 : ((n : Int) == (l.length : Int)) = true := by rw [beq_iff_eq]; omega
     rw [if_pos d]
     clear c d
     repeat' (first | (refine Qr rfl ?_; try intro _ hK; try simp only [go_sem, *]) | refine Qh rfl ?_ | refine Qd rfl (by kernel_rfl) ?_ | (refine Qc rfl rfl ?_ ?_ <;> (intro hb; have hc := hb; try simp only [go_sem] at hc)) | refine z6 rfl ?_ | (refine Qb ?_ ?_; focus kernel_rfl) | ((with_reducible apply And.intro); focus omega) | (refine z5 hK ?_; clear hK; simp only [go_sem, *]) | simp only [z3, z4, go_sem, *])
     all_goals try contradiction
     (refine ⟨[_, _], [], [], ⟨rfl, rfl, trivial⟩, ?_⟩; simp only [go_sem, *])
    ·have d1 : ((n : Int) == (l.length : Int)) = false := by rw [beq_eq_false_iff_ne]; omega
     rw [if_neg d]
     clear c d
     repeat' (first | (refine Qr rfl ?_; try intro _ hK; try simp only [go_sem, *]) | refine Qh rfl ?_ | refine Qd rfl (by kernel_rfl) ?_ | (refine Qc rfl rfl ?_ ?_ <;> (intro hb; have hc := hb; try simp only [go_sem] at hc)) | refine z6 rfl ?_ | (refine Qb ?_ ?_; focus kernel_rfl) | ((with_reducible apply And.intro); focus omega) | (refine z5 hK ?_; clear hK; simp only [go_sem, *]) | simp only [z3, z4, go_sem, *])
     all_goals try contradiction
     (refine ⟨[_, _], [], [], ⟨rfl, rfl, trivial⟩, ?_⟩; simp only [go_sem, *])
 ·rw [if_neg he]
  by_cases hs : j5 s = 0
  ·have o := E8 hs
   have sa := zAt s hs
   have sc := zAn (q6 s.first) h (by have := o.first.count; omega)
   unfold N3 at he ⊢
   rw [if_pos hs] at he ⊢
   by_cases hh : h ∈ q6 s.first
   ·rw [if_pos hh] at he ⊢
    by_cases ht : s0 s = []
    ·rw [if_pos ht]
     rw [ht] at sa
     rw [decide_eq_true hh] at sc
     clear he hh ht hst hwl hfl hpl
     refine z9 func37 rfl (fun E hE => ?_); simp only [go_sem, ntmps37]
     repeat' (first | (refine Qr rfl ?_; try intro _ hK; try simp only [go_sem, *]) | refine Qh rfl ?_ | refine Qd rfl (by kernel_rfl) ?_ | (refine Qc rfl rfl ?_ ?_ <;> (intro hb; have hc := hb; try simp only [go_sem] at hc)) | refine z6 rfl ?_ | (refine Qb ?_ ?_; focus kernel_rfl) | (refine u3 (sa) ?_; simp only [go_sem, *]) | (refine z8 (sc) ?_; simp only [go_sem, *]) | ((with_reducible apply And.intro); focus omega) | (refine z5 hK ?_; clear hK; simp only [go_sem, *]) | simp only [z3, z4, go_sem, *])
     all_goals try contradiction
     (refine ⟨[_, _], [], [], ⟨rfl, rfl, trivial⟩, ?_⟩; simp only [go_sem, *])
    ·rw [if_neg ht] at he; exact absurd rfl he
   ·rw [if_neg hh]
    rw [decide_eq_false hh] at sc
    clear he hh hst hwl hfl hpl
    refine z9 func37 rfl (fun E hE => ?_); simp only [go_sem, ntmps37]
    repeat' (first | (refine Qr rfl ?_; try intro _ hK; try simp only [go_sem, *]) | refine Qh rfl ?_ | refine Qd rfl (by kernel_rfl) ?_ | (refine Qc rfl rfl ?_ ?_ <;> (intro hb; have hc := hb; try simp only [go_sem] at hc)) | refine z6 rfl ?_ | (refine Qb ?_ ?_; focus kernel_rfl) | (refine u3 (sa) ?_; simp only [go_sem, *]) | (refine z8 (sc) ?_; simp only [go_sem, *]) | ((with_reducible apply And.intro); focus omega) | (refine z5 hK ?_; clear hK; simp only [go_sem, *]) | simp only [z3, z4, go_sem, *])
    all_goals try contradiction
    (refine ⟨[_, _], [], [], ⟨rfl, rfl, trivial⟩, ?_⟩; simp only [go_sem, *])
  ·have sa := sp_asked_err s hst hwl hfl hpl hs
   unfold N3
   rw [if_neg hs]
   have e2 : (j5 s != 0) = true := by simpa using hs
   clear hs he hst hwl hfl hpl
   generalize j5 s = k at *
   refine z9 func37 rfl (fun E hE => ?_); simp only [go_sem, ntmps37]
   repeat' (first | (refine Qr rfl ?_; try intro _ hK; try simp only [go_sem, *]) | refine Qh rfl ?_ | refine Qd rfl (by kernel_rfl) ?_ | (refine Qc rfl rfl ?_ ?_ <;> (intro hb; have hc := hb; try simp only [go_sem] at hc)) | refine z6 rfl ?_ | (refine Qb ?_ ?_; focus kernel_rfl) | (refine z8 (sa) ?_; simp only [go_sem, *]) | ((with_reducible apply And.intro); focus omega) | (refine z5 hK ?_; clear hK; simp only [go_sem, *]) | simp only [z3, z4, go_sem, *])
   all_goals try contradiction
   (refine ⟨[_, _], [], [], ⟨rfl, rfl, trivial⟩, ?_⟩; simp only [go_sem, *])

theorem sp_WhenceS (s : Story) (h : House) (hst : s.steps.length ≤ 4294967296) (hwl : ∀ w, w ∈ s.steps → w.length ≤ 4294967296) (hfl : s.facts.length ≤ 4294967296) (hpl : s.first.length ≤ 4294967296) (ss : zNV prog 58 [.list ((whenceL s h).map House.enc)] [] (.list ((p5 (whenceL s h)).map House.enc)) []) :
  zNV prog 36 [s.enc, h.enc] [] (.tup [.list ((whenceR s h).map House.enc), iV (whenceErr s h)]) [] := by
 unfold whenceR whenceErr
 by_cases hs : j5 s = 0
 ·have o := E8 hs
  have v := o.first
  have hct := v.count
  have sa := zAt s hs
  rw [if_pos hs, if_pos hs]
  by_cases hne : s0 s = []
  ·rw [if_pos hne, if_pos hne]
   rw [hne] at sa
   clear hst hwl hfl hpl
   refine z9 func36 rfl (fun E hE => ?_); simp only [go_sem, ntmps36]
   repeat' (first | (refine Qr rfl ?_; try intro _ hK; try simp only [go_sem, *]) | refine Qh rfl ?_ | refine Qd rfl (by kernel_rfl) ?_ | (refine Qc rfl rfl ?_ ?_ <;> (intro hb; have hc := hb; try simp only [go_sem] at hc)) | refine z6 rfl ?_ | (refine Qb ?_ ?_; focus kernel_rfl) | (refine u3 (sa) ?_; simp only [go_sem, *]) | ((with_reducible apply And.intro); focus omega) | (refine z5 hK ?_; clear hK; simp only [go_sem, *]) | simp only [z3, z4, go_sem, *])
   all_goals try contradiction
   (refine ⟨[_, _], [], [], ⟨rfl, rfl, trivial⟩, ?_⟩; simp only [go_sem, *])
  rw [if_neg hne, if_neg hne]
  have hl := J6 o.steps (fun w hw => (o.ways w hw).2.1)
  have hw := v.wf
  have h3 := o.steps
  have sC := fun (t : Truth) (ht : t ∈ s0 s) x (hx : x ∈ q6 s.first) => zAn (t.now x) h (by have := ((zDc v) t ht).small h3 hx; omega)
  have hWl := whenceL_len h o
  have h0 : ([] : List House) ++ ((s0 s).drop 0).flatMap (fun t => (q6 s.first).filter fun x => decide (h ∈ t.now x)) = whenceL s h := rfl
  generalize whenceL s h = W at *
  generalize s0 s = l at *
  have hlp : 0 < l.length := List.length_pos_iff.2 hne
  have hl0 : ((l.length : Int) == 0) = false := by simp; omega
  clear hne hst hwl hfl hpl
  refine z9 func36 rfl (fun E hE => ?_); simp only [go_sem, ntmps36]
  repeat' (first | (refine Qr rfl ?_; try intro _ hK; try simp only [go_sem, *]) | refine Qh rfl ?_ | refine Qd rfl (by kernel_rfl) ?_ | (refine Qc rfl rfl ?_ ?_ <;> (intro hb; have hc := hb; try simp only [go_sem] at hc)) | refine z6 rfl ?_ | (refine Qb ?_ ?_; focus kernel_rfl) | (refine u3 (sa) ?_; simp only [go_sem, *]) | ((with_reducible apply And.intro); focus omega) | (refine z5 hK ?_; clear hK; simp only [go_sem, *]) | simp only [z3, z4, go_sem, *])
  all_goals try contradiction
  clear sa hl0
  refine v9 rfl (l.length) (fun i (acc : List House) => acc ++ (l.drop i).flatMap (fun t => (q6 s.first).filter fun x => decide (h ∈ t.now x)) = W) 58 (fun i acc => [(28, iV i), (27, iV l.length), (26, .list (l.map (Truth.enc s.first))), (9, .own 1 3 0 acc.length), (6, .ptr 2 0), (3, .ptr 0 0)]) (fun i acc => [.box [iV h.street, iV h.plate.number, iV h.plate.letter], .row 3 (acc.map House.enc), o5 s]) [some 1, none, some 2] [] ([]) (by exact h0) ?_; intro i acc hi hP
  clear h0
  by_cases hi : i < l.length
  ·have hi3 : (i : Int) < l.length := by omega
   have sC1 := sC _ (w5 hi)
   rw [v3 hi, List.flatMap_cons] at hP
   have h0 : acc ++ (((q6 s.first).drop 0).filter (fun x => decide (h ∈ (l.getD i default).now x)) ++ (l.drop (i + 1)).flatMap (fun t => (q6 s.first).filter fun x => decide (h ∈ t.now x))) = W := hP
   clear sC hP
   generalize hT : (l.drop (i + 1)).flatMap (fun t => (q6 s.first).filter fun x => decide (h ∈ t.now x)) = T at *
   have hql := congrArg List.length h0
   simp only [List.length_append] at hql
   have hal : acc.length ≤ 648 := by omega
   clear hql
   repeat' (first | (refine Qr rfl ?_; try intro _ hK; try simp only [go_sem, *]) | refine Qh rfl ?_ | refine Qd rfl (by kernel_rfl) ?_ | (refine Qc rfl rfl ?_ ?_ <;> (intro hb; have hc := hb; try simp only [go_sem] at hc)) | refine z6 rfl ?_ | (refine Qb ?_ ?_; focus kernel_rfl) | ((with_reducible apply And.intro); focus omega) | (refine z5 hK ?_; clear hK; simp only [go_sem, *]) | simp only [z3, z4, go_sem, *])
   all_goals try contradiction
   refine v9 rfl ((q6 s.first).length) (fun k (ac : List House) => ac ++ (((q6 s.first).drop k).filter (fun x => decide (h ∈ (l.getD i default).now x)) ++ T) = W) 58 (fun k ac => [(37, iV k), (36, iV (q6 s.first).length), (35, .list ((q6 s.first).map House.enc)), (11, .ptr 3 0), (28, iV i), (27, iV l.length), (26, .list (l.map (Truth.enc s.first))), (9, .own 1 3 0 ac.length), (6, .ptr 2 0), (3, .ptr 0 0)]) (fun k ac => [.box [iV h.street, iV h.plate.number, iV h.plate.letter], .row 3 (ac.map House.enc), o5 s, .box [.list ((l.getD i default).ways.map iV), .list ((l.getD i default).fin.map q9), .fmap (y7 s.first) (y6 s.first (l.getD i default).now)]]) [some 0, some 1, some 2, some 3] [] (acc) (by exact h0) ?_; intro k ac hk hQ
   clear h0 hal
   have hql := congrArg List.length hQ
   simp only [List.length_append] at hql
   have hal : ac.length ≤ 648 := by omega
   clear hql
   by_cases hk : k < (q6 s.first).length
   ·have hk3 : (k : Int) < (q6 s.first).length := by omega
    have hm := w5 hk
    have hwf := hw _ hm
    have sC2 := sC1 _ hm
    rw [v3 hk] at hQ
    clear sC1
    have hwf0 := hw
    clear hw
    repeat' (first | (refine Qr rfl ?_; try intro _ hK; try simp only [go_sem, *]) | refine Qh rfl ?_ | refine Qd rfl (by kernel_rfl) ?_ | (refine Qc rfl rfl ?_ ?_ <;> (intro hb; have hc := hb; try simp only [go_sem] at hc)) | refine z6 rfl ?_ | (refine Qb ?_ ?_; focus kernel_rfl) | ((with_reducible apply And.intro); focus omega) | (refine z5 hK ?_; clear hK; simp only [go_sem, *]) | simp only [z3, z4, go_sem, *])
    refine W5 (h := (q6 s.first).getD k default) (hs := q6 s.first) (F := zNY (l.getD i default).now) hwf0 hwf ?_
    rw [if_pos hm, zNY]
    cases hd : decide (h ∈ (l.getD i default).now ((q6 s.first).getD k default)) with
    | true =>
     rw [hd] at sC2
     rw [List.filter_cons_of_pos (by exact hd)] at hQ
     clear hd
     repeat' (first | (refine Qr rfl ?_; try intro _ hK; try simp only [go_sem, *]) | refine Qh rfl ?_ | refine Qd rfl (by kernel_rfl) ?_ | (refine Qc rfl rfl ?_ ?_ <;> (intro hb; have hc := hb; try simp only [go_sem] at hc)) | refine z6 rfl ?_ | (refine Qb ?_ ?_; focus kernel_rfl) | (refine z8 (sC2) ?_; simp only [go_sem, *]) | ((with_reducible apply And.intro); focus omega) | (refine z5 hK ?_; clear hK; simp only [go_sem, *]) | simp only [z3, z4, go_sem, *])
     all_goals try contradiction
     exact x9 (i' := k + 1) [some 0, some 6, some 2, some 3] [] (ac ++ [(q6 s.first).getD k default]) (by rw [← hQ]; simp)
    | false =>
     rw [hd] at sC2
     rw [List.filter_cons_of_neg (by rw [hd]; simp)] at hQ
     clear hd
     repeat' (first | (refine Qr rfl ?_; try intro _ hK; try simp only [go_sem, *]) | refine Qh rfl ?_ | refine Qd rfl (by kernel_rfl) ?_ | (refine Qc rfl rfl ?_ ?_ <;> (intro hb; have hc := hb; try simp only [go_sem] at hc)) | refine z6 rfl ?_ | (refine Qb ?_ ?_; focus kernel_rfl) | (refine z8 (sC2) ?_; simp only [go_sem, *]) | ((with_reducible apply And.intro); focus omega) | (refine z5 hK ?_; clear hK; simp only [go_sem, *]) | simp only [z3, z4, go_sem, *])
     all_goals try contradiction
     exact x9 (i' := k + 1) [some 0, some 1, some 2, some 3] [] (ac) (by exact hQ)
   ·have hk3 : ¬ (k : Int) < (q6 s.first).length := by omega
    rw [u0 (by omega), List.filter_nil, List.nil_append] at hQ
    clear sC1
    repeat' (first | (refine Qr rfl ?_; try intro _ hK; try simp only [go_sem, *]) | refine Qh rfl ?_ | refine Qd rfl (by kernel_rfl) ?_ | (refine Qc rfl rfl ?_ ?_ <;> (intro hb; have hc := hb; try simp only [go_sem] at hc)) | refine z6 rfl ?_ | (refine Qb ?_ ?_; focus kernel_rfl) | ((with_reducible apply And.intro); focus omega) | (refine z5 hK ?_; clear hK; simp only [go_sem, *]) | simp only [z3, z4, go_sem, *])
    all_goals try contradiction
    exact x9 (i' := i + 1) [some 0, some 1, some 2] [] (ac) (by rw [hT]; exact hQ)
  ·have hi3 : ¬ (i : Int) < l.length := by omega
   rw [u0 (by omega), List.flatMap_nil, List.append_nil] at hP
   subst hP
   clear sC
   by_cases hz : acc = []
   ·rw [if_pos hz]
    subst hz
    repeat' (first | (refine Qr rfl ?_; try intro _ hK; try simp only [go_sem, *]) | refine Qh rfl ?_ | refine Qd rfl (by kernel_rfl) ?_ | (refine Qc rfl rfl ?_ ?_ <;> (intro hb; have hc := hb; try simp only [go_sem] at hc)) | refine z6 rfl ?_ | (refine Qb ?_ ?_; focus kernel_rfl) | ((with_reducible apply And.intro); focus omega) | (refine z5 hK ?_; clear hK; simp only [go_sem, *]) | simp only [z3, z4, go_sem, *])
    all_goals try contradiction
    rw [sortH_nil]
    (refine ⟨[_, _], [], [], ⟨rfl, rfl, trivial⟩, ?_⟩; simp only [go_sem, *])
   ·rw [if_neg hz]
    have hz1 : ((acc.length : Int) == 0) = false := by
     have := List.length_pos_iff.2 hz
     rw [beq_eq_false_iff_ne]; omega
    clear hz
    repeat' (first | (refine Qr rfl ?_; try intro _ hK; try simp only [go_sem, *]) | refine Qh rfl ?_ | refine Qd rfl (by kernel_rfl) ?_ | (refine Qc rfl rfl ?_ ?_ <;> (intro hb; have hc := hb; try simp only [go_sem] at hc)) | refine z6 rfl ?_ | (refine Qb ?_ ?_; focus kernel_rfl) | ((with_reducible apply And.intro); focus omega) | (refine z5 hK ?_; clear hK; simp only [go_sem, *]) | simp only [z3, z4, go_sem, *])
    all_goals try contradiction
    (refine o3 (ss) (by simp only [go_sem, *]; done) rfl (by simp only [go_sem]; done) (by simp) (by simp) ?_; simp only [go_sem, w6, *])
    repeat' (first | (refine Qr rfl ?_; try intro _ hK; try simp only [go_sem, *]) | refine Qh rfl ?_ | refine Qd rfl (by kernel_rfl) ?_ | (refine Qc rfl rfl ?_ ?_ <;> (intro hb; have hc := hb; try simp only [go_sem] at hc)) | refine z6 rfl ?_ | (refine Qb ?_ ?_; focus kernel_rfl) | ((with_reducible apply And.intro); focus omega) | (refine z5 hK ?_; clear hK; simp only [go_sem, *]) | simp only [z3, z4, go_sem, *])
    (refine ⟨[_, _], [], [], ⟨rfl, rfl, trivial⟩, ?_⟩; simp only [go_sem, *])
 ·have sa := sp_asked_err s hst hwl hfl hpl hs
  rw [if_neg hs, if_neg hs]
  have e2 : (j5 s != 0) = true := by simpa using hs
  clear hs hst hwl hfl hpl
  generalize j5 s = k at *
  refine z9 func36 rfl (fun E hE => ?_); simp only [go_sem, ntmps36]
  repeat' (first | (refine Qr rfl ?_; try intro _ hK; try simp only [go_sem, *]) | refine Qh rfl ?_ | refine Qd rfl (by kernel_rfl) ?_ | (refine Qc rfl rfl ?_ ?_ <;> (intro hb; have hc := hb; try simp only [go_sem] at hc)) | refine z6 rfl ?_ | (refine Qb ?_ ?_; focus kernel_rfl) | (refine z8 (sa) ?_; simp only [go_sem, *]) | ((with_reducible apply And.intro); focus omega) | (refine z5 hK ?_; clear hK; simp only [go_sem, *]) | simp only [z3, z4, go_sem, *])
  all_goals try contradiction
  (refine ⟨[_, _], [], [], ⟨rfl, rfl, trivial⟩, ?_⟩; simp only [go_sem, *])
end Go.Abs

namespace Go.Abs
open Go

@[reducible] def Truth.encR (p : zNU) (t : Truth) : AV := .agg [.list (t.ways.map iV), .list (t.fin.map q9), .list ((q6 p).map fun h => X4 (t.now h))]
attribute [go_sem] Truth.encR

def growU (s : Story) : Nat → Truth → List Truth
 | 0, t => [t]
 | n + 1, t => (List.range' 0 (r5 s t.ways.length).length).flatMap fun i => if can t.fin ((r5 s t.ways.length).getD i default) = 0 then growU s n (f3 t ((r5 s t.ways.length).getD i default) i) else []
def growUFrom (s : Story) (n : Nat) (t : Truth) (i : Nat) : List Truth :=
 (List.range' i ((r5 s t.ways.length).length - i)).flatMap fun i => if can t.fin ((r5 s t.ways.length).getD i default) = 0 then growU s n (f3 t ((r5 s t.ways.length).getD i default) i) else []
def allOf (s : Story) : List Truth := growU s s.steps.length (X9 s)
def carL (m : List Move) (l : List House) : List House := (m.filter fun x => decide (x.src ∈ l)).map Move.dst
end Go.Abs

namespace Go.Abs
open Go Go.Proofs Tryz
set_option maxRecDepth 10000
set_option maxHeartbeats 4000000

def AtH (x : House) (acc : List House) (j : Nat) : Prop := ∀ m, m < j → (acc.getD m default).lt x = true
theorem AtH.next {x : House} {acc : List House} {j : Nat} (h : AtH x acc j) (hx : (acc.getD j default).lt x = true) : AtH x acc (j + 1) := fun m hm => by
 rcases Nat.lt_succ_iff_lt_or_eq.1 hm with h1 | rfl
 ·exact h m h1
 ·exact hx
def SoP (l : List House) (i : Nat) (acc R : List House) : Prop := (l.drop i).foldl (fun out x => zN0 x out) acc = R ∧ acc.length ≤ i
theorem SoP.next {l : List House} {i : Nat} {acc R : List House} (h : SoP l i acc R) (hi : i < l.length) : SoP l (i + 1) (zN0 (l.getD i default) acc) R := by
 obtain ⟨h1, h2⟩ := h
 rw [v3 hi, List.foldl_cons] at h1
 exact ⟨h1, by have := insH_len (x := l.getD i default) (l := acc); omega⟩

end Go.Abs

namespace Go.Abs
open Go Go.Proofs Tryz
set_option maxRecDepth 10000
set_option maxHeartbeats 4000000

def bkt (L : List House) (i s : Nat) : List Plate := ((L.take i).filter (fun h => h.street == (s : Int))).map House.plate
end Go.Abs

namespace Go.Abs
open Go Go.Proofs Tryz
set_option maxRecDepth 10000
set_option maxHeartbeats 4000000

def namedErr (p : zNU) (c : Change) : Int :=
 if zNX c.kind 1 7 = false then 8
 else if zNX c.street 0 (p.length - 1) = false then 3
 else if (c.kind = 4 ∨ c.kind = 7) ∧ zNX c.other 0 (p.length - 1) = false then 3
 else if (c.kind = 4 ∨ c.kind = 7) ∧ c.other = c.street then 4 else 0
def namedX (c : Change) : Change := ⟨c.kind, c.street, if c.kind = 4 ∨ c.kind = 7 then c.other else 0, if 5 ≤ c.kind then c.src else zeroPlate, if c.kind = 7 then c.dst else zeroPlate⟩
end Go.Abs

namespace Go.Abs
open Go Go.Proofs Tryz
set_option maxRecDepth 10000
set_option maxHeartbeats 4000000

end Go.Abs

namespace Go.Abs
open Go Go.Proofs Tryz
set_option maxRecDepth 10000
set_option maxHeartbeats 4000000

end Go.Abs

namespace Go.Abs
open Go Go.Proofs Tryz
set_option maxRecDepth 10000
set_option maxHeartbeats 4000000

def mvs (p : zNU) (c : Change) (h : House) : List Move := (mv p c h).map fun z => ⟨h, z⟩
end Go.Abs

namespace Go.Abs
open Go Go.Proofs Tryz
attribute [local irreducible] q8 Hold y4
set_option maxRecDepth 10000

end Go.Abs

namespace Go.Abs
open Go Go.Proofs Tryz
set_option maxRecDepth 10000
set_option maxHeartbeats 4000000

end Go.Abs

namespace Go.Abs
open Go Go.Proofs Tryz
set_option maxRecDepth 10000
set_option maxHeartbeats 4000000

end Go.Abs

namespace Go.Abs
open Go Go.Proofs Tryz
set_option maxRecDepth 10000
set_option maxHeartbeats 4000000

end Go.Abs

namespace Go.Abs
open Go Go.Proofs Tryz
set_option maxRecDepth 10000
set_option maxHeartbeats 4000000

def srcOf (l : List Move) (h : House) : Option House := (l.find? fun m => decide (m.dst = h)).map Move.src
def zeroHouse : House := ⟨0, zeroPlate⟩
end Go.Abs

namespace Go.Abs
open Go Go.Proofs Tryz
set_option maxRecDepth 10000
set_option maxHeartbeats 4000000

end Go.Abs

namespace Go.Abs
open Go Go.Proofs Tryz
set_option maxRecDepth 10000
set_option maxHeartbeats 4000000

end Go.Abs

namespace Go.Abs
open Go Go.Proofs Tryz
set_option maxRecDepth 10000
set_option maxHeartbeats 4000000

@[reducible] def sBoxR (s : Story) : AObj := .box [.list (s.first.map q9), .list (s.steps.map Q2), .list (s.facts.map Fact.enc)]
@[reducible] def ansR (hs : List House) (f : House → List House) : List AV := hs.map fun h => X4 (f h)
@[go_sem, simp] theorem XpL_ans1 (H : Nat → AObj) (m : List (Option Nat)) (ex : List Nat) (l : List House) (f : House → List House) : XpL H m ex (List.map (fun h => AV.list (List.map House.enc (f h))) l) (List.map (fun h => AV.list (List.map House.enc (f h))) l) ↔ True := ⟨fun _ => trivial, fun _ => zBB (fun x => by simp only [XpF]) _⟩

@[go_sem, simp] theorem XpL_take_any {α : Type} (H : Nat → AObj) (m : List (Option Nat)) (ex : List Nat) (f : α → List AV) (l : List α) (i : Nat) (x y : AV) : XpL H m ex (List.take i (List.map (fun t => AV.list (f t)) l) ++ [x]) (List.take i (List.map (fun t => AV.list (f t)) l) ++ [y]) ↔ XpF H m ex x y := by
 rw [N6 _ (fun z hz => by
  obtain ⟨t, _, rfl⟩ := List.mem_map.1 (List.mem_of_mem_take hz)
  simp only [XpF])]
@[go_sem, simp] theorem XpL_map_any {α : Type} (H : Nat → AObj) (m : List (Option Nat)) (ex : List Nat) (f : α → List AV) (l : List α) (x y : AV) : XpL H m ex (List.map (fun t => AV.list (f t)) l ++ [x]) (List.map (fun t => AV.list (f t)) l ++ [y]) ↔ XpF H m ex x y := by
 rw [N6 _ (fun z hz => by
  obtain ⟨t, _, rfl⟩ := List.mem_map.1 hz
  simp only [XpF])]
def oneH (h : House) : List House := [h]
def FaR (s : Story) (T : Truth) (k : Nat) (b : Bool) (A : Bool) : Prop := (b = true ∧ Q3 (s.facts.drop k) T = A) ∨ (b = false ∧ A = false)
end Go.Abs

namespace Go.Abs
open Go

def canL (p : zNU) (l : List Change) : List Change := l.filter fun c => decide (can p c = 0)
def chFrom (kind : Int) (p : zNU) (s : Nat) : List Change := (List.range' s (p.length - s)).flatMap fun s => canL p (C9 kind p s)
def chK : Nat → zNU → List Change
 | 0, _ => []
 | m + 1, p => chFrom (6 - (m : Nat)) p 0 ++ chK m p
def g1 (q : zNU) (p : zNU) (c : Change) : Option (List Change) := (t8 0 (u6 p c) q).map (c :: ·)
def g2 (q : zNU) (p : zNU) (c : Change) : Option (List Change) := (t8 1 (u6 p c) q).map (c :: ·)
end Go.Abs

namespace Go.Abs
open Go Go.Proofs Tryz
set_option maxRecDepth 10000
set_option maxHeartbeats 4000000

end Go.Abs

namespace Go.Abs
open Go Go.Proofs Tryz
attribute [local irreducible] q8 Hold y4
set_option maxRecDepth 10000
set_option maxHeartbeats 4000000

def endsGo : List Truth → List zNU → List zNU
 | [], acc => acc
 | t :: r, acc => endsGo r (if t.fin ∈ acc then acc else acc ++ [t.fin])
def endsOf (s : Story) : List zNU := if j5 s = 0 then endsGo (s0 s) [] else []
def truthsR (s : Story) : List (List Int) := if j5 s = 0 then D2 s else []
theorem endsGo_yes {l : List Truth} {acc : List zNU} {i : Nat} (h : i < l.length) (e : (l.getD i default).fin ∈ acc) : endsGo (l.drop i) acc = endsGo (l.drop (i + 1)) acc := by rw [v3 h, endsGo, if_pos e]
theorem endsGo_no {l : List Truth} {acc : List zNU} {i : Nat} (h : i < l.length) (e : ¬ (l.getD i default).fin ∈ acc) : endsGo (l.drop i) acc = endsGo (l.drop (i + 1)) (acc ++ [(l.getD i default).fin]) := by rw [v3 h, endsGo, if_neg e]

end Go.Abs

namespace Go.Abs
open Go Go.Proofs Tryz
attribute [local irreducible] q8 Hold y4
set_option maxRecDepth 10000
set_option maxHeartbeats 4000000

def unscope : Code → Code
 | .seq x (.scope c) => .seq x c
 | c => c
def isScope : Code → Bool
 | .seq _ (.scope _) => true
 | _ => false
theorem spec_scope {P : Program} {f : FuncId} {fn : Func} {args : List AV} {fp : List AObj} {r : AV} {out : List AObj} (hf : P.funcs[f]? = some fn) (hb : fn.body.isSome = true) (hs : isScope (C4 fn) = true)
  (h : ∀ E : Env, E.n = fp.length → Hold P E (sub [0] (unscope (C4 fn))) (z3 (Hold P E (sub [1] (unscope (C4 fn))) (fun e σ' => (e = .normal ∨ e = .ret) ∧ D8 P fn fp.length r out σ')) (fun e σ' => (e = .normal ∨ e = .ret) ∧ D8 P fn fp.length r out σ'))
   ⟨args.length + (fn.ntmps - args.length), zN6 0 args, zNf 0 fp⟩) : zNV P f args fp r out := by
 refine z9 hf hb (fun E hE => ?_)
 have := h E hE
 simp only [sub] at this ⊢
 cases hc : C4 fn with
 | seq x y =>
  cases y with
  | scope c =>
   rw [hc] at this
   simp only [unscope, B1] at this
   refine zGR (this.mono ?_)
   rintro e σ' hq
   cases e with
   | normal =>
    have hq2 : Hold P E c (fun e σ' => (e = .normal ∨ e = .ret) ∧ D8 P fn fp.length r out σ') σ' := hq
    show Hold P E (.scope c) _ σ'
    unfold Hold at hq2 ⊢
    intro a w hw
    refine wp_scope_straight (wp_mono (hq2 a w hw) ?_)
    rintro e a1 w1 ⟨σ2, ⟨h1, h2⟩, h3⟩
    rcases h1 with rfl | rfl
    ·exact ⟨σ2, ⟨.inl rfl, h2⟩, h3⟩
    ·exact ⟨σ2, ⟨.inr rfl, h2⟩, h3⟩
   | _ => exact hq
  | _ => rw [hc] at hs; cases hs
 | _ => rw [hc] at hs; cases hs

def lostH (l : List Truth) (h : House) : Bool := l.all fun t => decide ((t.now h).length = 0)
def lostErr (s : Story) : Int := if j5 s = 0 then if s0 s = [] then 11 else 0 else j5 s
def lostOf (s : Story) : List House := if j5 s = 0 then if s0 s = [] then [] else (q6 s.first).filter (lostH (s0 s)) else []
def LostTo (l : List Truth) (h : House) (j : Nat) : Prop := ∀ t, t ∈ l.take j → (t.now h).length = 0
theorem lost_no {l : List Truth} {h : House} {j : Nat} (hj : j < l.length) (e : 0 < ((l.getD j default).now h).length) : lostH l h = false := by
 unfold lostH
 rw [List.all_eq_false]
 exact ⟨_, w5 hj, by simp only [decide_eq_true_eq]; omega⟩
theorem lost_end {l : List Truth} {h : House} {j : Nat} (hj : l.length ≤ j) (e : LostTo l h j) : lostH l h = true := by
 unfold lostH
 rw [List.all_eq_true]
 intro t ht
 rw [LostTo, List.take_of_length_le hj] at e
 simpa using e t ht
theorem lost_next {l : List Truth} {h : House} {j : Nat} (hj : j < l.length) (e : LostTo l h j) (e2 : ¬ 0 < ((l.getD j default).now h).length) : LostTo l h (j + 1) := by
 intro t ht
 rw [b9 hj] at ht
 rcases List.mem_append.1 ht with ht | ht
 ·exact e t ht
 ·rw [List.mem_singleton.1 ht]; omega

theorem sp_Lost (s : Story) (hst : s.steps.length ≤ 4294967296) (hwl : ∀ w, w ∈ s.steps → w.length ≤ 4294967296) (hfl : s.facts.length ≤ 4294967296) (hpl : s.first.length ≤ 4294967296) :
  zNV prog 38 [s.enc] [] (.tup [.list ((lostOf s).map House.enc), iV (lostErr s)]) [] := by
 unfold lostOf lostErr
 by_cases e : j5 s = 0
 ·have sa := zAt s e
  have o := E8 e
  have v := o.first
  have hct := v.count
  have hw := v.wf
  have hl := J6 o.steps (fun w hw => (o.ways w hw).2.1)
  have hsm : ∀ t, t ∈ s0 s → ∀ x, x ∈ q6 s.first → (t.now x).length ≤ 1000 := fun t hm x hx => by have := (zDc v t hm).small o.steps hx; omega
  rw [if_pos e, if_pos e]
  clear e hst hwl hfl hpl
  by_cases hne : s0 s = []
  ·rw [if_pos hne, if_pos hne]
   rw [hne] at sa
   refine spec_scope func38 rfl (by kernel_rfl) (fun E hE => ?_); simp only [go_sem, ntmps38]
   repeat' (first | (refine Qr rfl ?_; try intro _ hK; try simp only [go_sem, *]) | (refine Qi rfl rfl rfl rfl ?_ ?_ <;> (intro hb; (try intro _ hK); have hc := hb; try simp only [go_sem] at hc; simp only [go_sem, *])) | refine Qh rfl ?_ | refine Qd rfl (by kernel_rfl) ?_ | (refine Qc rfl rfl ?_ ?_ <;> (intro hb; have hc := hb; try simp only [go_sem] at hc)) | refine z6 rfl ?_ | (refine Qb ?_ ?_; focus kernel_rfl) | (refine u3 (sa) ?_; simp only [go_sem, *]) | ((with_reducible apply And.intro); focus omega) | (refine z5 hK ?_; clear hK; simp only [go_sem, *]) | simp only [z3, z4, go_sem, *])
   all_goals try contradiction
   (refine ⟨[_, _], [], [], ⟨rfl, rfl, trivial⟩, ?_⟩; simp only [go_sem, *])
  ·rw [if_neg hne, if_neg hne]
   have hl0 : (((s0 s).length : Int) == 0) = false := by
    have := List.length_pos_iff.2 hne
    rw [beq_eq_false_iff_ne]; omega
   have h0 : ([] : List House) ++ ((q6 s.first).drop 0).filter (lostH (s0 s)) = (q6 s.first).filter (lostH (s0 s)) := rfl
   generalize (q6 s.first).filter (lostH (s0 s)) = R at *
   clear hne
   generalize s0 s = L at *
   refine spec_scope func38 rfl (by kernel_rfl) (fun E hE => ?_); simp only [go_sem, ntmps38]
   repeat' (first | (refine Qr rfl ?_; try intro _ hK; try simp only [go_sem, *]) | (refine Qi rfl rfl rfl rfl ?_ ?_ <;> (intro hb; (try intro _ hK); have hc := hb; try simp only [go_sem] at hc; simp only [go_sem, *])) | refine Qh rfl ?_ | refine Qd rfl (by kernel_rfl) ?_ | (refine Qc rfl rfl ?_ ?_ <;> (intro hb; have hc := hb; try simp only [go_sem] at hc)) | refine z6 rfl ?_ | (refine Qb ?_ ?_; focus kernel_rfl) | (refine u3 (sa) ?_; simp only [go_sem, *]) | ((with_reducible apply And.intro); focus omega) | (refine z5 hK ?_; clear hK; simp only [go_sem, *]) | simp only [z3, z4, go_sem, *])
   all_goals try contradiction
   clear hl0 sa
   refine v9 rfl ((q6 s.first).length) (fun i (acc : List House) => acc ++ ((q6 s.first).drop i).filter (lostH L) = R ∧ acc.length ≤ i) 52 (fun i acc => [(29, iV i), (28, iV (q6 s.first).length), (27, .list ((q6 s.first).map House.enc)), (7, .own 0 3 0 acc.length), (5, .list (L.map (Truth.enc s.first)))]) (fun i acc => [.row 3 (acc.map House.enc)]) [none] [] ([]) (by exact ⟨h0, Nat.le_refl _⟩) ?_; intro i acc hi hP
   clear h0
   obtain ⟨hP, hacc⟩ := hP
   by_cases hi : i < (q6 s.first).length
   ·have hi3 : (i : Int) < (q6 s.first).length := by omega
    have hm := w5 hi
    have hwf := hw _ hm
    rw [v3 hi] at hP
    have hno := fun j => lost_no (l := L) (h := (q6 s.first).getD i default) (j := j)
    have hen := fun j => lost_end (l := L) (h := (q6 s.first).getD i default) (j := j)
    have hyes : lostH L ((q6 s.first).getD i default) = true → (acc ++ [(q6 s.first).getD i default]) ++ ((q6 s.first).drop (i + 1)).filter (lostH L) = R := fun e => by rw [← hP, List.filter_cons_of_pos e]; simp
    have hnot : lostH L ((q6 s.first).getD i default) = false → acc ++ ((q6 s.first).drop (i + 1)).filter (lostH L) = R := fun e => by rw [← hP, List.filter_cons_of_neg (by rw [e]; simp)]
    clear hP
    generalize hgd : (q6 s.first).getD i default = h at *
    have hwf0 := hw
    clear hw
    repeat' (first | (refine Qr rfl ?_; try intro _ hK; try simp only [go_sem, *]) | (refine Qi rfl rfl rfl rfl ?_ ?_ <;> (intro hb; (try intro _ hK); have hc := hb; try simp only [go_sem] at hc; simp only [go_sem, *])) | refine Qh rfl ?_ | refine Qd rfl (by kernel_rfl) ?_ | (refine Qc rfl rfl ?_ ?_ <;> (intro hb; have hc := hb; try simp only [go_sem] at hc)) | refine z6 rfl ?_ | (refine Qb ?_ ?_; focus kernel_rfl) | ((with_reducible apply And.intro); focus omega) | (refine z5 hK ?_; clear hK; simp only [go_sem, *]) | simp only [z3, z4, go_sem, *])
    all_goals try contradiction
    refine v5 rfl (L.length) (fun j => LostTo L h j) 52 (fun j => [(35, iV j), (34, iV L.length), (33, .list (L.map (Truth.enc s.first))), (9, .ptr 1 0), (29, iV i), (28, iV (q6 s.first).length), (27, .list ((q6 s.first).map House.enc)), (7, .own 0 3 0 acc.length), (5, .list (L.map (Truth.enc s.first)))]) (fun j => [.row 3 (acc.map House.enc), .box [iV h.street, iV h.plate.number, iV h.plate.letter]]) [some 0, some 1] [] (by intro t ht; cases ht) ?_; intro j hj hQ
    by_cases hj : j < L.length
    ·have hj3 : (j : Int) < L.length := by omega
     have hxl := hsm _ (w5 hj) _ hm
     have hn1 := hno j hj
     have hn2 := lost_next hj hQ
     clear hno hen
     repeat' (first | (refine Qr rfl ?_; try intro _ hK; try simp only [go_sem, *]) | (refine Qi rfl rfl rfl rfl ?_ ?_ <;> (intro hb; (try intro _ hK); have hc := hb; try simp only [go_sem] at hc; simp only [go_sem, *])) | refine Qh rfl ?_ | refine Qd rfl (by kernel_rfl) ?_ | (refine Qc rfl rfl ?_ ?_ <;> (intro hb; have hc := hb; try simp only [go_sem] at hc)) | refine z6 rfl ?_ | (refine Qb ?_ ?_; focus kernel_rfl) | ((with_reducible apply And.intro); focus omega) | (refine z5 hK ?_; clear hK; simp only [go_sem, *]) | simp only [z3, z4, go_sem, *])
     refine W5 (h := h) (hs := q6 s.first) (F := zNY (L.getD j default).now) hwf0 hwf ?_
     rw [if_pos hm, zNY]
     by_cases hz : 0 < ((L.getD j default).now h).length
     ·have hz3 : ((((L.getD j default).now h).length : Nat) : Int) > 0 := by omega
      have hP2 := hnot (hn1 hz)
      clear hn1 hn2 hyes hnot
      repeat' (first | (refine Qr rfl ?_; try intro _ hK; try simp only [go_sem, *]) | (refine Qi rfl rfl rfl rfl ?_ ?_ <;> (intro hb; (try intro _ hK); have hc := hb; try simp only [go_sem] at hc; simp only [go_sem, *])) | refine Qh rfl ?_ | refine Qd rfl (by kernel_rfl) ?_ | (refine Qc rfl rfl ?_ ?_ <;> (intro hb; have hc := hb; try simp only [go_sem] at hc)) | refine z6 rfl ?_ | (refine Qb ?_ ?_; focus kernel_rfl) | ((with_reducible apply And.intro); focus omega) | (refine z5 hK ?_; clear hK; simp only [go_sem, *]) | simp only [z3, z4, go_sem, *])
      all_goals try contradiction
      exact x9 (i' := i + 1) [some 0] [] (acc) (by exact ⟨hP2, by omega⟩)
     ·have hz3 : ¬ ((((L.getD j default).now h).length : Nat) : Int) > 0 := by omega
      have hQ2 := hn2 hz
      clear hn1 hn2 hyes hnot
      repeat' (first | (refine Qr rfl ?_; try intro _ hK; try simp only [go_sem, *]) | (refine Qi rfl rfl rfl rfl ?_ ?_ <;> (intro hb; (try intro _ hK); have hc := hb; try simp only [go_sem] at hc; simp only [go_sem, *])) | refine Qh rfl ?_ | refine Qd rfl (by kernel_rfl) ?_ | (refine Qc rfl rfl ?_ ?_ <;> (intro hb; have hc := hb; try simp only [go_sem] at hc)) | refine z6 rfl ?_ | (refine Qb ?_ ?_; focus kernel_rfl) | ((with_reducible apply And.intro); focus omega) | (refine z5 hK ?_; clear hK; simp only [go_sem, *]) | simp only [z3, z4, go_sem, *])
      all_goals try contradiction
      exact v4 (i' := j + 1) [some 0, some 1] [] (by exact hQ2)
    ·have hj3 : ¬ (j : Int) < L.length := by omega
     have hy := hyes (hen j (by omega) hQ)
     clear hno hen hnot hyes
     repeat' (first | (refine Qr rfl ?_; try intro _ hK; try simp only [go_sem, *]) | (refine Qi rfl rfl rfl rfl ?_ ?_ <;> (intro hb; (try intro _ hK); have hc := hb; try simp only [go_sem] at hc; simp only [go_sem, *])) | refine Qh rfl ?_ | refine Qd rfl (by kernel_rfl) ?_ | (refine Qc rfl rfl ?_ ?_ <;> (intro hb; have hc := hb; try simp only [go_sem] at hc)) | refine z6 rfl ?_ | (refine Qb ?_ ?_; focus kernel_rfl) | ((with_reducible apply And.intro); focus omega) | (refine z5 hK ?_; clear hK; simp only [go_sem, *]) | simp only [z3, z4, go_sem, *])
     all_goals try contradiction
     exact x9 (i' := i + 1) [some 3] [] (acc ++ [h]) (by exact ⟨hy, by simp; omega⟩)
   ·have hi3 : ¬ (i : Int) < (q6 s.first).length := by omega
    rw [u0 (by omega), List.filter_nil, List.append_nil] at hP
    subst hP
    repeat' (first | (refine Qr rfl ?_; try intro _ hK; try simp only [go_sem, *]) | (refine Qi rfl rfl rfl rfl ?_ ?_ <;> (intro hb; (try intro _ hK); have hc := hb; try simp only [go_sem] at hc; simp only [go_sem, *])) | refine Qh rfl ?_ | refine Qd rfl (by kernel_rfl) ?_ | (refine Qc rfl rfl ?_ ?_ <;> (intro hb; have hc := hb; try simp only [go_sem] at hc)) | refine z6 rfl ?_ | (refine Qb ?_ ?_; focus kernel_rfl) | ((with_reducible apply And.intro); focus omega) | (refine z5 hK ?_; clear hK; simp only [go_sem, *]) | simp only [z3, z4, go_sem, *])
    all_goals try contradiction
    refine ⟨[_, _], [], [0], ⟨rfl, rfl, trivial⟩, ?_⟩
    simp only [go_sem, *]
 ·rw [if_neg e, if_neg e]
  have sa := sp_asked_err s hst hwl hfl hpl e
  have e2 : (j5 s != 0) = true := by simpa using e
  clear e
  generalize j5 s = k at *
  refine spec_scope func38 rfl (by kernel_rfl) (fun E hE => ?_); simp only [go_sem, ntmps38]
  repeat' (first | (refine Qr rfl ?_; try intro _ hK; try simp only [go_sem, *]) | (refine Qi rfl rfl rfl rfl ?_ ?_ <;> (intro hb; (try intro _ hK); have hc := hb; try simp only [go_sem] at hc; simp only [go_sem, *])) | refine Qh rfl ?_ | refine Qd rfl (by kernel_rfl) ?_ | (refine Qc rfl rfl ?_ ?_ <;> (intro hb; have hc := hb; try simp only [go_sem] at hc)) | refine z6 rfl ?_ | (refine Qb ?_ ?_; focus kernel_rfl) | (refine z8 (sa) ?_; simp only [go_sem, *]) | ((with_reducible apply And.intro); focus omega) | (refine z5 hK ?_; clear hK; simp only [go_sem, *]) | simp only [z3, z4, go_sem, *])
  all_goals try contradiction
  (refine ⟨[_, _], [], [], ⟨rfl, rfl, trivial⟩, ?_⟩; simp only [go_sem, *])
end Go.Abs

namespace Go.Abs
open Go

def likeT (x y : Truth) (hs : List House) : Bool := hs.all fun h => decide (x.now h = y.now h)
def okT (l : List Truth) (hs some : List House) (a b : Nat) : Bool := !likeT (l.getD a default) (l.getD b default) some || likeT (l.getD a default) (l.getD b default) hs
def settlesT (l : List Truth) (hs some : List House) : Bool := (List.range l.length).all fun a => (List.range a).all fun b => okT l hs some a b
theorem settlesT_iff {l : List Truth} {hs some : List House} : settlesT l hs some = true ↔ ∀ a, a < l.length → ∀ b, b < a → okT l hs some a b = true := by
 simp only [settlesT, List.all_eq_true, List.mem_range]
def subsN (n : Nat) : Nat → Nat → List (List Int)
 | 0, _ => [[]]
 | _ + 1, 0 => []
 | m + 1, r + 1 => (subsN n m r).map (fun l => (((n - (r + 1) : Nat) : Int)) :: l) ++ subsN n (m + 1) r
def chosen (hs : List House) (l : List Int) : List House := l.map fun k => hs.getD k.toNat default
def fewT (S : List House → Bool) (hs : List House) : Nat → Nat → List House → List House × Bool
 | 0, _, pre => (pre, S pre)
 | _ + 1, 0, _ => ([], false)
 | m + 1, r + 1, pre => if (fewT S hs m r (pre ++ [hs.getD (hs.length - (r + 1)) default])).2 then ((fewT S hs m r (pre ++ [hs.getD (hs.length - (r + 1)) default])).1, true) else fewT S hs (m + 1) r pre
theorem fewT_zero (S : List House → Bool) (hs pre : List House) (r : Nat) : fewT S hs 0 r pre = (pre, S pre) := by cases r <;> rfl
theorem fewT_step (S : List House → Bool) (hs : List House) (m i : Nat) (pre : List House) (hi : i < hs.length) : fewT S hs (m + 1) (hs.length - i) pre =
  if (fewT S hs m (hs.length - (i + 1)) (pre ++ [hs.getD i default])).2 then ((fewT S hs m (hs.length - (i + 1)) (pre ++ [hs.getD i default])).1, true) else fewT S hs (m + 1) (hs.length - (i + 1)) pre := by
 obtain ⟨r, hr⟩ : ∃ r, hs.length - (i + 1) = r := ⟨_, rfl⟩
 have e : hs.length - i = r + 1 := by omega
 have e2 : hs.length - (r + 1) = i := by omega
 rw [e, hr, fewT, e2]
theorem fewT_none (S : List House → Bool) (hs : List House) : ∀ (r m : Nat) (pre : List House), r < m → fewT S hs m r pre = ([], false)
 | 0, 0, _, h => by omega
 | 0, m + 1, _, _ => rfl
 | r + 1, 0, _, h => by omega
 | r + 1, m + 1, pre, h => by rw [fewT, fewT_none S hs r m _ (by omega), fewT_none S hs r (m + 1) _ (by omega)]; rfl
end Go.Abs

namespace Go.Abs
open Go Go.Proofs Tryz
attribute [local irreducible] q8 Hold y4
set_option maxRecDepth 10000
set_option maxHeartbeats 4000000

def LikeTo (x y : Truth) (hs : List House) (i : Nat) : Prop := ∀ h, h ∈ hs.take i → x.now h = y.now h
theorem like_no {x y : Truth} {hs : List House} {i : Nat} (hi : i < hs.length) (h : decide (x.now (hs.getD i default) = y.now (hs.getD i default)) = false) : likeT x y hs = false := by
 unfold likeT
 rw [List.all_eq_false]
 exact ⟨_, w5 hi, by simpa using of_decide_eq_false h⟩
theorem like_end {x y : Truth} {hs : List House} {i : Nat} (hi : hs.length ≤ i) (h : LikeTo x y hs i) : likeT x y hs = true := by
 unfold likeT
 rw [List.all_eq_true]
 intro z hz
 rw [LikeTo, List.take_of_length_le hi] at h
 simpa using h z hz
theorem like_next {x y : Truth} {hs : List House} {i : Nat} (hi : i < hs.length) (h : LikeTo x y hs i) (h2 : decide (x.now (hs.getD i default) = y.now (hs.getD i default)) = true) : LikeTo x y hs (i + 1) := by
 intro z hz
 rw [b9 hi] at hz
 rcases List.mem_append.1 hz with hz | hz
 ·exact h z hz
 ·rw [List.mem_singleton.1 hz]; simpa using h2

theorem sp_like (p : zNU) (x y : Truth) (hs : List House) (v : Valid p) (hh : ∀ h, h ∈ hs → h ∈ q6 p) (hl : hs.length ≤ 1000) (hx : ∀ h, h ∈ q6 p → (x.now h).length ≤ 1000) :
  zNV prog 119 [x.enc p, y.enc p, .list (hs.map House.enc)] [] (bV (likeT x y hs)) [] := by
 have hw := v.wf
 have hF := fun i => like_no (x := x) (y := y) (hs := hs) (i := i)
 have hT := fun i => like_end (x := x) (y := y) (hs := hs) (i := i)
 generalize likeT x y hs = L at *
 refine z9 func119 rfl (fun E hE => ?_); simp only [go_sem, ntmps119]
 repeat' (first | (refine Qr rfl ?_; try intro _ hK; try simp only [go_sem, *]) | refine Qh rfl ?_ | refine Qd rfl (by kernel_rfl) ?_ | (refine Qc rfl rfl ?_ ?_ <;> (intro hb; have hc := hb; try simp only [go_sem] at hc)) | refine z6 rfl ?_ | (refine Qb ?_ ?_; focus kernel_rfl) | ((with_reducible apply And.intro); focus omega) | (refine z5 hK ?_; clear hK; simp only [go_sem, *]) | simp only [z3, z4, go_sem, *])
 refine v5 rfl (hs.length) (fun i => LikeTo x y hs i) 26 (fun i => [(11, iV i), (10, iV hs.length), (9, .list (hs.map House.enc)), (4, .ptr 1 0), (3, .ptr 0 0)]) (fun i => [.box [.list (x.ways.map iV), .list (x.fin.map q9), .fmap (y7 p) (y6 p x.now)], .box [.list (y.ways.map iV), .list (y.fin.map q9), .fmap (y7 p) (y6 p y.now)]]) [some 0, some 1] [] (by intro h hq; cases hq) ?_; intro i hi hP
 by_cases hi : i < hs.length
 ·have hi3 : (i : Int) < hs.length := by omega
  have hm := hh _ (w5 hi)
  have hwf := hw _ hm
  have hxl := hx _ hm
  have sc := zIh (x.now (hs.getD i default)) (y.now (hs.getD i default)) (by omega)
  have hF1 := hF i hi
  have hN := like_next hi hP
  clear hF hT
  repeat' (first | (refine Qr rfl ?_; try intro _ hK; try simp only [go_sem, *]) | refine Qh rfl ?_ | refine Qd rfl (by kernel_rfl) ?_ | (refine Qc rfl rfl ?_ ?_ <;> (intro hb; have hc := hb; try simp only [go_sem] at hc)) | refine z6 rfl ?_ | (refine Qb ?_ ?_; focus kernel_rfl) | ((with_reducible apply And.intro); focus omega) | (refine z5 hK ?_; clear hK; simp only [go_sem, *]) | simp only [z3, z4, go_sem, *])
  refine W5 (h := hs.getD i default) (hs := q6 p) (F := zNY x.now) hw hwf ?_
  rw [if_pos hm, zNY]
  repeat' (first | (refine Qr rfl ?_; try intro _ hK; try simp only [go_sem, *]) | refine Qh rfl ?_ | refine Qd rfl (by kernel_rfl) ?_ | (refine Qc rfl rfl ?_ ?_ <;> (intro hb; have hc := hb; try simp only [go_sem] at hc)) | refine z6 rfl ?_ | (refine Qb ?_ ?_; focus kernel_rfl) | ((with_reducible apply And.intro); focus omega) | (refine z5 hK ?_; clear hK; simp only [go_sem, *]) | simp only [z3, z4, go_sem, *])
  refine W5 (h := hs.getD i default) (hs := q6 p) (F := zNY y.now) hw hwf ?_
  rw [if_pos hm, zNY]
  generalize decide (x.now (hs.getD i default) = y.now (hs.getD i default)) = D at *
  cases D with
  | true =>
   have hN2 := hN rfl
   clear hF1 hN
   repeat' (first | (refine Qr rfl ?_; try intro _ hK; try simp only [go_sem, *]) | refine Qh rfl ?_ | refine Qd rfl (by kernel_rfl) ?_ | (refine Qc rfl rfl ?_ ?_ <;> (intro hb; have hc := hb; try simp only [go_sem] at hc)) | refine z6 rfl ?_ | (refine Qb ?_ ?_; focus kernel_rfl) | (refine z8 (sc) ?_; simp only [go_sem, *]) | ((with_reducible apply And.intro); focus omega) | (refine z5 hK ?_; clear hK; simp only [go_sem, *]) | simp only [z3, z4, go_sem, *])
   all_goals try contradiction
   exact v4 (i' := i + 1) [some 0, some 1] [] (by exact hN2)
  | false =>
   have hL := hF1 rfl
   clear hF1 hN
   subst hL
   repeat' (first | (refine Qr rfl ?_; try intro _ hK; try simp only [go_sem, *]) | refine Qh rfl ?_ | refine Qd rfl (by kernel_rfl) ?_ | (refine Qc rfl rfl ?_ ?_ <;> (intro hb; have hc := hb; try simp only [go_sem] at hc)) | refine z6 rfl ?_ | (refine Qb ?_ ?_; focus kernel_rfl) | (refine z8 (sc) ?_; simp only [go_sem, *]) | ((with_reducible apply And.intro); focus omega) | (refine z5 hK ?_; clear hK; simp only [go_sem, *]) | simp only [z3, z4, go_sem, *])
   all_goals try contradiction
   (refine ⟨[_], [], [], ⟨rfl, trivial⟩, ?_⟩; simp only [go_sem, *])
 ·have hi3 : ¬ (i : Int) < hs.length := by omega
  have hL := hT i (by omega) hP
  clear hF hT
  subst hL
  repeat' (first | (refine Qr rfl ?_; try intro _ hK; try simp only [go_sem, *]) | refine Qh rfl ?_ | refine Qd rfl (by kernel_rfl) ?_ | (refine Qc rfl rfl ?_ ?_ <;> (intro hb; have hc := hb; try simp only [go_sem] at hc)) | refine z6 rfl ?_ | (refine Qb ?_ ?_; focus kernel_rfl) | ((with_reducible apply And.intro); focus omega) | (refine z5 hK ?_; clear hK; simp only [go_sem, *]) | simp only [z3, z4, go_sem, *])
  all_goals try contradiction
  (refine ⟨[_], [], [], ⟨rfl, trivial⟩, ?_⟩; simp only [go_sem, *])

def SetTo (l : List Truth) (hs pre : List House) (i j : Nat) : Prop := (∀ a, a < i → ∀ b, b < a → okT l hs pre a b = true) ∧ ∀ b, b < j → okT l hs pre i b = true
theorem set_no {l : List Truth} {hs pre : List House} {i j : Nat} (hi : i < l.length) (hj : j < i) (h : okT l hs pre i j = false) : settlesT l hs pre = false := by
 cases e : settlesT l hs pre with
 | false => rfl
 | true =>
  have := settlesT_iff.1 e i hi j hj
  rw [h] at this; cases this
theorem set_end {l : List Truth} {hs pre : List House} {i : Nat} (hi : l.length ≤ i) (h : SetTo l hs pre i 0) : settlesT l hs pre = true := by
 rw [settlesT_iff]
 exact fun a ha b hb => h.1 a (by omega) b hb
theorem set_next {l : List Truth} {hs pre : List House} {i : Nat} (h : SetTo l hs pre i i) : SetTo l hs pre (i + 1) 0 := by
 refine ⟨fun a ha b hb => ?_, fun b hb => by omega⟩
 rcases Nat.lt_or_ge a i with h1 | h1
 ·exact h.1 a h1 b hb
 ·have : a = i := by omega
  subst this
  exact h.2 b hb
theorem set_nextj {l : List Truth} {hs pre : List House} {i j : Nat} (h : SetTo l hs pre i j) (h2 : okT l hs pre i j = true) : SetTo l hs pre i (j + 1) := by
 refine ⟨h.1, fun b hb => ?_⟩
 rcases Nat.lt_or_ge b j with h1 | h1
 ·exact h.2 b h1
 ·have : b = j := by omega
  subst this
  exact h2
theorem set_zero (l : List Truth) (hs pre : List House) : SetTo l hs pre 0 0 := ⟨fun a ha => by omega, fun b hb => by omega⟩

theorem sp_settles (s : Story) (o : Told s) (l : List Truth) (pre : List House) (hh : ∀ h, h ∈ pre → h ∈ q6 s.first) (hl : pre.length ≤ 1000) (hlt : l.length ≤ 1000) (hx : ∀ t, t ∈ l → ∀ h, h ∈ q6 s.first → (t.now h).length ≤ 1000) :
  zNV prog 98 [.ptr 0 0, .list (l.map (Truth.enc s.first)), .list (pre.map House.enc)] [o5 s] (bV (settlesT l (q6 s.first) pre)) [o5 s] := by
 have v := o.first
 have hct := v.count
 have h0 := set_zero l (q6 s.first) pre
 have hF := fun i j => set_no (l := l) (hs := q6 s.first) (pre := pre) (i := i) (j := j)
 have hT := fun i => set_end (l := l) (hs := q6 s.first) (pre := pre) (i := i)
 have sL := fun (x y : Truth) (hx) => sp_like s.first x y pre v hh hl hx
 have sA := fun (x y : Truth) (hx) => sp_like s.first x y (q6 s.first) v (fun _ h => h) (by omega) hx
 generalize settlesT l (q6 s.first) pre = S at *
 have hca : r8 prog 119 = true := by kernel_rfl
 refine z9 func98 rfl (fun E hE => ?_); simp only [go_sem, ntmps98]
 repeat' (first | (refine Qr rfl ?_; try intro _ hK; try simp only [go_sem, *]) | (refine Qi rfl rfl rfl rfl ?_ ?_ <;> (intro hb; (try intro _ hK); have hc := hb; try simp only [go_sem] at hc; simp only [go_sem, *])) | refine Qh rfl ?_ | refine Qd rfl (by kernel_rfl) ?_ | (refine Qc rfl rfl ?_ ?_ <;> (intro hb; have hc := hb; try simp only [go_sem] at hc)) | refine z6 rfl ?_ | (refine Qb ?_ ?_; focus kernel_rfl) | ((with_reducible apply And.intro); focus omega) | (refine z5 hK ?_; clear hK; simp only [go_sem, *]) | simp only [z3, z4, go_sem, *])
 refine v5 rfl (l.length) (fun i => SetTo l (q6 s.first) pre i 0) 45 (fun i => [(14, iV i), (13, iV l.length), (12, .list (l.map (Truth.enc s.first))), (7, fnV 119), (2, .list (pre.map House.enc)), (1, .list (l.map (Truth.enc s.first))), (0, .ptr 0 0)]) (fun i => [o5 s]) [some 0] [] (by exact h0) ?_; intro i hi hP
 clear h0
 by_cases hi : i < l.length
 ·have hi3 : (i : Int) < l.length := by omega
  have hF1 := fun j => hF i j hi
  have sL1 := fun y => sL (l.getD i default) y (hx _ (w5 hi))
  have sA1 := fun y => sA (l.getD i default) y (hx _ (w5 hi))
  clear hF hT sL sA
  have hez : l.take (i - 0) = l.take i := by rw [Nat.sub_zero]
  repeat' (first | (refine Qr rfl ?_; try intro _ hK; try simp only [go_sem, *]) | (refine Qi rfl rfl rfl rfl ?_ ?_ <;> (intro hb; (try intro _ hK); have hc := hb; try simp only [go_sem] at hc; simp only [go_sem, *])) | refine Qh rfl ?_ | refine Qd rfl (by kernel_rfl) ?_ | (refine Qc rfl rfl ?_ ?_ <;> (intro hb; have hc := hb; try simp only [go_sem] at hc)) | refine z6 rfl ?_ | (with_reducible (show (∀ _ : AV, _ → _) ∧ _); refine And.intro ?_ ?_; (focus (intro y hy; first | (obtain ⟨z, _, rfl⟩ := List.mem_map.1 (hy); simp [go_sem]; done) | (obtain ⟨z, _, rfl⟩ := List.mem_map.1 (List.mem_of_mem_take hy); simp [go_sem]; done) | (obtain ⟨z, _, rfl⟩ := List.mem_map.1 (List.mem_of_mem_drop hy); simp [go_sem]; done) | (obtain ⟨z, _, rfl⟩ := List.mem_map.1 (List.mem_of_mem_drop (List.mem_of_mem_take hy)); simp [go_sem]; done)))) | (refine Qb ?_ ?_; focus kernel_rfl) | ((with_reducible apply And.intro); focus omega) | (refine z5 hK ?_; clear hK; simp only [go_sem, *]) | simp only [z3, z4, go_sem, *])
  all_goals try contradiction
  refine v5 rfl (i) (fun j => SetTo l (q6 s.first) pre i j) 45 (fun j => [(23, iV j), (22, iV i), (21, .list ((l.take i).map (Truth.enc s.first))), (9, .ptr 1 0), (14, iV i), (13, iV l.length), (12, .list (l.map (Truth.enc s.first))), (7, fnV 119), (2, .list (pre.map House.enc)), (1, .list (l.map (Truth.enc s.first))), (0, .ptr 0 0)]) (fun j => [o5 s, .box [.list ((l.getD i default).ways.map iV), .list ((l.getD i default).fin.map q9), .fmap (y7 s.first) (y6 s.first (l.getD i default).now)]]) [some 0, some 1] [] (by exact hP) ?_; intro j hj hQ
  clear hP
  by_cases hj : j < i
  ·have hj3 : (j : Int) < i := by omega
   have hF2 := hF1 j hj
   have hN := set_nextj hQ
   have sL2 := sL1 (l.getD j default)
   have sA2 := sA1 (l.getD j default)
   have hgt : (List.map (Truth.enc s.first) (l.take i)).getD j AV.any = (l.getD j default).enc s.first := by
    have : j < l.length := by omega
    simp [List.getD, hj, this]
   have hok : okT l (q6 s.first) pre i j = (!likeT (l.getD i default) (l.getD j default) pre || likeT (l.getD i default) (l.getD j default) (q6 s.first)) := rfl
   generalize likeT (l.getD i default) (l.getD j default) pre = c1 at *
   generalize likeT (l.getD i default) (l.getD j default) (q6 s.first) = c2 at *
   generalize okT l (q6 s.first) pre i j = ok at *
   subst hok
   clear hF1 sL1 sA1
   cases c1 with
   | false =>
    have hN2 := hN rfl
    clear hF2 hN
    repeat' (first | (refine Qr rfl ?_; try intro _ hK; try simp only [go_sem, *]) | (refine Qi rfl rfl rfl rfl ?_ ?_ <;> (intro hb; (try intro _ hK); have hc := hb; try simp only [go_sem] at hc; simp only [go_sem, *])) | refine Qh rfl ?_ | refine Qd rfl (by kernel_rfl) ?_ | (refine Qc rfl rfl ?_ ?_ <;> (intro hb; have hc := hb; try simp only [go_sem] at hc)) | refine z6 rfl ?_ | (refine Qb ?_ ?_; focus kernel_rfl) | (refine X3 (sL2) ?_ ?_; (focus (simp only [go_sem, *]; done)); simp only [go_sem, *]) | (refine X3 (sA2) ?_ ?_; (focus (simp only [go_sem, *]; done)); simp only [go_sem, *]) | ((with_reducible apply And.intro); focus omega) | (refine z5 hK ?_; clear hK; simp only [go_sem, *]) | simp only [z3, z4, go_sem, *])
    all_goals try contradiction
    exact v4 (i' := j + 1) [some 0, some 1] [] (by exact hN2)
   | true =>
    cases c2 with
    | true =>
     have hN2 := hN rfl
     clear hF2 hN
     repeat' (first | (refine Qr rfl ?_; try intro _ hK; try simp only [go_sem, *]) | (refine Qi rfl rfl rfl rfl ?_ ?_ <;> (intro hb; (try intro _ hK); have hc := hb; try simp only [go_sem] at hc; simp only [go_sem, *])) | refine Qh rfl ?_ | refine Qd rfl (by kernel_rfl) ?_ | (refine Qc rfl rfl ?_ ?_ <;> (intro hb; have hc := hb; try simp only [go_sem] at hc)) | refine z6 rfl ?_ | (refine Qb ?_ ?_; focus kernel_rfl) | (refine X3 (sL2) ?_ ?_; (focus (simp only [go_sem, *]; done)); simp only [go_sem, *]) | (refine X3 (sA2) ?_ ?_; (focus (simp only [go_sem, *]; done)); simp only [go_sem, *]) | ((with_reducible apply And.intro); focus omega) | (refine z5 hK ?_; clear hK; simp only [go_sem, *]) | simp only [z3, z4, go_sem, *])
     all_goals try contradiction
     exact v4 (i' := j + 1) [some 0, some 1] [] (by exact hN2)
    | false =>
     have hS := hF2 rfl
     clear hF2 hN
     subst hS
     repeat' (first | (refine Qr rfl ?_; try intro _ hK; try simp only [go_sem, *]) | (refine Qi rfl rfl rfl rfl ?_ ?_ <;> (intro hb; (try intro _ hK); have hc := hb; try simp only [go_sem] at hc; simp only [go_sem, *])) | refine Qh rfl ?_ | refine Qd rfl (by kernel_rfl) ?_ | (refine Qc rfl rfl ?_ ?_ <;> (intro hb; have hc := hb; try simp only [go_sem] at hc)) | refine z6 rfl ?_ | (refine Qb ?_ ?_; focus kernel_rfl) | (refine X3 (sL2) ?_ ?_; (focus (simp only [go_sem, *]; done)); simp only [go_sem, *]) | (refine X3 (sA2) ?_ ?_; (focus (simp only [go_sem, *]; done)); simp only [go_sem, *]) | ((with_reducible apply And.intro); focus omega) | (refine z5 hK ?_; clear hK; simp only [go_sem, *]) | simp only [z3, z4, go_sem, *])
     all_goals try contradiction
     refine ⟨[_], [some 0], [], ⟨rfl, trivial⟩, ?_⟩
     simp only [go_sem, *]
  ·have hj3 : ¬ (j : Int) < i := by omega
   obtain rfl : j = i := by omega
   have hN := set_next hQ
   clear hF1 sL1 sA1
   repeat' (first | (refine Qr rfl ?_; try intro _ hK; try simp only [go_sem, *]) | (refine Qi rfl rfl rfl rfl ?_ ?_ <;> (intro hb; (try intro _ hK); have hc := hb; try simp only [go_sem] at hc; simp only [go_sem, *])) | refine Qh rfl ?_ | refine Qd rfl (by kernel_rfl) ?_ | (refine Qc rfl rfl ?_ ?_ <;> (intro hb; have hc := hb; try simp only [go_sem] at hc)) | refine z6 rfl ?_ | (refine Qb ?_ ?_; focus kernel_rfl) | ((with_reducible apply And.intro); focus omega) | (refine z5 hK ?_; clear hK; simp only [go_sem, *]) | simp only [z3, z4, go_sem, *])
   all_goals try contradiction
   exact v4 (i' := j + 1) [some 0] [] (by exact hN)
 ·have hi3 : ¬ (i : Int) < l.length := by omega
  have hS := hT i (by omega) hP
  clear hF hT sL sA hx
  subst hS
  repeat' (first | (refine Qr rfl ?_; try intro _ hK; try simp only [go_sem, *]) | (refine Qi rfl rfl rfl rfl ?_ ?_ <;> (intro hb; (try intro _ hK); have hc := hb; try simp only [go_sem] at hc; simp only [go_sem, *])) | refine Qh rfl ?_ | refine Qd rfl (by kernel_rfl) ?_ | (refine Qc rfl rfl ?_ ?_ <;> (intro hb; have hc := hb; try simp only [go_sem] at hc)) | refine z6 rfl ?_ | (refine Qb ?_ ?_; focus kernel_rfl) | ((with_reducible apply And.intro); focus omega) | (refine z5 hK ?_; clear hK; simp only [go_sem, *]) | simp only [z3, z4, go_sem, *])
  all_goals try contradiction
  refine ⟨[_], [some 0], [], ⟨rfl, trivial⟩, ?_⟩
  simp only [go_sem, *]
end Go.Abs

namespace Go.Abs
open Go Go.Proofs Tryz
attribute [local irreducible] q8 Hold y4
set_option maxRecDepth 10000
set_option maxHeartbeats 4000000

theorem sp_fewest (s : Story) (o : Told s) (l : List Truth) (hlt : l.length ≤ 1000) (hx : ∀ t, t ∈ l → ∀ h, h ∈ q6 s.first → (t.now h).length ≤ 1000) : ∀ (m start : Nat) (pre : List House), (∀ h, h ∈ pre → h ∈ q6 s.first) → pre.length + m ≤ 1000 → start ≤ (q6 s.first).length →
  zNV prog 69 [.ptr 0 0, .list (l.map (Truth.enc s.first)), .list (pre.map House.enc), iV start, iV m] [o5 s]
   (.tup [.list ((fewT (settlesT l (q6 s.first)) (q6 s.first) m ((q6 s.first).length - start) pre).1.map House.enc), bV (fewT (settlesT l (q6 s.first)) (q6 s.first) m ((q6 s.first).length - start) pre).2]) [o5 s]
 | 0, start, pre, hh, hp, hs => by
  have sS := sp_settles s o l pre hh (by omega) hlt hx
  rw [fewT_zero]
  refine z9 func69 rfl (fun E hE => ?_); simp only [go_sem, ntmps69]
  repeat' (first | (refine Qr rfl ?_; try intro _ hK; try simp only [go_sem, *]) | refine Qh rfl ?_ | refine Qd rfl (by kernel_rfl) ?_ | (refine Qc rfl rfl ?_ ?_ <;> (intro hb; have hc := hb; try simp only [go_sem] at hc)) | refine z6 rfl ?_ | (refine Qb ?_ ?_; focus kernel_rfl) | (refine l5 [0] (sS) ?_; simp only [go_sem, *]) | ((with_reducible apply And.intro); focus omega) | (refine z5 hK ?_; clear hK; simp only [go_sem, *]) | simp only [z3, z4, go_sem, *])
  all_goals try contradiction
  refine ⟨[_, _], [some 0], [], ⟨rfl, rfl, trivial⟩, ?_⟩
  simp only [go_sem, *]
 | m + 1, start, pre, hh, hp, hs => by
  have v := o.first
  have hct := v.count
  have IH := sp_fewest s o l hlt hx m
  have sC := zIZ pre (by omega)
  obtain ⟨R, hR⟩ : ∃ R, fewT (settlesT l (q6 s.first)) (q6 s.first) (m + 1) ((q6 s.first).length - start) pre = R := ⟨_, rfl⟩
  have hst := fun i => fewT_step (settlesT l (q6 s.first)) (q6 s.first) m i pre
  have hno := fun i => fewT_none (settlesT l (q6 s.first)) (q6 s.first) i (m + 1) pre
  have hin : ∀ i, i < (q6 s.first).length → ∀ h, h ∈ pre ++ [(q6 s.first).getD i default] → h ∈ q6 s.first := fun i hi h hm => by
   rcases List.mem_append.1 hm with hm | hm
   ·exact hh h hm
   ·rw [List.mem_singleton.1 hm]; exact w5 hi
  rw [hR]
  generalize settlesT l (q6 s.first) = S at *
  have hbx : o5 s = .box [.list (s.first.map q9), .list (s.steps.map Q2), .list (s.facts.map Fact.enc), .list ((q6 s.first).map House.enc)] := rfl
  rw [hbx] at IH ⊢
  generalize q6 s.first = HS at *
  have hw1 : IntKind.i64.wrap (((m + 1 : Nat) : Int) - 1) = (m : Int) := by rw [wrap_i64 (by omega) (by omega)]; omega
  have hz : (((m + 1 : Nat) : Int) == 0) = false := by rw [beq_eq_false_iff_ne]; omega
  obtain ⟨M, hM⟩ : ∃ M, M = m + 1 := ⟨_, rfl⟩
  rw [← hM] at hw1 hz hR hst hno ⊢
  have hM2 : m < M := by omega
  have hM3 : M ≤ 1000 := by omega
  clear hM hbx
  refine z9 func69 rfl (fun E hE => ?_); simp only [go_sem, ntmps69]
  repeat' (first | (refine Qr rfl ?_; try intro _ hK; try simp only [go_sem, *]) | refine Qh rfl ?_ | refine Qd rfl (by kernel_rfl) ?_ | (refine Qc rfl rfl ?_ ?_ <;> (intro hb; have hc := hb; try simp only [go_sem] at hc)) | refine z6 rfl ?_ | (refine Qb ?_ ?_; focus kernel_rfl) | ((with_reducible apply And.intro); focus omega) | (refine z5 hK ?_; clear hK; simp only [go_sem, *]) | simp only [z3, z4, go_sem, *])
  all_goals try contradiction
  refine v9 rfl (HS.length - start) (fun k (i : Nat) => (start + k ≤ i ∧ i ≤ start + k) ∧ fewT S HS M (HS.length - i) pre = R) 57 (fun k i => [(12, iV i), (4, iV M), (2, .list (pre.map House.enc)), (1, .list (l.map (Truth.enc s.first))), (0, .ptr 0 0)]) (fun k i => [.box [.list (s.first.map q9), .list (s.steps.map Q2), .list (s.facts.map Fact.enc), .list (HS.map House.enc)]]) [some 0] [] (start) (by exact ⟨⟨Nat.le_refl _, Nat.le_refl _⟩, hR⟩) ?_; intro k i hk hP
  clear hR
  obtain ⟨⟨hik1, hik2⟩, hP⟩ := hP
  have hiM : i ≤ HS.length := by omega
  have hw : IntKind.i64.wrap ((i : Int) + (M : Int)) = (i : Int) + M := wrap_i64 (by omega) (by omega)
  have hw3 : IntKind.i64.wrap ((i : Int) + 1) = ((i + 1 : Nat) : Int) := by rw [wrap_i64 (by omega) (by omega)]; omega
  by_cases hi : i + M ≤ HS.length
  ·have hi3 : (i : Int) + M ≤ HS.length := by omega
   have hi2 : i < HS.length := by omega
   rw [hst i hi2] at hP
   have ih := IH (i + 1) (pre ++ [HS.getD i default]) (hin i hi2) (by simp; omega) (by omega)
   generalize fewT S HS m (HS.length - (i + 1)) (pre ++ [HS.getD i default]) = Q at *
   clear IH hst hno hin
   cases q2 : Q.2 with
   | true =>
    rw [q2, if_pos rfl] at hP
    subst hP
    rw [q2] at ih
    repeat' (first | (refine Qr rfl ?_; try intro _ hK; try simp only [go_sem, *]) | refine Qh rfl ?_ | refine Qd rfl (by kernel_rfl) ?_ | (refine Qc rfl rfl ?_ ?_ <;> (intro hb; have hc := hb; try simp only [go_sem] at hc)) | refine z6 rfl ?_ | (refine Qb ?_ ?_; focus kernel_rfl) | (refine u3 (sC) ?_; simp only [go_sem, *]) | ((with_reducible apply And.intro); focus omega) | (refine z5 hK ?_; clear hK; simp only [go_sem, *]) | simp only [z3, z4, go_sem, *])
    all_goals try contradiction
    refine zBR [0] [3] ih rfl (by simp only [go_sem]) (by simp) ?_ ?_ (by simp [go_sem]) (by simp [go_sem]) ?_
    ·simp only [go_sem, List.map_append, List.map_cons, List.map_nil, *]
     rw [List.take_of_length_le (by simp)]
    ·simp only [go_sem, *]
    simp only [go_sem, w6, *]
    repeat' (first | (refine Qr rfl ?_; try intro _ hK; try simp only [go_sem, *]) | refine Qh rfl ?_ | refine Qd rfl (by kernel_rfl) ?_ | (refine Qc rfl rfl ?_ ?_ <;> (intro hb; have hc := hb; try simp only [go_sem] at hc)) | refine z6 rfl ?_ | (refine Qb ?_ ?_; focus kernel_rfl) | ((with_reducible apply And.intro); focus omega) | (refine z5 hK ?_; clear hK; simp only [go_sem, *]) | simp only [z3, z4, go_sem, *])
    all_goals try contradiction
    refine ⟨[_, _], [some 0], [], ⟨rfl, rfl, trivial⟩, ?_⟩
    simp only [go_sem, *]
   | false =>
    rw [q2, if_neg (by simp)] at hP
    rw [q2] at ih
    repeat' (first | (refine Qr rfl ?_; try intro _ hK; try simp only [go_sem, *]) | refine Qh rfl ?_ | refine Qd rfl (by kernel_rfl) ?_ | (refine Qc rfl rfl ?_ ?_ <;> (intro hb; have hc := hb; try simp only [go_sem] at hc)) | refine z6 rfl ?_ | (refine Qb ?_ ?_; focus kernel_rfl) | (refine u3 (sC) ?_; simp only [go_sem, *]) | ((with_reducible apply And.intro); focus omega) | (refine z5 hK ?_; clear hK; simp only [go_sem, *]) | simp only [z3, z4, go_sem, *])
    all_goals try contradiction
    refine zBR [0] [3] ih rfl (by simp only [go_sem]) (by simp) ?_ ?_ (by simp [go_sem]) (by simp [go_sem]) ?_
    ·simp only [go_sem, List.map_append, List.map_cons, List.map_nil, *]
     rw [List.take_of_length_le (by simp)]
    ·simp only [go_sem, *]
    simp only [go_sem, w6, *]
    repeat' (first | (refine Qr rfl ?_; try intro _ hK; try simp only [go_sem, *]) | refine Qh rfl ?_ | refine Qd rfl (by kernel_rfl) ?_ | (refine Qc rfl rfl ?_ ?_ <;> (intro hb; have hc := hb; try simp only [go_sem] at hc)) | refine z6 rfl ?_ | (refine Qb ?_ ?_; focus kernel_rfl) | ((with_reducible apply And.intro); focus omega) | (refine z5 hK ?_; clear hK; simp only [go_sem, *]) | simp only [z3, z4, go_sem, *])
    all_goals try contradiction
    exact x9 (i' := k + 1) [some 0] [] (i + 1) (by exact ⟨⟨by omega, by omega⟩, hP⟩)
  ·have hi3 : ¬ (i : Int) + M ≤ HS.length := by omega
   rw [hno _ (by omega)] at hP
   subst hP
   clear IH hst hno hin
   repeat' (first | (refine Qr rfl ?_; try intro _ hK; try simp only [go_sem, *]) | refine Qh rfl ?_ | refine Qd rfl (by kernel_rfl) ?_ | (refine Qc rfl rfl ?_ ?_ <;> (intro hb; have hc := hb; try simp only [go_sem] at hc)) | refine z6 rfl ?_ | (refine Qb ?_ ?_; focus kernel_rfl) | ((with_reducible apply And.intro); focus omega) | (refine z5 hK ?_; clear hK; simp only [go_sem, *]) | simp only [z3, z4, go_sem, *])
   all_goals try contradiction
   refine ⟨[_, _], [some 0], [], ⟨rfl, rfl, trivial⟩, ?_⟩
   simp only [go_sem, *]

theorem sp_Settle_ok (s : Story) (h : j5 s = 0) (hne : s0 s ≠ []) (M : Nat) (out : List House) (hM : fewT (settlesT (s0 s) (q6 s.first)) (q6 s.first) M (q6 s.first).length [] = (out, true))
  (hmin : ∀ m, m < M → (fewT (settlesT (s0 s) (q6 s.first)) (q6 s.first) m (q6 s.first).length []).2 = false) (hMn : M ≤ (q6 s.first).length) :
  zNV prog 40 [s.enc] [] (.tup [.list (out.map House.enc), iV 0]) [] := by
 have o := E8 h
 have v := o.first
 have hct := v.count
 have h3 := o.steps
 have hl := J6 h3 (fun w hw => (o.ways w hw).2.1)
 have sa := zAt s h
 have hsm : ∀ t, t ∈ s0 s → ∀ x, x ∈ q6 s.first → (t.now x).length ≤ 1000 := fun t hm x hx => by have := (zDc v t hm).small h3 hx; omega
 have sf := fun m (hm : m ≤ 1000) => sp_fewest s o (s0 s) (by omega) hsm m 0 [] (by simp) (by simp; exact hm) (Nat.zero_le _)
 simp only [Nat.sub_zero] at sf
 have sm : ∀ m, m < M → ∃ q : List House, zNV prog 69 [.ptr 0 0, .list ((s0 s).map (Truth.enc s.first)), .list [], iV 0, iV m] [o5 s] (.tup [.list (q.map House.enc), bV false]) [o5 s] := fun m hm => by
  have a := sf m (by omega)
  rw [hmin m hm] at a
  exact ⟨_, a⟩
 have sM := sf M (by omega)
 rw [hM] at sM
 have hl0 : (((s0 s).length : Int) == 0) = false := by
  have := List.length_pos_iff.2 hne
  rw [beq_eq_false_iff_ne]; omega
 simp only [List.map_nil] at sM
 clear hM hmin sf hsm hne
 generalize s0 s = l at *
 refine z9 func40 rfl (fun E hE => ?_); simp only [go_sem, ntmps40]
 repeat' (first | (refine Qr rfl ?_; try intro _ hK; try simp only [go_sem, *]) | refine Qh rfl ?_ | (refine Qc rfl rfl ?_ ?_ <;> (intro hb; have hc := hb; try simp only [go_sem] at hc)) | refine z6 rfl ?_ | (refine u3 (sa) ?_; simp only [go_sem, *]) | ((with_reducible apply And.intro); focus omega) | (refine z5 hK ?_; clear hK; simp only [go_sem, *]) | simp only [z3, z4, go_sem, *])
 all_goals try contradiction
 refine v5 rfl (M + 1) (fun k => k ≤ M) 33 (fun k => [(7, iV k), (5, .list (l.map (Truth.enc s.first))), (4, .ptr 0 0)]) (fun k => [o5 s]) [some 1] [] (by exact Nat.zero_le _) ?_; intro k hk hP
 by_cases hk : k < M
 ·obtain ⟨q, s1⟩ := sm k hk
  clear sm sM
  repeat' (first | (refine Qr rfl ?_; try intro _ hK; try simp only [go_sem, *]) | refine Qh rfl ?_ | (refine Qc rfl rfl ?_ ?_ <;> (intro hb; have hc := hb; try simp only [go_sem] at hc)) | refine z6 rfl ?_ | (refine l5 [0] (s1) ?_; simp only [go_sem, *]) | ((with_reducible apply And.intro); focus omega) | (refine z5 hK ?_; clear hK; simp only [go_sem, *]) | simp only [z3, z4, go_sem, *])
  all_goals try contradiction
  exact v4 (i' := k + 1) [some 0] [] (by omega)
 ·obtain rfl : k = M := by omega
  clear sm
  repeat' (first | (refine Qr rfl ?_; try intro _ hK; try simp only [go_sem, *]) | refine Qh rfl ?_ | (refine Qc rfl rfl ?_ ?_ <;> (intro hb; have hc := hb; try simp only [go_sem] at hc)) | refine z6 rfl ?_ | (refine l5 [0] (sM) ?_; simp only [go_sem, *]) | ((with_reducible apply And.intro); focus omega) | (refine z5 hK ?_; clear hK; simp only [go_sem, *]) | simp only [z3, z4, go_sem, *])
  all_goals try contradiction
  (refine ⟨[_, _], [], [], ⟨rfl, rfl, trivial⟩, ?_⟩; simp only [go_sem, *])
end Go.Abs

namespace Go.Abs
open Go
set_option maxRecDepth 100000

theorem all_range {n : Nat} {p : Nat → Bool} (h : (List.range n).all p = true) {i : Nat} (hi : i < n) : p i = true := List.all_eq_true.1 h i (List.mem_range.2 hi)
def sA : List Plate := [⟨2, 0⟩, ⟨2, 1⟩]
def sCourt : Change := ⟨7, 0, 2, ⟨2, 0⟩, ⟨4, 0⟩⟩
def sShut : Change := ⟨7, 0, 1, ⟨2, 0⟩, ⟨4, 0⟩⟩
def sDiv : Change := ⟨5, 0, 0, ⟨2, 0⟩, zeroPlate⟩
def sFell : Change := ⟨6, 0, 0, ⟨2, 0⟩, zeroPlate⟩
def sFell6 : Change := ⟨6, 0, 0, ⟨6, 0⟩, zeroPlate⟩
def sJoin0 : Change := ⟨4, 0, 0, zeroPlate, zeroPlate⟩
def sMixed : zNU := [[⟨1, 0⟩, ⟨2, 0⟩, ⟨2, 1⟩, ⟨5, 0⟩], [], []]
def sDivided : zNU := [[⟨1, 0⟩, ⟨2, 0⟩, ⟨2, 1⟩, ⟨3, 0⟩, ⟨4, 0⟩, ⟨5, 0⟩], zNq [1, 2], []]
def sPs : List zNU := [townX, townX, townX, sMixed]
def sCs : List Change := [zJi, sDiv, sCourt, ⟨3, 0, 0, zeroPlate, zeroPlate⟩]
def sQs : List zNU := [[zNq [1, 2, 3, 4, 6], zNq [1, 2], []], sDivided, [zNq [1, 5], zNq [1, 2], zNq [1, 2, 3]], [zNq [1, 2, 3, 4], [], []]]
def sTale1 : Story := ⟨townX, [[zJo, zJi], [W2]], [⟨atX 0 3, atX 0 3⟩]⟩
def sTale2 : Story := ⟨townX, [[zJo, zJi], [W2]], [⟨atX 0 3, atX 0 5⟩]⟩
def sTaleF : Story := ⟨townX, [[sFell]], []⟩
theorem k_check1 : check townX = 0 := by kernel_rfl
theorem k_check2 : check [zNq [2, 1], [], []] = 5 := by kernel_rfl
theorem k_check3 : check [zNq [41], [], []] = 1 := by kernel_rfl
theorem k_check4 : check [] = 7 := by kernel_rfl
theorem k_after : ((List.range 4).all fun i => decide (p7 (sPs.getD i default) (sCs.getD i default) = 0) && decide (u6 (sPs.getD i default) (sCs.getD i default) = sQs.getD i default)) = true := by kernel_rfl
theorem k_err1 : p7 townX sJoin0 = 4 := by kernel_rfl
theorem k_err2 : p7 townX sFell6 = 3 := by kernel_rfl
theorem k_err3 : p7 townX sShut = 12 := by kernel_rfl
theorem k_bec1 : zKk townX zJo (atX 0 1) = [atX 0 5] ∧ zEU townX zJo (atX 0 1) = 0 := by constructor <;> kernel_rfl
theorem k_bec2 : zKk townX sDiv (atX 0 2) = [atX 0 2, ⟨0, ⟨2, 1⟩⟩] ∧ zEU townX sDiv (atX 0 2) = 0 := by constructor <;> kernel_rfl
theorem k_bec3 : zKk townX sFell (atX 0 2) = [] ∧ zEU townX sFell (atX 0 2) = 0 := by constructor <;> kernel_rfl
theorem k_bec4 : zKk townX zJi (atX 1 1) = [atX 1 1] ∧ zEU townX zJi (atX 1 1) = 0 := by constructor <;> kernel_rfl
theorem k_was1 : zOv townX zJo (atX 0 4) = atX 0 2 ∧ zJv townX zJo (atX 0 4) = 0 := by constructor <;> kernel_rfl
theorem k_was2 : zOv townX sDiv ⟨0, ⟨2, 1⟩⟩ = atX 0 2 ∧ zJv townX sDiv ⟨0, ⟨2, 1⟩⟩ = 0 := by constructor <;> kernel_rfl
theorem k_was3 : zOv townX zJi (atX 0 6) = atX 0 5 ∧ zJv townX zJi (atX 0 6) = 0 := by constructor <;> kernel_rfl
theorem k_was4 : zJv townX zJi (atX 0 5) = 3 := by kernel_rfl
theorem k_story1 : j5 sTale1 = 0 := by kernel_rfl
theorem k_story2 : j5 sTale2 = 0 := by kernel_rfl
theorem k_storyF : j5 sTaleF = 0 := by kernel_rfl
theorem k_ways1 : D2 sTale1 = [[0, 0]] := by kernel_rfl
theorem k_ways2 : D2 sTale2 = [] := by kernel_rfl
theorem k_ends : endsOf taleX = [[zNq [1, 2, 3, 4, 5, 7, 8], [], []], [zNq [1, 2, 3, 4, 6, 7, 8], [], []]] := by kernel_rfl
theorem k_truths : (s0 taleX).length = 2 := by kernel_rfl
theorem k_ne : s0 taleX ≠ [] := fun h => by have := k_truths; rw [h] at this; cases this
theorem k_where9 : N3 taleX (atX 0 9) = 3 := by
 unfold N3
 rw [if_pos zA6, if_neg (by decide)]
theorem k_where9n : (S4 taleX (atX 0 9)).Nodup := of_decide_eq_true (by kernel_rfl)
theorem k_where9l : (S4 taleX (atX 0 9)).length ≤ 12 := of_decide_eq_true (by kernel_rfl)
theorem k_whenceL : whenceL taleX (atX 0 2) = [atX 0 4, atX 0 1] := by kernel_rfl
theorem k_whence9L : whenceL taleX (atX 0 9) = [] := by kernel_rfl
theorem k_whence : whenceR taleX (atX 0 2) = [atX 0 1, atX 0 4] ∧ whenceErr taleX (atX 0 2) = 0 := by
 unfold whenceR whenceErr
 rw [if_pos zA6, if_neg k_ne, if_pos zA6, if_neg k_ne, k_whenceL, if_neg (by simp)]
 exact ⟨by decide, rfl⟩
theorem k_whence9 : whenceErr taleX (atX 0 9) = 3 := by
 unfold whenceErr
 rw [if_pos zA6, if_neg k_ne, k_whence9L, if_pos rfl]
theorem k_whereE (h : House) (hh : h ∈ q6 townX) : N3 taleX h = 0 := by
 unfold N3
 have hh2 : h ∈ q6 taleX.first := hh
 rw [if_pos zA6, if_pos hh2, if_neg k_ne]
theorem k_verd1 : verdN taleX (atX 1 1) (atX 0 7) = 2 := by kernel_rfl
theorem k_verd2 : verdN taleX (atX 0 3) (atX 0 3) = 1 := by kernel_rfl
theorem k_verd3 : verdN taleX (atX 0 3) (atX 1 1) = 0 := by kernel_rfl
theorem k_verdR {h to : House} (hh : h ∈ q6 townX) {n : Nat} (e : verdN taleX h to = n) : verdR taleX h to = verdOf n 2 ∧ N3 taleX h = 0 := by
 unfold verdR
 rw [if_pos (k_whereE h hh), e, k_truths]
 exact ⟨rfl, k_whereE h hh⟩
theorem k_lostB : ((q6 townX).filter (lostH (s0 taleX))) = [] := by kernel_rfl
theorem k_lostF : ((q6 townX).filter (lostH (s0 sTaleF))) = [atX 0 2] := by kernel_rfl
theorem k_truthsF : (s0 sTaleF).length = 1 := by kernel_rfl
theorem k_lost1 : lostOf taleX = [] ∧ lostErr taleX = 0 := by
 unfold lostOf lostErr
 rw [if_pos zA6, if_neg k_ne, if_pos zA6, if_neg k_ne]
 exact ⟨k_lostB, rfl⟩
theorem k_lost2 : lostOf sTaleF = [atX 0 2] ∧ lostErr sTaleF = 0 := by
 have hne : s0 sTaleF ≠ [] := fun h => by have := k_truthsF; rw [h] at this; cases this
 unfold lostOf lostErr
 rw [if_pos k_storyF, if_neg hne, if_pos k_storyF, if_neg hne]
 exact ⟨k_lostF, rfl⟩
theorem k_ask : I5 sTale1 = none := by kernel_rfl
theorem k_settle : fewT (settlesT (s0 taleX) (q6 taleX.first)) (q6 taleX.first) 1 (q6 taleX.first).length [] = ([atX 0 1], true) := by kernel_rfl
theorem k_settle0 : ∀ m, m < 1 → (fewT (settlesT (s0 taleX) (q6 taleX.first)) (q6 taleX.first) m (q6 taleX.first).length []).2 = false := fun m hm => by
 obtain rfl : m = 0 := by omega
 kernel_rfl
def sG1 : zNU := [zNq [1, 2, 3, 4, 6], zNq [1, 2], []]
def sG3 : zNU := [zNq [9], zNq [9], zNq [9]]
theorem k_guess1 : R6 townX sG1 = some [zJi] ∧ d5 townX sG1 = 0 := by constructor <;> kernel_rfl
theorem k_guess2 : R6 townX townX = some [] ∧ d5 townX townX = 0 := by constructor <;> kernel_rfl
theorem k_guess3 : d5 townX sG3 = 11 := by kernel_rfl
theorem k_write : n0 townX = [91, 49, 32, 50, 32, 51, 32, 52, 32, 53, 93, 91, 49, 32, 50, 93, 91, 93, 10] := by kernel_rfl
def sTs : List Str := [[91, 49, 32, 48, 50, 93], [91, 49], [91, 49, 93]]
def sNs : List Int := [3, 2, 3]
theorem k_read : ((List.range 3).all fun i => decide (T6 (sTs.getD i default) = 2) && (decide ((F5 (sTs.getD i default) : Int) = sNs.getD i default) && decide (F6 (sTs.getD i default) = []))) = true := by kernel_rfl
theorem k_read1 : F6 [91, 49, 32, 50, 97, 93, 91, 93, 10] = [[⟨1, 0⟩, ⟨2, 1⟩], []] ∧ F5 [91, 49, 32, 50, 97, 93, 91, 93, 10] = 0 ∧ T6 [91, 49, 32, 50, 97, 93, 91, 93, 10] = 0 := by refine ⟨?_, ?_, ?_⟩ <;> kernel_rfl
structure Stop (p : Prop) : Prop where
 it : p
theorem stop_at {P : Program} {E : Env} {b : Code} {Q : Exit → AS → Prop} {σ : AS} (p : List Nat) (h : Stop (Hold P E (sub p b) Q σ)) : Hold P E (sub p b) Q σ := h.it
end Go.Abs

namespace Go.Abs
open Go Go.Proofs Tryz
attribute [local irreducible] q8 Hold y4
set_option maxRecDepth 10000
set_option maxHeartbeats 4000000

theorem look_house_ok {h : House} {hs : List House} {F : House → AV} {o : Nat} {H : Nat → AObj} {K : Cont} (ho : H o = .mapo (hs.map House.key) (hs.map F)) (hw : ∀ k, k ∈ hs → k.Wf) (hh : h.Wf)
  (hk : K (.tup [if h ∈ hs then F h else .list [], bV (decide (h ∈ hs))]) [o] []) : Q8 prog 117 (.mp o) h.enc true H K := by
 obtain ⟨et, h1, h2⟩ := zAT
 unfold Q8
 rw [h1, zAI]
 simp only [h2, ho]
 refine ⟨zAJ, R9 h hh, by simp [Value.cells, Value.oneCell'], fun q hq => ?_, ?_⟩
 ·obtain ⟨k, hk, rfl⟩ := List.mem_map.1 hq; exact R9 k (hw k hk)
 ·rw [zG1, hasA_key]; simpa [zAV] using hk

theorem sp_Becomes (p : zNU) (c : Change) (h : House) (hp : p.length ≤ 4294967296) (hwf : h.Wf) :
  zNV prog 26 [y3 p, c.enc, h.enc] [] (.tup [.list ((zKk p c h).map House.enc), iV (zEU p c h)]) [] := by
 obtain ⟨s1, s2⟩ := zJH p c hp
 by_cases e : p7 p c = 0
 ·have s := s2 e
  have hc : check p = 0 := by
   unfold p7 at e
   split at e <;> assumption
  have v := (Q1 p).1 hc
  have hcan : can p c = 0 := by unfold p7 at e; rw [if_pos hc] at e; exact e
  have f := Fit.of_can hcan
  have hw := v.wf
  clear s1 s2
  by_cases hm : h ∈ q6 p
  ·have e1 : zEU p c h = 0 := by unfold zEU; rw [if_pos e, if_pos hm]
   have e2 : zKk p c h = p5 (mv p c h) := by unfold zKk; rw [if_pos e1]
   have ss := zDI (mv p c h) (zCQ f hm) (by have := zAU f h; omega)
   rw [e1, e2]
   clear e e1 e2
   have hd : decide (h ∈ q6 p) = true := by simpa using hm
   refine z9 func26 rfl (fun E hE => ?_); simp only [go_sem, ntmps26]
   repeat' (first | (refine Qr rfl ?_; try intro _ hK; try simp only [go_sem, *]) | refine Qh rfl ?_ | (refine Qc rfl rfl ?_ ?_ <;> (intro hb; have hc := hb; try simp only [go_sem] at hc)) | refine z6 rfl ?_ | (refine u3 (s) ?_; simp only [go_sem, *]) | ((with_reducible apply And.intro); focus omega) | (refine z5 hK ?_; clear hK; simp only [go_sem, *]) | simp only [z3, z4, go_sem, *])
   all_goals try contradiction
   refine look_house_ok (h := h) (hs := q6 p) (F := zNY (mv p c)) (by simp only [go_sem]) hw hwf ?_
   rw [if_pos hm, zNY, hd]
   repeat' (first | (refine Qr rfl ?_; try intro _ hK; try simp only [go_sem, *]) | refine Qh rfl ?_ | (refine Qc rfl rfl ?_ ?_ <;> (intro hb; have hc := hb; try simp only [go_sem] at hc)) | refine z6 rfl ?_ | (refine z8 (ss) ?_; simp only [go_sem, *]) | ((with_reducible apply And.intro); focus omega) | (refine z5 hK ?_; clear hK; simp only [go_sem, *]) | simp only [z3, z4, go_sem, *])
   all_goals try contradiction
   (refine ⟨[_, _], [], [], ⟨rfl, rfl, trivial⟩, ?_⟩; simp only [go_sem, *])
  ·have e1 : zEU p c h = 3 := by unfold zEU; rw [if_pos e, if_neg hm]
   have e2 : zKk p c h = [] := by unfold zKk; rw [e1]; rfl
   rw [e1, e2]
   clear e e1 e2
   have hd : decide (h ∈ q6 p) = false := by simpa using hm
   refine z9 func26 rfl (fun E hE => ?_); simp only [go_sem, ntmps26]
   repeat' (first | (refine Qr rfl ?_; try intro _ hK; try simp only [go_sem, *]) | refine Qh rfl ?_ | (refine Qc rfl rfl ?_ ?_ <;> (intro hb; have hc := hb; try simp only [go_sem] at hc)) | refine z6 rfl ?_ | (refine u3 (s) ?_; simp only [go_sem, *]) | ((with_reducible apply And.intro); focus omega) | (refine z5 hK ?_; clear hK; simp only [go_sem, *]) | simp only [z3, z4, go_sem, *])
   all_goals try contradiction
   refine look_house_ok (h := h) (hs := q6 p) (F := zNY (mv p c)) (by simp only [go_sem]) hw hwf ?_
   rw [if_neg hm, hd]
   repeat' (first | (refine Qr rfl ?_; try intro _ hK; try simp only [go_sem, *]) | refine Qh rfl ?_ | (refine Qc rfl rfl ?_ ?_ <;> (intro hb; have hc := hb; try simp only [go_sem] at hc)) | refine z6 rfl ?_ | ((with_reducible apply And.intro); focus omega) | (refine z5 hK ?_; clear hK; simp only [go_sem, *]) | simp only [z3, z4, go_sem, *])
   all_goals try contradiction
   (refine ⟨[_, _], [], [], ⟨rfl, rfl, trivial⟩, ?_⟩; simp only [go_sem, *])
 ·have s := s1 e
  have e1 : zEU p c h = p7 p c := by unfold zEU; rw [if_neg e]
  have e2 : zKk p c h = [] := by unfold zKk; rw [e1, if_neg e]
  have e3 : (p7 p c == 0) = false := by rw [beq_eq_false_iff_ne]; exact e
  rw [e1, e2]
  clear s1 s2 e1 e2
  generalize p7 p c = er at *
  refine z9 func26 rfl (fun E hE => ?_); simp only [go_sem, ntmps26]
  repeat' (first | (refine Qr rfl ?_; try intro _ hK; try simp only [go_sem, *]) | refine Qh rfl ?_ | (refine Qc rfl rfl ?_ ?_ <;> (intro hb; have hc := hb; try simp only [go_sem] at hc)) | refine z6 rfl ?_ | (refine z8 (s) ?_; simp only [go_sem, *]) | ((with_reducible apply And.intro); focus omega) | (refine z5 hK ?_; clear hK; simp only [go_sem, *]) | simp only [z3, z4, go_sem, *])
  all_goals try contradiction
  (refine ⟨[_, _], [], [], ⟨rfl, rfl, trivial⟩, ?_⟩; simp only [go_sem, *])
end Go.Abs

namespace Go.Abs
open Go Go.Proofs Tryz
attribute [local irreducible] q8 Hold y4
set_option maxRecDepth 10000
set_option maxHeartbeats 4000000

theorem spec_map0 {P : Program} {f : FuncId} {args : List AV} {x : Value} {ks : List Value} {xs : List AV} (sp : zNV P f args [] (.tup [.mp 0, .raw x]) [.mapo ks xs]) : zNV P f args [] (.tup [.fmap ks xs, .raw x]) [.dead] := by
 intro w I loc vs hs hl hv
 refine (sp w I loc vs hs hl hv).mono ?_
 rintro e w' ⟨v, I', loc', rfl, hp⟩
 have hsr := hp.sr.freeze [0]
 have hval := hp.val
 cases hval with
 | pure h => cases h
 | tup cs vs' hc hcs =>
  have h0 := hcs 0 (by simp) (by rw [← hc]; simp)
  have h1 := hcs 1 (by simp) (by rw [← hc]; simp)
  have g0 := zBo hp.sr (fs := [0]) (n := 3) h0 (fun o ho => ho)
  have g1 : VR w' (zNg (Go.Abs.hs [.mapo ks xs]).obj (· ∈ [0]) loc' I') loc' (.raw x) (vs'[1]'(by rw [← hc]; simp)) := by
   cases h1 with
   | pure h => exact .pure (h.mono (fun _ _ => rfl) (fun b hb => .inl hb))
  refine ⟨_, _, loc', rfl, ⟨hsr.congr rfl (fun t => rfl) (fun o => ?_), .tup [_, _] vs' hc (fun i h h' => ?_), by simp⟩⟩
  ·by_cases ho : 0 = o
   ·subst ho; rfl
   ·simp [Go.Abs.hs, zNf, AS.obj, lkO, o9, AS.setO, ho]
  ·match i, h with
   | 0, _ => exact g0
   | 1, _ => exact g1
def WaP (hs rem : List House) (g : House → List House) (h : House) (i : Nat) : Prop := rem.length + i = hs.length ∧ (∀ x, x ∈ rem → x ∈ hs) ∧ ∀ x, x ∈ hs → x ∈ rem ∨ h ∉ g x
theorem sp_Was_go (p : zNU) (c : Change) (h : House) (v : Valid p) (f : Fit p c) (he : p7 p c = 0) (R : AV) (hR : ∀ x, zDi p c h = some x → R = .tup [x.enc, iV 0]) (hN : zDi p c h = none → R = .tup [zDp.enc, iV 3]) :
  zNV prog 29 [y3 p, c.enc, h.enc] [] R [] := by
 have s := spec_map0 ((zJH p c (by have := v.len; omega)).2 he)
 have hmt : (zNr prog 117).isSome = true := by kernel_rfl
 have h0 : WaP (q6 p) (q6 p) (mv p c) h 0 := ⟨rfl, fun x hx => hx, fun x hx => .inl hx⟩
 have hml := mv_len_all p c
 have hwu := fun x (hx : x ∈ q6 p) hm => was_uniq (h := h) v f hx hm
 refine z9 func29 rfl (fun E hE => ?_); simp only [go_sem, ntmps29]
 repeat' (first | (refine Qr rfl ?_; try intro _ hK; try simp only [go_sem, *]) | refine Qh rfl ?_ | (refine Qc rfl rfl ?_ ?_ <;> (intro hb; have hc := hb; try simp only [go_sem] at hc)) | refine z6 rfl ?_ | (refine u3 (s) ?_; simp only [go_sem, *]) | ((with_reducible apply And.intro); focus omega) | (refine z5 hK ?_; clear hK; simp only [go_sem, *]) | simp only [z3, z4, go_sem, *])
 all_goals try contradiction
 clear s he f
 refine zAQ rfl ((q6 p).length) (fun i (cur : Option (Value × AV)) (rem : List House) => WaP (q6 p) rem (mv p c) h i) 34 (fun i cur rem => [(5, .ptr 0 0), (6, .ptr 1 0), (23, .ptr 2 0)]) (fun i cur rem => [.box [iV h.street, iV h.plate.number, iV h.plate.letter], .box [iV 0, iV 0, iV 0], .iter cur (rem.map House.key) (rem.map (zNY (mv p c)))]) [some 2, some 3, some 5] [] (none) (q6 p) (by exact h0) ?_; intro i cur rem hi hP
 clear h0
 refine O7 rfl ?_
 refine E3 (o := 2) rfl rfl rfl rfl rfl rfl rfl cur (rem.map House.key) (rem.map (zNY (mv p c))) (by simp only [go_sem]) (by simp only [go_sem]) (show (24 : Nat) < 34 by decide) (show (25 : Nat) < 34 by decide) (fun hk0 _ => ?_) (fun r hr1 hr2 => ?_)
 ·obtain rfl : rem = [] := by simpa using hk0
  have e := hN (was_not (fun x hx => (hP.2.2 x hx).resolve_left (by simp)))
  subst e
  clear hP hR hN
  simp only [go_sem]
  repeat' (first | (refine Qr rfl ?_; try intro _ hK; try simp only [go_sem, *]) | refine Qh rfl ?_ | (refine Qc rfl rfl ?_ ?_ <;> (intro hb; have hc := hb; try simp only [go_sem] at hc)) | refine z6 rfl ?_ | ((with_reducible apply And.intro); focus omega) | (refine z5 hK ?_; clear hK; simp only [go_sem, *]) | simp only [z3, z4, go_sem, *])
  refine ⟨[zDp.enc, iV 3], [], [], ⟨(by simp only [x7, go_sem, zDp]), rfl, trivial⟩, ?_⟩; simp only [go_sem, *]
 ·obtain ⟨hr, hrk, hrx⟩ : ∃ hr : r < rem.length, (rem.map House.key)[r] = (rem[r]).key ∧ (rem.map (zNY (mv p c)))[r] = .list ((mv p c rem[r]).map House.enc) := ⟨by simpa using hr1, by simp, by simp [zNY]⟩
  rw [hrk, hrx, ← Y0, ← Y0]
  obtain ⟨hlen0, hsub, hnot⟩ := hP
  have hq : (rem[r] :: rem.eraseIdx r).Perm rem := (B5 rem r hr).symm
  have hel : (rem.eraseIdx r).length = rem.length - 1 := List.length_eraseIdx_of_lt hr
  clear hrk hrx
  generalize rem.eraseIdx r = rem' at *
  generalize rem[r] = x at *
  have hx := hsub x (hq.mem_iff.1 (by simp))
  have sc := zAn (mv p c x) h (by have := hml x; omega)
  by_cases q : h ∈ mv p c x
  ·have e := hR x (hwu x hx q)
   rw [decide_eq_true q] at sc
   subst e
   clear hR hN q hsub hnot hq
   simp only [go_sem]
   repeat' (first | (refine Qr rfl ?_; try intro _ hK; try simp only [go_sem, *]) | refine Qh rfl ?_ | (refine Qc rfl rfl ?_ ?_ <;> (intro hb; have hc := hb; try simp only [go_sem] at hc)) | refine z6 rfl ?_ | (refine z8 (sc) ?_; simp only [go_sem, *]) | ((with_reducible apply And.intro); focus omega) | (refine z5 hK ?_; clear hK; simp only [go_sem, *]) | simp only [z3, z4, go_sem, *])
   all_goals try contradiction
   refine ⟨[x.enc, iV 0], [], [], ⟨(by simp only [x7, go_sem]), rfl, trivial⟩, ?_⟩; simp only [go_sem, *]
  ·rw [decide_eq_false q] at sc
   have hP2 : WaP (q6 p) rem' (mv p c) h (i + 1) := ⟨by omega, fun z hz => hsub z (hq.mem_iff.1 (by simp [hz])), fun z hz => (hnot z hz).elim (fun hz => by
    rcases List.mem_cons.1 (hq.mem_iff.2 hz) with rfl | hz
    ·exact .inr q
    ·exact .inl hz) .inr⟩
   clear hR hN q hsub hnot hq
   simp only [go_sem]
   repeat' (first | (refine Qr rfl ?_; try intro _ hK; try simp only [go_sem, *]) | refine Qh rfl ?_ | (refine Qc rfl rfl ?_ ?_ <;> (intro hb; have hc := hb; try simp only [go_sem] at hc)) | refine z6 rfl ?_ | (refine z8 (sc) ?_; simp only [go_sem, *]) | ((with_reducible apply And.intro); focus omega) | (refine z5 hK ?_; clear hK; simp only [go_sem, *]) | simp only [z3, z4, go_sem, *])
   all_goals try contradiction
   exact T3 (i' := i + 1) [some 0, some 1, some 2] [] ((some (x.key, .list ((mv p c x).map House.enc)))) (rem') (by exact hP2)
theorem sp_Was (p : zNU) (c : Change) (h : House) (hp : p.length ≤ 4294967296) :
  zNV prog 29 [y3 p, c.enc, h.enc] [] (.tup [(zOv p c h).enc, iV (zJv p c h)]) [] := by
 rcases @was_case p c h with ⟨e, h1, h2⟩ | ⟨e, m, h1, h2⟩ | ⟨e, h1, h2⟩
 ·rw [h1, h2]
  have s := (zJH p c hp).1 e
  have q' : (p7 p c != 0) = true := by simpa using e
  clear e h1 h2
  generalize p7 p c = lE0l at *
  refine z9 func29 rfl (fun E hE => ?_); simp only [go_sem, ntmps29]
  repeat' (first | (refine Qr rfl ?_; try intro _ hK; try simp only [go_sem, *]) | refine Qh rfl ?_ | (refine Qc rfl rfl ?_ ?_ <;> (intro hb; have hc := hb; try simp only [go_sem] at hc)) | refine z6 rfl ?_ | (refine z8 (s) ?_; simp only [go_sem, *]) | ((with_reducible apply And.intro); focus omega) | (refine z5 hK ?_; clear hK; simp only [go_sem, *]) | simp only [z3, z4, go_sem, *])
  all_goals try contradiction
  refine ⟨[zDp.enc, iV lE0l], [], [], ⟨(by simp only [x7, go_sem, zDp]), rfl, trivial⟩, ?_⟩; simp only [go_sem, *]
 ·obtain ⟨v, f⟩ := err_zero e
  rw [h1, h2]; exact sp_Was_go p c h v f e _ (fun x hx => by rw [m] at hx; cases hx) (fun _ => rfl)
 ·obtain ⟨v, f⟩ := err_zero e
  rw [h1]; exact sp_Was_go p c h v f e _ (fun x hx => by rw [h2] at hx; cases hx; rfl) (fun hx => by rw [h2] at hx; cases hx)
end Go.Abs

namespace Go.Abs
open Go Go.Proofs Tryz
attribute [local irreducible] q8 Hold y4
set_option maxRecDepth 10000
set_option maxHeartbeats 4000000

def mxN (k m : Nat) : Nat := if k < m then m else k + 1
theorem mxN_eq (k m : Nat) : mxN k m = if k < m then m else k + 1 := rfl
theorem nxM_cons (m k : Nat) (A : AObj) (r : List (Nat × AObj)) : nxF m ((k, A) :: r) = nxF (mxN k m) r := rfl
theorem nxM_nil (m : Nat) : nxF m [] = m := rfl
theorem sp_rowN (l : List Int) (h1 : l.length ≤ 1000) : zNV prog 20 [l6 l] [] (.own 0 2 0 l.length) [.row 2 ((zNq l).map Plate.enc)] := by
 refine z9 func20 rfl (fun E hE => ?_); simp only [go_sem, ntmps20]
 repeat' (first | (refine Qr rfl ?_; try intro _ hK; try simp only [go_sem, *]) | refine Qh rfl ?_ | (refine Qc rfl rfl ?_ ?_ <;> (intro hb; have hc := hb; try simp only [go_sem] at hc)) | refine z6 rfl ?_ | ((with_reducible apply And.intro); focus omega) | (refine z5 hK ?_; clear hK; simp only [go_sem, *]) | simp only [z3, z4, go_sem, *])
 refine v9 rfl (l.length) (fun i (acc : List Plate) => acc ++ zNq (l.drop i) = zNq l) 20 (fun i acc => [(4, iV i), (3, .own 0 2 0 acc.length), (0, l6 l)]) (fun i acc => [.row 2 (acc.map Plate.enc)]) [none] [] ([]) (by simp) ?_; intro i acc hi hP
 have hlen := congrArg List.length hP
 simp only [zNq, List.length_append, List.length_map, List.length_drop] at hlen
 repeat' (first | (refine Qr rfl ?_; try intro _ hK; try simp only [go_sem, *]) | refine Qh rfl ?_ | (refine Qc rfl rfl ?_ ?_ <;> (intro hb; have hc := hb; try simp only [go_sem] at hc)) | refine z6 rfl ?_ | ((with_reducible apply And.intro); focus omega) | (refine z5 hK ?_; clear hK; simp only [go_sem, *]) | simp only [z3, z4, go_sem, *])
 ·have hi2 : i < l.length := by assumption
  exact x9 (i' := i + 1) [some 2] [] (acc ++ [⟨l.getD i default, 0⟩]) (by rw [← hP, v3 hi2]; simp [zNq])
 ·rw [u0 (by omega)] at hP
  have hP2 : acc = zNq l := by simpa [zNq] using hP
  subst hP2
  have hl : (zNq l).length = l.length := by simp [zNq]
  refine ⟨[_], [some 0], [], ⟨rfl, trivial⟩, ?_⟩
  simp only [go_sem, *]
theorem sp_tale1 (f : Fact) : zNV prog 31 [.list [f.enc]] [] (Story.enc ⟨townX, [[zJo, zJi], [W2]], [f]⟩) [] := by
 refine z9 func31 rfl (fun E hE => ?_); simp only [go_sem, ntmps31]
 repeat' (first | (refine Qr rfl ?_; try intro _ hK; try simp only [go_sem, *]) | refine Qh rfl ?_ | (refine Qc rfl rfl ?_ ?_ <;> (intro hb; have hc := hb; try simp only [go_sem] at hc)) | refine z6 rfl ?_ | ((first | refine z8 (zDJ) ?_ | refine z8 (zJV 0) ?_ | refine z8 (zJP 0) ?_ | refine z8 (zDG 1 0) ?_); simp only [go_sem, *]) | ((with_reducible apply And.intro); focus omega) | (refine z5 hK ?_; clear hK; simp only [go_sem, *]) | simp only [z3, z4, go_sem, *])
 refine ⟨[.agg [.list (townX.map q9), .own 3 1 0 2, .list [f.enc]]], [], [3], ⟨by simp only [x7, go_sem], trivial⟩, ?_⟩
 simp only [go_sem, *]
 rfl
theorem y_after {i : Nat} (h : i < 4) : zNV prog 23 [y3 (sPs.getD i default), (sCs.getD i default).enc] [] (.tup [y3 (sQs.getD i default), iV 0]) [] := by
 have l : ((List.range 4).all fun i => decide ((sPs.getD i default).length ≤ 1000)) = true := by kernel_rfl
 have l2 := of_decide_eq_true (all_range l h)
 have := zIS (sPs.getD i default) (sCs.getD i default) (by omega)
 have h2 := all_range k_after h
 rw [Bool.and_eq_true] at h2
 have e := of_decide_eq_true h2.1
 rw [if_pos e, e, of_decide_eq_true h2.2] at this
 exact this
theorem y_eqp {i : Nat} (h : i < 4) : zNV prog 16 [y3 (sQs.getD i default), y3 (sQs.getD i default)] [] (bV true) [] := by
 have l : ((List.range 4).all fun i => decide ((sQs.getD i default).length ≤ 1000) && (sQs.getD i default).all fun l => decide (l.length ≤ 1000)) = true := by kernel_rfl
 have l2 := all_range l h
 rw [Bool.and_eq_true] at l2
 have ll3l := of_decide_eq_true l2.1
 have := zC4 (sQs.getD i default) (sQs.getD i default) (by omega) (fun l hl => by have := of_decide_eq_true (List.all_eq_true.1 l2.2 l hl); omega)
 rw [decide_eq_true rfl] at this
 exact this
theorem y_aft {c : Change} {e : Int} (h : p7 townX c = e) (h0 : ¬ e = 0) : zNV prog 23 [y3 townX, c.enc] [] (.tup [y3 [], iV e]) [] := by
 have := zIS townX c (by decide)
 rw [h, if_neg h0] at this
 exact this
theorem y_bec {c : Change} {h : House} {l : List House} (e : zKk townX c h = l ∧ zEU townX c h = 0) (w : h.Wf) : zNV prog 26 [y3 townX, c.enc, h.enc] [] (.tup [.list (l.map House.enc), iV 0]) [] := by
 have := sp_Becomes townX c h (by decide) w
 rw [e.1, e.2] at this
 exact this
theorem y_was {c : Change} {h x : House} {k : Int} (e : zOv townX c h = x ∧ zJv townX c h = k) : zNV prog 29 [y3 townX, c.enc, h.enc] [] (.tup [x.enc, iV k]) [] := by
 have := sp_Was townX c h (by decide)
 rw [e.1, e.2] at this
 exact this
end Go.Abs

namespace Go.Abs
open Go Go.Proofs Tryz
attribute [local irreducible] q8 Hold y4
set_option maxRecDepth 10000
set_option maxHeartbeats 4000000

def wideL (p : zNU) : Bool := p.any fun l => decide (20 < l.length)
def wideB (p : zNU) : Bool := decide (20 < p.length) || wideL p
end Go.Abs

namespace Go.Abs
open Go Go.Proofs Tryz
attribute [local irreducible] q8 Hold y4
set_option maxRecDepth 10000
set_option maxHeartbeats 4000000

@[reducible] def tBox (p : zNU) (t : Truth) : AObj := .box [.list (t.ways.map iV), .list (t.fin.map q9), .fmap (y7 p) (y6 p t.now)]
theorem sp_Ends1 (p q : zNU) (t : Truth) (h1 : q.length ≤ 4294967296) (h2 : ∀ l, l ∈ q → l.length ≤ 4294967296) : zNV prog 62 [y3 q, .ptr 0 0] [tBox p t] (bV (decide (q = t.fin))) [tBox p t] := by
 have ss := zJN q t.fin h1 h2
 generalize decide (q = t.fin) = b at *
 refine z9 func62 rfl (fun E hE => ?_); simp only [go_sem, ntmps62]
 repeat' (first | (refine Qr rfl ?_; try intro _ hK; try simp only [go_sem, *]) | refine Qh rfl ?_ | (refine Qc rfl rfl ?_ ?_ <;> (intro hb; have hc := hb; try simp only [go_sem] at hc)) | refine z6 rfl ?_ | (refine z8 (ss) ?_; simp only [go_sem, *]) | ((with_reducible apply And.intro); focus omega) | (refine z5 hK ?_; clear hK; simp only [go_sem, *]) | simp only [z3, z4, go_sem, *])
 all_goals try contradiction
 refine ⟨[_], [some 0], [], ⟨rfl, trivial⟩, ?_⟩
 simp only [go_sem, *]
def idxQ : List zNU → zNU → Nat → Int
 | [], _, _ => -1
 | x :: r, q, i => if x = q then i else idxQ r q (i + 1)
theorem idxQ_ge (q : zNU) : ∀ (l : List zNU) (i : Nat), decide (idxQ l q i ≥ 0) = decide (q ∈ l)
 | [], i => by simp [idxQ]
 | x :: r, i => by
  rw [idxQ]
  by_cases e : x = q
  ·rw [if_pos e]; simp [e]
  ·rw [if_neg e, idxQ_ge q r (i + 1)]
   have e2 : ¬ q = x := fun h => e h.symm
   simp [e2]
theorem sp_IndexFunc (p : zNU) (l : List zNU) (t : Truth) (hl : l.length ≤ 1000) (h1 : ∀ q, q ∈ l → q.length ≤ 4294967296) (h2 : ∀ q, q ∈ l → ∀ x, x ∈ q → x.length ≤ 4294967296) :
  zNV prog 93 [.own 0 1 0 l.length, .fn 62 [.ptr 1 0]] [.row 1 (l.map y3), tBox p t] (iV (idxQ l t.fin 0)) [.row 1 (l.map y3), tBox p t] := by
 have hca : r8 prog 62 = true := by kernel_rfl
 have hw1 : IntKind.i64.wrap (-1) = (-1 : Int) := wrap_i64 (by omega) (by omega)
 have h0 : idxQ (l.drop 0) t.fin 0 = idxQ l t.fin 0 := rfl
 generalize idxQ l t.fin 0 = R at *
 refine z9 func93 rfl (fun E hE => ?_); simp only [go_sem, ntmps93]
 repeat' (first | (refine Qr rfl ?_; try intro _ hK; try simp only [go_sem, *]) | refine Qh rfl ?_ | (refine Qc rfl rfl ?_ ?_ <;> (intro hb; have hc := hb; try simp only [go_sem] at hc)) | refine z6 rfl ?_ | ((with_reducible apply And.intro); focus omega) | (refine z5 hK ?_; clear hK; simp only [go_sem, *]) | simp only [z3, z4, go_sem, *])
 all_goals try contradiction
 refine v5 rfl (l.length) (fun i => idxQ (l.drop i) t.fin i = R) 19 (fun i => [(8, iV i), (7, iV l.length), (1, .fn 62 [.ptr 1 0]), (0, .own 0 1 0 l.length)]) (fun i => [.row 1 (l.map y3), tBox p t]) [some 0, some 1] [] (by exact h0) ?_; intro i hi hP
 clear h0
 by_cases hi : i < l.length
 ·have hi3 : (i : Int) < l.length := by omega
  have hm := w5 hi
  have sE := sp_Ends1 p (l.getD i default) t (h1 _ hm) (h2 _ hm)
  rw [v3 hi, idxQ] at hP
  clear h1 h2 hm
  by_cases q : l.getD i default = t.fin
  ·rw [decide_eq_true q] at sE
   rw [if_pos q] at hP
   subst hP
   clear q
   repeat' (first | (refine Qr rfl ?_; try intro _ hK; try simp only [go_sem, *]) | refine Qh rfl ?_ | (refine Qc rfl rfl ?_ ?_ <;> (intro hb; have hc := hb; try simp only [go_sem] at hc)) | refine z6 rfl ?_ | (refine l5 [1] (sE) ?_; simp only [go_sem, *]) | ((with_reducible apply And.intro); focus omega) | (refine z5 hK ?_; clear hK; simp only [go_sem, *]) | simp only [z3, z4, go_sem, *])
   all_goals try contradiction
   refine ⟨[_], [some 0, some 1], [], ⟨rfl, trivial⟩, ?_⟩
   simp only [go_sem, *]
  ·rw [decide_eq_false q] at sE
   rw [if_neg q] at hP
   clear q
   repeat' (first | (refine Qr rfl ?_; try intro _ hK; try simp only [go_sem, *]) | refine Qh rfl ?_ | (refine Qc rfl rfl ?_ ?_ <;> (intro hb; have hc := hb; try simp only [go_sem] at hc)) | refine z6 rfl ?_ | (refine l5 [1] (sE) ?_; simp only [go_sem, *]) | ((with_reducible apply And.intro); focus omega) | (refine z5 hK ?_; clear hK; simp only [go_sem, *]) | simp only [z3, z4, go_sem, *])
   all_goals try contradiction
   exact v4 (i' := i + 1) [some 0, some 1] [] (by exact hP)
 ·have hi3 : ¬ (i : Int) < l.length := by omega
  rw [u0 (by omega), idxQ] at hP
  subst hP
  repeat' (first | (refine Qr rfl ?_; try intro _ hK; try simp only [go_sem, *]) | refine Qh rfl ?_ | (refine Qc rfl rfl ?_ ?_ <;> (intro hb; have hc := hb; try simp only [go_sem] at hc)) | refine z6 rfl ?_ | ((with_reducible apply And.intro); focus omega) | (refine z5 hK ?_; clear hK; simp only [go_sem, *]) | simp only [z3, z4, go_sem, *])
  all_goals try contradiction
  refine ⟨[_], [some 0, some 1], [], ⟨rfl, trivial⟩, ?_⟩
  simp only [go_sem, *]
theorem sp_ContainsFunc (p : zNU) (l : List zNU) (t : Truth) (hl : l.length ≤ 1000) (h1 : ∀ q, q ∈ l → q.length ≤ 4294967296) (h2 : ∀ q, q ∈ l → ∀ x, x ∈ q → x.length ≤ 4294967296) :
  zNV prog 61 [.own 0 1 0 l.length, .fn 62 [.ptr 1 0]] [.row 1 (l.map y3), tBox p t] (bV (decide (t.fin ∈ l))) [.row 1 (l.map y3), tBox p t] := by
 have sI := sp_IndexFunc p l t hl h1 h2
 rw [← idxQ_ge t.fin l 0]
 generalize idxQ l t.fin 0 = k at *
 refine z9 func61 rfl (fun E hE => ?_); simp only [go_sem, ntmps61]
 repeat' (first | (refine Qr rfl ?_; try intro _ hK; try simp only [go_sem, *]) | refine Qh rfl ?_ | (refine Qc rfl rfl ?_ ?_ <;> (intro hb; have hc := hb; try simp only [go_sem] at hc)) | refine z6 rfl ?_ | (refine l5 [0, 1] (sI) ?_; simp only [go_sem, *]) | ((with_reducible apply And.intro); focus omega) | (refine z5 hK ?_; clear hK; simp only [go_sem, *]) | simp only [z3, z4, go_sem, *])
 all_goals try contradiction
 all_goals refine ⟨[_], [some 0, some 1], [], ⟨rfl, trivial⟩, ?_⟩
 all_goals simp only [go_sem, *]
theorem sp_Ends (s : Story) (hb : Bound 1048576 s) : zNV prog 32 [s.enc] [] (.tup [.list ((endsOf s).map y3), iV (j5 s)]) [] := by
 unfold endsOf
 by_cases e : j5 s = 0
 ·have o := E8 e
  have sa := zAt s e
  have hl := J6 o.steps (fun w hw => (o.ways w hw).2.1)
  have hok := zDc o.first
  rw [if_pos e]
  rw [e]
  have h0 : endsGo ((s0 s).drop 0) [] = endsGo (s0 s) [] := rfl
  have hv : ∀ t, t ∈ s0 s → Valid t.fin := fun t ht => (hok t ht).val
  clear e hb hok
  generalize endsGo (s0 s) [] = R at *
  generalize s0 s = L at *
  refine z9 func32 rfl (fun E hE => ?_); simp only [go_sem, ntmps32]
  repeat' (first | (refine Qr rfl ?_; try intro _ hK; try simp only [go_sem, *]) | refine Qh rfl ?_ | (refine Qc rfl rfl ?_ ?_ <;> (intro hb; have hc := hb; try simp only [go_sem] at hc)) | refine z6 rfl ?_ | (refine u3 (sa) ?_; simp only [go_sem, *]) | ((with_reducible apply And.intro); focus omega) | (refine z5 hK ?_; clear hK; simp only [go_sem, *]) | simp only [z3, z4, go_sem, *])
  all_goals try contradiction
  refine v9 rfl (L.length) (fun i (acc : List zNU) => endsGo (L.drop i) acc = R ∧ acc.length ≤ i ∧ ∀ q, q ∈ acc → q.length ≤ 3 ∧ ∀ l, l ∈ q → l.length ≤ 8) 37 (fun i acc => [(21, iV i), (20, iV L.length), (19, .list (L.map (Truth.enc s.first))), (7, .own 0 1 0 acc.length)]) (fun i acc => [.row 1 (acc.map y3)]) [none] [] ([]) (by exact ⟨h0, by simp, fun q hq => by cases hq⟩) ?_; intro i acc hi hP
  clear h0
  obtain ⟨hP, hal, hac⟩ := hP
  by_cases hi : i < L.length
  ·have hi3 : (i : Int) < L.length := by omega
   have v := hv _ (w5 hi)
   have hy := endsGo_yes (acc := acc) hi
   have hn := endsGo_no (acc := acc) hi
   have hfl : (L.getD i default).fin.length ≤ 3 ∧ ∀ l, l ∈ (L.getD i default).fin → l.length ≤ 8 := ⟨v.len, fun l hl => (v.rows l hl).len⟩
   have sF := sp_ContainsFunc s.first acc (L.getD i default) (by omega) (fun q hq => by have := (hac q hq).1; omega) (fun q hq x hx => by have := (hac q hq).2 x hx; omega)
   have sc := zIz (L.getD i default).fin v
   clear hv v
   by_cases q : (L.getD i default).fin ∈ acc
   ·rw [hy q] at hP
    rw [decide_eq_true q] at sF
    clear q hy hn
    repeat' (first | (refine Qr rfl ?_; try intro _ hK; try simp only [go_sem, *]) | refine Qh rfl ?_ | (refine Qc rfl rfl ?_ ?_ <;> (intro hb; have hc := hb; try simp only [go_sem] at hc)) | refine z6 rfl ?_ | (refine l5 [0, 1] (sF) ?_; simp only [go_sem, *]) | (refine z8 (sc) ?_; simp only [go_sem, *]) | ((with_reducible apply And.intro); focus omega) | (refine z5 hK ?_; clear hK; simp only [go_sem, *]) | simp only [z3, z4, go_sem, *])
    all_goals try contradiction
    exact x9 (i' := i + 1) [some 0] [] (acc) (by exact ⟨hP, by omega, hac⟩)
   ·rw [hn q] at hP
    rw [decide_eq_false q] at sF
    clear q hy hn
    repeat' (first | (refine Qr rfl ?_; try intro _ hK; try simp only [go_sem, *]) | refine Qh rfl ?_ | (refine Qc rfl rfl ?_ ?_ <;> (intro hb; have hc := hb; try simp only [go_sem] at hc)) | refine z6 rfl ?_ | (with_reducible (show (∀ _ : AV, _ → _) ∧ _); refine And.intro ?_ ?_; (focus (intro y hy; first | (obtain ⟨z, _, rfl⟩ := List.mem_map.1 (hy); simp [go_sem]; done) | (obtain ⟨z, _, rfl⟩ := List.mem_map.1 (List.mem_of_mem_take hy); simp [go_sem]; done) | (obtain ⟨z, _, rfl⟩ := List.mem_map.1 (List.mem_of_mem_drop hy); simp [go_sem]; done) | (obtain ⟨z, _, rfl⟩ := List.mem_map.1 (List.mem_of_mem_drop (List.mem_of_mem_take hy)); simp [go_sem]; done)))) | (refine l5 [0, 1] (sF) ?_; simp only [go_sem, *]) | (refine z8 (sc) ?_; simp only [go_sem, *]) | ((with_reducible apply And.intro); focus omega) | (refine z5 hK ?_; clear hK; simp only [go_sem, *]) | simp only [z3, z4, go_sem, *])
    all_goals try contradiction
    exact x9 (i' := i + 1) [some 3] [] (acc ++ [(L.getD i default).fin]) (by exact ⟨hP, by simp; omega, fun q hq => by
     rcases List.mem_append.1 hq with hq | hq
     ·exact hac q hq
     ·rw [List.mem_singleton.1 hq]; exact hfl⟩)
  ·have hi3 : ¬ (i : Int) < L.length := by omega
   rw [u0 (by omega), endsGo] at hP
   subst hP
   clear hv hac
   repeat' (first | (refine Qr rfl ?_; try intro _ hK; try simp only [go_sem, *]) | refine Qh rfl ?_ | (refine Qc rfl rfl ?_ ?_ <;> (intro hb; have hc := hb; try simp only [go_sem] at hc)) | refine z6 rfl ?_ | ((with_reducible apply And.intro); focus omega) | (refine z5 hK ?_; clear hK; simp only [go_sem, *]) | simp only [z3, z4, go_sem, *])
   all_goals try contradiction
   refine ⟨[_, _], [], [0], ⟨rfl, rfl, trivial⟩, ?_⟩
   simp only [go_sem, *]
 ·have sa := sp_asked_err s (by have := hb.steps; omega) (fun w hw => by have := hb.ways w hw; omega) (by have := hb.facts; omega) (by have := hb.first.len; omega) e
  rw [if_neg e]
  have e2 : (j5 s != 0) = true := by simpa using e
  clear e
  generalize j5 s = k at *
  refine z9 func32 rfl (fun E hE => ?_); simp only [go_sem, ntmps32]
  repeat' (first | (refine Qr rfl ?_; try intro _ hK; try simp only [go_sem, *]) | refine Qh rfl ?_ | (refine Qc rfl rfl ?_ ?_ <;> (intro hb; have hc := hb; try simp only [go_sem] at hc)) | refine z6 rfl ?_ | (refine z8 (sa) ?_; simp only [go_sem, *]) | ((with_reducible apply And.intro); focus omega) | (refine z5 hK ?_; clear hK; simp only [go_sem, *]) | simp only [z3, z4, go_sem, *])
  all_goals try contradiction
  (refine ⟨[_, _], [], [], ⟨rfl, rfl, trivial⟩, ?_⟩; simp only [go_sem, *])

theorem sp_EqPlanLists (a b : List zNU) (h1 : a.length ≤ 4294967296) (h2 : ∀ p, p ∈ a → p.length ≤ 4294967296 ∧ ∀ l, l ∈ p → l.length ≤ 4294967296) : zNV prog 34 [.list (a.map y3), .list (b.map y3)] [] (bV (decide (a = b))) [] := by
 refine z9 func34 rfl (fun E hE => ?_); simp only [go_sem, ntmps34]
 repeat' (first | (refine Qr rfl ?_; try intro _ hK; try simp only [go_sem, *]) | refine Qh rfl ?_ | refine Qd rfl (by kernel_rfl) ?_ | (refine Qc rfl rfl ?_ ?_ <;> (intro hb; have hc := hb; try simp only [go_sem] at hc)) | refine z6 rfl ?_ | (refine Qb ?_ ?_; focus kernel_rfl) | ((with_reducible apply And.intro); focus omega) | (refine z5 hK ?_; clear hK; simp only [go_sem, *]) | simp only [z3, z4, go_sem, *])
 ·(refine ⟨[_], [], [], ⟨rfl, trivial⟩, ?_⟩; simp only [go_sem, *])
  simp [Q7 (a := a) (b := b) (by assumption)]
 ·have hlb : a.length = b.length := by assumption
  refine v5 rfl (b.length) (fun i => a.take i = b.take i) 27 (fun i => [(5, iV i), (1, .list (b.map y3)), (0, .list (a.map y3))]) (fun i => []) [] [] (by simp) ?_; intro i hi hP
  by_cases hi : i < b.length
  ·have hi3 : (i : Int) < a.length := by omega
   have hi4 : (i : Int) < b.length := by omega
   have hia : i < a.length := by omega
   have hq := h2 _ (w5 hia)
   have sE := zC4 (a.getD i default) (b.getD i default) hq.1 hq.2
   by_cases q : a.getD i default = b.getD i default
   ·rw [decide_eq_true q] at sE
    have hP2 := Y8 hia hi hP q
    clear q hP h2 hq
    repeat' (first | (refine Qr rfl ?_; try intro _ hK; try simp only [go_sem, *]) | refine Qh rfl ?_ | refine Qd rfl (by kernel_rfl) ?_ | (refine Qc rfl rfl ?_ ?_ <;> (intro hb; have hc := hb; try simp only [go_sem] at hc)) | refine z6 rfl ?_ | (refine Qb ?_ ?_; focus kernel_rfl) | (refine z8 (sE) ?_; simp only [go_sem, *]) | ((with_reducible apply And.intro); focus omega) | (refine z5 hK ?_; clear hK; simp only [go_sem, *]) | simp only [z3, z4, go_sem, *])
    all_goals first | contradiction | omega | skip
    exact v4 (i' := i + 1) [] [] (by exact hP2)
   ·rw [decide_eq_false q] at sE
    have hn : decide (a = b) = false := decide_eq_false (Y9 q)
    clear q hP h2 hq
    rw [hn]
    repeat' (first | (refine Qr rfl ?_; try intro _ hK; try simp only [go_sem, *]) | refine Qh rfl ?_ | refine Qd rfl (by kernel_rfl) ?_ | (refine Qc rfl rfl ?_ ?_ <;> (intro hb; have hc := hb; try simp only [go_sem] at hc)) | refine z6 rfl ?_ | (refine Qb ?_ ?_; focus kernel_rfl) | (refine z8 (sE) ?_; simp only [go_sem, *]) | ((with_reducible apply And.intro); focus omega) | (refine z5 hK ?_; clear hK; simp only [go_sem, *]) | simp only [z3, z4, go_sem, *])
    all_goals first | contradiction | omega | skip
    (refine ⟨[_], [], [], ⟨rfl, trivial⟩, ?_⟩; simp only [go_sem, *])
  ·have hi3 : ¬ (i : Int) < a.length := by omega
   have hi4 : ¬ (i : Int) < b.length := by omega
   have hn : decide (a = b) = true := decide_eq_true (Y7 (by omega) hlb hP)
   rw [hn]
   clear hP h2
   repeat' (first | (refine Qr rfl ?_; try intro _ hK; try simp only [go_sem, *]) | refine Qh rfl ?_ | refine Qd rfl (by kernel_rfl) ?_ | (refine Qc rfl rfl ?_ ?_ <;> (intro hb; have hc := hb; try simp only [go_sem] at hc)) | refine z6 rfl ?_ | (refine Qb ?_ ?_; focus kernel_rfl) | ((with_reducible apply And.intro); focus omega) | (refine z5 hK ?_; clear hK; simp only [go_sem, *]) | simp only [z3, z4, go_sem, *])
   all_goals first | contradiction | omega | skip
   (refine ⟨[_], [], [], ⟨rfl, trivial⟩, ?_⟩; simp only [go_sem, *])
end Go.Abs

namespace Go.Abs
open Go Go.Proofs Tryz
set_option maxRecDepth 10000
set_option maxHeartbeats 4000000

theorem k_b (s : Story) (h : s.steps.length ≤ 1000 ∧ s.facts.length ≤ 1000 ∧ s.first.length ≤ 1000 ∧ (∀ w, w ∈ s.steps → w.length ≤ 1000)) : s.steps.length ≤ 4294967296 ∧ (∀ w, w ∈ s.steps → w.length ≤ 4294967296) ∧ s.facts.length ≤ 4294967296 ∧ s.first.length ≤ 4294967296 :=
 ⟨by omega, fun w hw => by have := h.2.2.2 w hw; omega, by omega, by omega⟩
theorem k_bX : taleX.steps.length ≤ 4294967296 ∧ (∀ w, w ∈ taleX.steps → w.length ≤ 4294967296) ∧ taleX.facts.length ≤ 4294967296 ∧ taleX.first.length ≤ 4294967296 := k_b taleX (by decide)
theorem k_bF : sTaleF.steps.length ≤ 4294967296 ∧ (∀ w, w ∈ sTaleF.steps → w.length ≤ 4294967296) ∧ sTaleF.facts.length ≤ 4294967296 ∧ sTaleF.first.length ≤ 4294967296 := k_b sTaleF (by decide)
theorem z_tr1 : zNV prog 30 [sTale1.enc] [] (.tup [.list [l6 [0, 0]], iV 0]) [] := by
 have := zIr sTale1 k_story1
 rw [k_ways1] at this; exact this
theorem z_tr2 : zNV prog 30 [sTale2.enc] [] (.tup [.list [], iV 0]) [] := by
 have := zIr sTale2 k_story2
 rw [k_ways2] at this; exact this
def sE : List zNU := [[zNq [1, 2, 3, 4, 5, 7, 8], [], []], [zNq [1, 2, 3, 4, 6, 7, 8], [], []]]
theorem z_ends : zNV prog 32 [taleX.enc] [] (.tup [.list (sE.map y3), iV 0]) [] := by
 have hw : ∀ l, l ∈ taleX.first → ∀ x, x ∈ l → x.Wf := by
  intro l hl x hx
  have h1 : (taleX.first.all fun l => l.all fun x => decide (0 ≤ x.number) && (decide (x.number ≤ 1000) && (decide (0 ≤ x.letter) && decide (x.letter ≤ 1000)))) = true := by kernel_rfl
  have h2 := List.all_eq_true.1 (List.all_eq_true.1 h1 l hl) x hx
  simp only [Bool.and_eq_true, decide_eq_true_eq] at h2
  exact ⟨D3 (by omega) (by omega), D3 (by omega) (by omega)⟩
 have := sp_Ends taleX ⟨⟨by decide, by decide, hw⟩, by decide, by decide, by decide, fun f hf => by simp [taleX] at hf⟩
 rw [k_ends, zA6] at this; exact this
theorem z_eqpl : zNV prog 34 [.list (sE.map y3), .list (sE.map y3)] [] (bV true) [] := by
 have h : (sE.all fun p => decide (p.length ≤ 1000) && p.all fun l => decide (l.length ≤ 1000)) = true := by kernel_rfl
 have := sp_EqPlanLists sE sE (by decide) (fun p hp => by
  have h2 := List.all_eq_true.1 h p hp
  rw [Bool.and_eq_true] at h2
  exact ⟨by have := of_decide_eq_true h2.1; omega, fun l hl => by have := of_decide_eq_true (List.all_eq_true.1 h2.2 l hl); omega⟩)
 rw [decide_eq_true rfl] at this
 exact this
theorem z_where9 : zNV prog 35 [taleX.enc, (atX 0 9).enc] [] (.tup [.list [], iV 3]) [] := by
 have := sp_WhereS taleX (atX 0 9) k_bX.1 k_bX.2.1 k_bX.2.2.1 k_bX.2.2.2 (zDI _ k_where9n k_where9l)
 unfold whereR at this
 rw [k_where9, if_neg (by decide)] at this; exact this
theorem z_when : zNV prog 36 [taleX.enc, (atX 0 2).enc] [] (.tup [.list ([atX 0 1, atX 0 4].map House.enc), iV 0]) [] := by
 have := sp_WhenceS taleX (atX 0 2) k_bX.1 k_bX.2.1 k_bX.2.2.1 k_bX.2.2.2 (by rw [k_whenceL]; exact zDI _ (by decide) (by decide))
 rw [k_whence.1, k_whence.2] at this; exact this
theorem z_when9 : zNV prog 36 [taleX.enc, (atX 0 9).enc] [] (.tup [.list ((whenceR taleX (atX 0 9)).map House.enc), iV 3]) [] := by
 have := sp_WhenceS taleX (atX 0 9) k_bX.1 k_bX.2.1 k_bX.2.2.1 k_bX.2.2.2 (by rw [k_whence9L]; exact zDI _ (by decide) (by decide))
 rw [k_whence9] at this; exact this
theorem z_verd {h to : House} (hh : h ∈ q6 townX) {n : Nat} {k : Int} (e : verdN taleX h to = n) (e2 : verdOf n 2 = k) : zNV prog 37 [taleX.enc, h.enc, to.enc] [] (.tup [iV k, iV 0]) [] := by
 have := sp_Verdict taleX h to k_bX.1 k_bX.2.1 k_bX.2.2.1 k_bX.2.2.2
 obtain ⟨h1, h2⟩ := k_verdR hh e
 rw [h1, h2, e2] at this; exact this
theorem z_lost1 : zNV prog 38 [taleX.enc] [] (.tup [.list [], iV 0]) [] := by
 have := sp_Lost taleX k_bX.1 k_bX.2.1 k_bX.2.2.1 k_bX.2.2.2
 rw [k_lost1.1, k_lost1.2] at this; exact this
theorem z_lost2 : zNV prog 38 [sTaleF.enc] [] (.tup [.list [(atX 0 2).enc], iV 0]) [] := by
 have := sp_Lost sTaleF k_bF.1 k_bF.2.1 k_bF.2.2.1 k_bF.2.2.2
 rw [k_lost2.1, k_lost2.2] at this; exact this
theorem z_ask : zNV prog 39 [sTale1.enc] [] (.tup [(⟨0, ⟨0, 0⟩⟩ : House).enc, iV 0, iV 11]) [] := zIW sTale1 k_story1 _ (by rw [k_ask]; rfl)
theorem z_settle : zNV prog 40 [taleX.enc] [] (.tup [.list [(atX 0 1).enc], iV 0]) [] := sp_Settle_ok taleX zA6 k_ne 1 [atX 0 1] k_settle k_settle0 (by decide)
theorem z_guess {q : zNU} {l : List Change} (h : q.length ≤ 1000) (e : R6 townX q = some l ∧ d5 townX q = 0) : zNV prog 41 [y3 townX, y3 q] [] (.tup [.list (l.map Change.enc), iV 0]) [] := by
 have := zIj townX q (by decide) (by omega)
 rw [e.2, if_pos rfl, e.1] at this; exact this
theorem z_guess3 : zNV prog 41 [y3 townX, y3 sG3] [] (.tup [.list [], iV 11]) [] := by
 have := zIj townX sG3 (by decide) (by decide)
 rw [k_guess3, if_neg (by decide)] at this; exact this
theorem z_write : zNV prog 10 [y3 townX] [] (.tup [sV [91, 49, 32, 50, 32, 51, 32, 52, 32, 53, 93, 91, 49, 32, 50, 93, 91, 93, 10], iV 0]) [] := by
 have := zDA townX ((Q1 townX).1 k_check1)
 rw [k_write] at this; exact this
theorem z_read {i : Nat} (h : i < 3) : zNV prog 14 [sV (sTs.getD i default)] [] (.tup [.agg [.list []], iV (sNs.getD i default), iV 2]) [] := by
 have l : ((List.range 3).all fun i => decide ((sTs.getD i default).length ≤ 1000)) = true := by kernel_rfl
 have l2 := of_decide_eq_true (all_range l h)
 have := zC8 (sTs.getD i default) (by omega)
 have k := all_range k_read h
 simp only [Bool.and_eq_true, decide_eq_true_eq] at k
 unfold O5 at this
 rw [k.1, k.2.1, k.2.2] at this; exact this
theorem z_read1 : zNV prog 14 [sV [91, 49, 32, 50, 97, 93, 91, 93, 10]] [] (.tup [y3 [[⟨1, 0⟩, ⟨2, 1⟩], []], iV 0, iV 0]) [] := by
 have := zC8 [91, 49, 32, 50, 97, 93, 91, 93, 10] (by decide)
 unfold O5 at this
 rw [k_read1.1, k_read1.2.1, k_read1.2.2] at this; exact this
end Go.Abs

