/-
  WHAT THE PROOF STANDS ON, PART 5: contracts of the program's functions and the logic that they are proved in. No condition.
-/
import Derived.Test.YtmhleaopjcfjnaaGreatQ4
set_option linter.unusedVariables false
set_option linter.unusedSimpArgs false
set_option linter.unusedSectionVars false
namespace Go.Abs
open Go Go.Proofs
set_option maxRecDepth 10000
structure Truth where
  ways : List Int
  fin : Plan
  now : House → List House
@[reducible] def Truth.enc (p : Plan) (t : Truth) : AV := .agg [.list (t.ways.map iV), .list (t.fin.map encStreet), .fmap (keysP p) (movesP p t.now)]
attribute [go_sem] Truth.enc
def fitsT (l : List Fact) (t : Truth) : Bool := l.all fun f => decide (f.dst ∈ t.now f.src)
theorem fitsT_drop {l : List Fact} {t : Truth} {i : Nat} (h : i < l.length) : fitsT (l.drop i) t = (decide ((l.getD i default).dst ∈ t.now (l.getD i default).src) && fitsT (l.drop (i + 1)) t) := by
  rw [drop_cons h]; simp [fitsT]
theorem sp_fits (s : Story) (t : Truth) (v : Valid s.first) (hf : s.facts.length ≤ 1000) (hsrc : ∀ f, f ∈ s.facts → f.src ∈ housesOf s.first) (hnl : ∀ h, h ∈ housesOf s.first → (t.now h).length ≤ 1000) (b : Bool) (hb0 : fitsT (s.facts.drop 0) t = b) :
    Spec Tryz.prog 163 [.ptr 0 0, t.enc s.first] [taleBox s] (bV b) [taleBox s] := by
  have hw := v.wf
  refine spec_body Tryz.func163 rfl (fun E hE => ?_); simp only [go_sem, Tryz.ntmps163]
  repeat' (first | (with_reducible (show runOps ..); first | (refine Qr rfl ?_; try intro K' hK; try simp only [go_sem, *])) | (with_reducible (show Hold ..); first | refine Qh rfl ?_ | refine s_draw rfl Tryz.mixed (by kernel_rfl) ?_ | (refine s_cond rfl ⟨_, rfl, fun hb => ?_, fun hb => ?_⟩ <;> (have hc := hb; try simp only [go_sem] at hc)) | refine s_ret rfl ?_) | ((with_reducible refine Qb ?_ ?_); focus kernel_rfl) | ((with_reducible refine And.intro ?_ ?_); focus omega) | (refine contA_of hK ?_; clear hK K'; simp only [go_sem, *]) | (simp only [thenA, inBlockA, go_sem, *]))
  refine s_loop rfl (fun zn zN zenv zAs => ∃ (i : Nat), zn = (s.facts.length) - i ∧ i ≤ (s.facts.length) ∧ (fitsT (s.facts.drop i) t = b) ∧ zN = 27 ∧ zenv = [(13, iV i), (12, iV s.facts.length), (11, .list (s.facts.map Fact.enc)), (3, .ptr 1 0)] ∧ zAs = [taleBox s, .box [.list (t.ways.map iV), .list (t.fin.map encStreet), .fmap (keysP s.first) (movesP s.first t.now)]]) (s.facts.length) ⟨[some 0, some 1], [], _, _, _, (by (simp only [Weak, go_sem, List.map_append, List.map_set, *] <;> (try simp (disch := omega) only [wrap_succ]) <;> (try simp) <;> (try omega))), 0, (by simp), (by simp), (by exact hb0), rfl, rfl, rfl⟩ ?_; rintro _ _ _ _ ⟨i, rfl, hi, hP, rfl, rfl, rfl⟩
  by_cases hi2 : i < s.facts.length
  · rw [fitsT_drop hi2] at hP
    have hm := hsrc _ (getD_mem hi2)
    have hl := hnl _ hm
    have hwf := hw _ hm
    have sc := sp_Contains_place (t.now (s.facts.getD i default).src) (s.facts.getD i default).dst (by omega)
    by_cases q : (s.facts.getD i default).dst ∈ t.now (s.facts.getD i default).src
    · have q' : decide ((s.facts.getD i default).dst ∈ t.now (s.facts.getD i default).src) = true := by simpa using q
      rw [q', Bool.true_and] at hP
      rw [q'] at sc
      clear q q'
      repeat' (first | (with_reducible (show runOps ..); first | (refine Qr rfl ?_; try intro K' hK; try simp only [go_sem, *])) | (with_reducible (show Hold ..); first | refine Qh rfl ?_ | refine s_draw rfl Tryz.mixed (by kernel_rfl) ?_ | (refine s_cond rfl ⟨_, rfl, fun hb => ?_, fun hb => ?_⟩ <;> (have hc := hb; try simp only [go_sem] at hc)) | refine s_ret rfl ?_) | ((with_reducible refine Qb ?_ ?_); focus kernel_rfl) | ((with_reducible refine And.intro ?_ ?_); focus omega) | (refine contA_of hK ?_; clear hK K'; simp only [go_sem, *]) | (simp only [thenA, inBlockA, go_sem, *]))
      refine look_fhouse (h := (s.facts.getD i default).src) (hs := housesOf s.first) (F := MapV t.now) hw hwf ?_
      rw [if_pos hm, MapV]
      repeat' (first | (with_reducible (show runOps ..); first | (refine Qr rfl ?_; try intro K' hK; try simp only [go_sem, *])) | (with_reducible (show Hold ..); first | refine Qh rfl ?_ | refine s_draw rfl Tryz.mixed (by kernel_rfl) ?_ | (refine s_cond rfl ⟨_, rfl, fun hb => ?_, fun hb => ?_⟩ <;> (have hc := hb; try simp only [go_sem] at hc)) | refine s_ret rfl ?_) | (with_reducible (show callA ..); first | (refine call_s (sc) ?_ ?_; (focus (simp only [go_sem, *]; done)); simp only [go_sem, *])) | ((with_reducible refine Qb ?_ ?_); focus kernel_rfl) | ((with_reducible refine And.intro ?_ ?_); focus omega) | (refine contA_of hK ?_; clear hK K'; simp only [go_sem, *]) | (simp only [thenA, inBlockA, go_sem, *]))
      all_goals first | contradiction | skip
      refine ⟨_, (by omega), [some 0, some 1], [], _, _, _, (by (simp only [Weak, go_sem, List.map_append, List.map_set, *] <;> (try simp (disch := omega) only [wrap_succ]) <;> (try simp) <;> (try omega))), i + 1, rfl, (by omega), (by exact hP), rfl, rfl, rfl⟩
    · have q' : decide ((s.facts.getD i default).dst ∈ t.now (s.facts.getD i default).src) = false := by simpa using q
      rw [q', Bool.false_and] at hP
      rw [q'] at sc
      clear q q'
      subst hP
      repeat' (first | (with_reducible (show runOps ..); first | (refine Qr rfl ?_; try intro K' hK; try simp only [go_sem, *])) | (with_reducible (show Hold ..); first | refine Qh rfl ?_ | refine s_draw rfl Tryz.mixed (by kernel_rfl) ?_ | (refine s_cond rfl ⟨_, rfl, fun hb => ?_, fun hb => ?_⟩ <;> (have hc := hb; try simp only [go_sem] at hc)) | refine s_ret rfl ?_) | ((with_reducible refine Qb ?_ ?_); focus kernel_rfl) | ((with_reducible refine And.intro ?_ ?_); focus omega) | (refine contA_of hK ?_; clear hK K'; simp only [go_sem, *]) | (simp only [thenA, inBlockA, go_sem, *]))
      refine look_fhouse (h := (s.facts.getD i default).src) (hs := housesOf s.first) (F := MapV t.now) hw hwf ?_
      rw [if_pos hm, MapV]
      repeat' (first | (with_reducible (show runOps ..); first | (refine Qr rfl ?_; try intro K' hK; try simp only [go_sem, *])) | (with_reducible (show Hold ..); first | refine Qh rfl ?_ | refine s_draw rfl Tryz.mixed (by kernel_rfl) ?_ | (refine s_cond rfl ⟨_, rfl, fun hb => ?_, fun hb => ?_⟩ <;> (have hc := hb; try simp only [go_sem] at hc)) | refine s_ret rfl ?_) | (with_reducible (show callA ..); first | (refine call_s (sc) ?_ ?_; (focus (simp only [go_sem, *]; done)); simp only [go_sem, *])) | ((with_reducible refine Qb ?_ ?_); focus kernel_rfl) | ((with_reducible refine And.intro ?_ ?_); focus omega) | (refine contA_of hK ?_; clear hK K'; simp only [go_sem, *]) | (simp only [thenA, inBlockA, go_sem, *]))
      all_goals first | contradiction | skip
      refine ⟨[_], [some 0], [], ⟨rfl, trivial⟩, ?_⟩
      simp only [go_sem, *]
  · rw [drop_end (by omega)] at hP
    subst hP
    repeat' (first | (with_reducible (show runOps ..); first | (refine Qr rfl ?_; try intro K' hK; try simp only [go_sem, *])) | (with_reducible (show Hold ..); first | refine Qh rfl ?_ | refine s_draw rfl Tryz.mixed (by kernel_rfl) ?_ | (refine s_cond rfl ⟨_, rfl, fun hb => ?_, fun hb => ?_⟩ <;> (have hc := hb; try simp only [go_sem] at hc)) | refine s_ret rfl ?_) | ((with_reducible refine Qb ?_ ?_); focus kernel_rfl) | ((with_reducible refine And.intro ?_ ?_); focus omega) | (refine contA_of hK ?_; clear hK K'; simp only [go_sem, *]) | (simp only [thenA, inBlockA, go_sem, *]))
    refine ⟨[_], [some 0], [], ⟨rfl, trivial⟩, ?_⟩
    simp only [go_sem, *]
    simp [fitsT]
end Go.Abs

namespace Go.Abs
open Go
instance : Inhabited Truth := ⟨⟨[], [], fun _ => []⟩⟩
def wayAt (s : Story) (k : Nat) : List Change := s.steps.getD k default
def stepT (t : Truth) (c : Change) (i : Nat) : Truth := ⟨t.ways ++ [(i : Int)], afterOf t.fin c, thenF t.now (mv t.fin c)⟩
def growT (s : Story) : Nat → Truth → List Truth
  | 0, t => if fitsT s.facts t = true then [t] else []
  | n + 1, t => (List.range' 0 (wayAt s t.ways.length).length).flatMap fun i => if can t.fin ((wayAt s t.ways.length).getD i default) = 0 then growT s n (stepT t ((wayAt s t.ways.length).getD i default) i) else []
def growFrom (s : Story) (n : Nat) (t : Truth) (i : Nat) : List Truth :=
  (List.range' i ((wayAt s t.ways.length).length - i)).flatMap fun i => if can t.fin ((wayAt s t.ways.length).getD i default) = 0 then growT s n (stepT t ((wayAt s t.ways.length).getD i default) i) else []
theorem growT_zero {s : Story} {t : Truth} : growT s 0 t = if fitsT s.facts t = true then [t] else [] := by rw [growT]
theorem growT_succ {s : Story} {n : Nat} {t : Truth} : growT s (n + 1) t = growFrom s n t 0 := by rw [growT, growFrom, Nat.sub_zero]
theorem growFrom_step {s : Story} {n i : Nat} {t : Truth} (h : i < (wayAt s t.ways.length).length) :
    growFrom s n t i = (if can t.fin ((wayAt s t.ways.length).getD i default) = 0 then growT s n (stepT t ((wayAt s t.ways.length).getD i default) i) else []) ++ growFrom s n t (i + 1) := by
  unfold growFrom
  rw [show (wayAt s t.ways.length).length - i = ((wayAt s t.ways.length).length - (i + 1)) + 1 by omega, List.range'_succ, List.flatMap_cons]
theorem growFrom_yes {s : Story} {n i : Nat} {t : Truth} (h : i < (wayAt s t.ways.length).length) (hc : can t.fin ((wayAt s t.ways.length).getD i default) = 0) :
    growFrom s n t i = growT s n (stepT t ((wayAt s t.ways.length).getD i default) i) ++ growFrom s n t (i + 1) := by rw [growFrom_step h, if_pos hc]
theorem growFrom_no {s : Story} {n i : Nat} {t : Truth} (h : i < (wayAt s t.ways.length).length) (hc : can t.fin ((wayAt s t.ways.length).getD i default) ≠ 0) :
    growFrom s n t i = growFrom s n t (i + 1) := by rw [growFrom_step h, if_neg hc, List.nil_append]
theorem growFrom_end {s : Story} {n i : Nat} {t : Truth} (h : (wayAt s t.ways.length).length ≤ i) : growFrom s n t i = [] := by
  unfold growFrom
  rw [show (wayAt s t.ways.length).length - i = 0 by omega]; rfl
def firstT (s : Story) : Truth := ⟨[], s.first, fun h => [h]⟩
def truthsOf (s : Story) : List Truth := growT s s.steps.length (firstT s)
structure TOk (s : Story) (n : Nat) (t : Truth) : Prop where
  steps : t.ways.length + n = s.steps.length
  val : Valid t.fin
  town : t.fin.length = s.first.length
  strict : ∀ h, h ∈ housesOf s.first → Strict (t.now h)
  mem : ∀ h, h ∈ housesOf s.first → ∀ x, x ∈ t.now h → x ∈ housesOf t.fin
  len : ∀ h, h ∈ housesOf s.first → (t.now h).length ≤ 2 ^ t.ways.length
theorem firstT_ok {s : Story} (v : Valid s.first) : TOk s s.steps.length (firstT s) where
  steps := by simp [firstT]
  val := v
  town := rfl
  strict := fun h _ => by simp [firstT]
  mem := fun h hh x hx => by
    have : x = h := by simpa [firstT] using hx
    rw [this]; exact hh
  len := fun h _ => by simp [firstT]
theorem TOk.flat_nodup {s : Story} {n : Nat} {t : Truth} (o : TOk s n t) {c : Change} (f : Fit t.fin c) {h : House} (hh : h ∈ housesOf s.first) : ((t.now h).flatMap (mv t.fin c)).Nodup :=
  nodup_flatMap (o.strict h hh).nodup (fun a ha => mv_nodup f (o.mem h hh a ha)) (fun a b ha hb z hz1 hz2 => mv_inj o.val f (o.mem h hh a ha) (o.mem h hh b hb) hz1 hz2)
theorem flat_len {f : House → List House} (hf : ∀ h, (f h).length ≤ 2) : ∀ l : List House, (l.flatMap f).length ≤ 2 * l.length
  | [] => by simp
  | x :: r => by
    have := flat_len hf r
    have := hf x
    simp only [List.flatMap_cons, List.length_append, List.length_cons]; omega
theorem TOk.flat_len {s : Story} {n : Nat} {t : Truth} (o : TOk s n t) {c : Change} (f : Fit t.fin c) {h : House} (hh : h ∈ housesOf s.first) : ((t.now h).flatMap (mv t.fin c)).length ≤ 2 * 2 ^ t.ways.length := by
  have := Go.Abs.flat_len (fun x => mv_len f x) (t.now h)
  have := o.len h hh
  omega
theorem TOk.next {s : Story} {n : Nat} {t : Truth} (o : TOk s (n + 1) t) {c : Change} (hc : can t.fin c = 0) (i : Nat) : TOk s n (stepT t c i) := by
  have f := Fit.of_can hc
  have hn : ∀ h, (stepT t c i).now h = sortH ((t.now h).flatMap (mv t.fin c)) := fun _ => rfl
  refine ⟨?_, valid_after o.val f, ?_, fun h hh => ?_, fun h hh x hx => ?_, fun h hh => ?_⟩
  · have := o.steps; simp [stepT]; omega
  · have := o.town
    simp only [stepT, afterOf, laid_length]; exact this
  · rw [hn]; exact strict_sortH _
  · rw [hn, mem_sortH] at hx
    obtain ⟨a, ha, hx⟩ := List.mem_flatMap.1 hx
    show x ∈ housesOf (afterOf t.fin c)
    rw [houses_after o.val f, mem_sortH]
    exact mem_flatMv.2 ⟨a, o.mem h hh a ha, hx⟩
  · rw [hn]
    have h1 := nodup_len (strict_sortH ((t.now h).flatMap (mv t.fin c))).nodup (b := (t.now h).flatMap (mv t.fin c)) (fun x hx => mem_sortH.1 hx)
    have h2 := o.flat_len f hh
    have : (stepT t c i).ways.length = t.ways.length + 1 := by simp [stepT]
    rw [this, Nat.pow_succ]; omega
theorem TOk.small {s : Story} {n : Nat} {t : Truth} (o : TOk s n t) (h3 : s.steps.length ≤ 3) {h : House} (hh : h ∈ housesOf s.first) : (t.now h).length ≤ 8 := by
  have h1 := o.len h hh
  have h2 : t.ways.length ≤ 3 := by have := o.steps; omega
  have : 2 ^ t.ways.length ≤ 2 ^ 3 := Nat.pow_le_pow_right (by omega) h2
  omega
theorem TOk.small2 {s : Story} {n : Nat} {t : Truth} (o : TOk s (n + 1) t) (h3 : s.steps.length ≤ 3) {c : Change} (f : Fit t.fin c) {h : House} (hh : h ∈ housesOf s.first) : ((t.now h).flatMap (mv t.fin c)).length ≤ 8 := by
  have h1 := o.flat_len f hh
  have h2 : t.ways.length ≤ 2 := by have := o.steps; omega
  have : 2 ^ t.ways.length ≤ 2 ^ 2 := Nat.pow_le_pow_right (by omega) h2
  omega
theorem growT_ok {s : Story} : ∀ (n : Nat) {t : Truth}, TOk s n t → ∀ x, x ∈ growT s n t → TOk s 0 x
  | 0, t, o, x, hx => by
    rw [growT_zero] at hx
    split at hx
    · have : x = t := by simpa using hx
      rw [this]; exact o
    · simp at hx
  | n + 1, t, o, x, hx => by
    rw [growT] at hx
    obtain ⟨i, _, hx⟩ := List.mem_flatMap.1 hx
    split at hx
    · rename_i hc
      exact growT_ok n (o.next hc i) x hx
    · simp at hx
theorem growT_len {s : Story} (hw : ∀ w, w ∈ s.steps → w.length ≤ 3) : ∀ (n : Nat) (t : Truth), (growT s n t).length ≤ 3 ^ n
  | 0, t => by
    rw [growT_zero]
    split <;> simp
  | n + 1, t => by
    rw [growT]
    have hl : (wayAt s t.ways.length).length ≤ 3 := by
      unfold wayAt
      by_cases h : t.ways.length < s.steps.length
      · exact hw _ (getD_mem h)
      · have e : s.steps[t.ways.length]? = none := List.getElem?_eq_none (by omega)
        simp only [List.getD, e, Option.getD_none]; show ([] : List Change).length ≤ 3; simp
    have key : ∀ (k i : Nat) (g : Nat → List Truth), (∀ i, (g i).length ≤ 3 ^ n) → ((List.range' i k).flatMap g).length ≤ k * 3 ^ n := by
      intro k
      induction k with
      | zero => intro i g _; simp
      | succ k ih =>
        intro i g hg
        rw [List.range'_succ, List.flatMap_cons, List.length_append, Nat.succ_mul]
        have := ih (i + 1) g hg
        have := hg i
        omega
    refine Nat.le_trans (key _ 0 _ (fun i => ?_)) (Nat.le_trans (Nat.mul_le_mul_right (3 ^ n) hl) (by rw [Nat.pow_succ]; omega))
    split
    · exact growT_len hw n _
    · simp
theorem truths_ok {s : Story} (v : Valid s.first) : ∀ x, x ∈ truthsOf s → TOk s 0 x := growT_ok _ (firstT_ok v)
theorem truths_len {s : Story} (h3 : s.steps.length ≤ 3) (hw : ∀ w, w ∈ s.steps → w.length ≤ 3) : (truthsOf s).length ≤ 27 :=
  Nat.le_trans (growT_len hw _ _) (Nat.pow_le_pow_right (by omega) h3 : 3 ^ s.steps.length ≤ 3 ^ 3)
theorem stepsErr_zero : ∀ {l : List (List Change)}, stepsErr l = 0 ↔ ∀ w, w ∈ l → 0 < w.length ∧ w.length ≤ 3 ∧ waysErr w = 0
  | [] => by simp [stepsErr]
  | w :: r => by
    rw [stepsErr]
    split
    · rename_i h
      constructor
      · intro e; omega
      · intro e; have := e w (by simp); omega
    · split
      · rename_i h
        constructor
        · intro e; omega
        · intro e; have := e w (by simp); omega
      · split
        · rename_i h1 h2 h3
          rw [stepsErr_zero]
          constructor
          · intro e x hx
            rcases List.mem_cons.1 hx with rfl | hx
            · exact ⟨by omega, by omega, h3⟩
            · exact e x hx
          · intro e x hx; exact e x (by simp [hx])
        · rename_i h3
          constructor
          · intro e; omega
          · intro e; exact absurd (e w (by simp)).2.2 h3
theorem factsErr_zero {p : Plan} : ∀ {l : List Fact}, factsErr p l = 0 ↔ ∀ f, f ∈ l → f.src ∈ housesOf p ∧ betw f.dst.street 0 (p.length - 1) = true ∧ f.dst.plate.ok = true
  | [] => by simp [factsErr]
  | f :: r => by
    rw [factsErr]
    split
    · rename_i h
      split
      · rename_i h2; rw [factsErr_zero]; simp [h, h2]
      · rename_i h2
        constructor
        · intro e; omega
        · intro e; exact absurd (e f (by simp)).2.2 h2
    · rename_i h
      constructor
      · intro e; omega
      · intro e; exact absurd ⟨(e f (by simp)).1, (e f (by simp)).2.1⟩ h
structure Told (s : Story) : Prop where
  first : Valid s.first
  steps : s.steps.length ≤ 3
  ways : ∀ w, w ∈ s.steps → 0 < w.length ∧ w.length ≤ 3 ∧ waysErr w = 0
  facts : s.facts.length ≤ 4
  fact : ∀ f, f ∈ s.facts → f.src ∈ housesOf s.first ∧ betw f.dst.street 0 (s.first.length - 1) = true ∧ f.dst.plate.ok = true
theorem story_zero {s : Story} (h : storyErr s = 0) : Told s := by
  unfold storyErr at h
  split at h
  · rename_i h1
    split at h
    · omega
    · rename_i h2
      unfold stepsErr0 at h
      split at h
      · rename_i h3
        unfold factsErr0 at h
        split at h
        · omega
        · rename_i h4
          exact ⟨(check_zero _).1 h1, by omega, stepsErr_zero.1 h3, by omega, factsErr_zero.1 h⟩
      · rename_i h3; exact absurd h h3
  · rename_i h1; exact absurd h h1
end Go.Abs

namespace Go.Abs
open Go
structure Dice where
  list : List Int
  at_ : Nat
  seed : Int
  deriving Inhabited
abbrev uV (n : Int) : AV := .raw (.int .u64 n)
def diceBox (d : Dice) : AObj := .box [.list (d.list.map iV), iV d.at_, uV d.seed]
def xor64 (a b : Int) : Int := IntKind.u64.wrap (BitVec.ofInt IntKind.u64.bits a ^^^ BitVec.ofInt IntKind.u64.bits b).toNat
def shl64 (a : Int) (k : Nat) : Int := IntKind.u64.wrap (a * 2 ^ (min k IntKind.u64.bits))
def shr64 (a : Int) (k : Nat) : Int := a.fdiv (2 ^ (min k IntKind.u64.bits))
def mix1 (s : Int) : Int := xor64 s (shl64 s 13)
def mix2 (s : Int) : Int := xor64 s (shr64 s 7)
def mix3 (s : Int) : Int := xor64 s (shl64 s 17)
def mixed3 (s : Int) : Int := mix3 (mix2 (mix1 s))
def rawS (d : Dice) : Int := if d.at_ < d.list.length then IntKind.u64.wrap (mixed3 d.seed + IntKind.u64.wrap (IntKind.u64.wrap (d.list.getD d.at_ default) * 13787848793156543929)) else mixed3 d.seed
def rawD (d : Dice) : Dice := ⟨d.list, if d.at_ < d.list.length then d.at_ + 1 else d.at_, rawS d⟩
def rawM (n : Int) : Int := IntKind.u64.wrap (xor64 n (shr64 n 30) * 10723151780598845931)
def rawN (d : Dice) : Int := xor64 (rawM (rawS d)) (shr64 (rawM (rawS d)) 31)
theorem wrap_u64_range (n : Int) : 0 ≤ IntKind.u64.wrap n ∧ IntKind.u64.wrap n < 18446744073709551616 := by
  rw [IntKind.wrap_u64]; omega
theorem rawN_range (d : Dice) : 0 ≤ rawN d ∧ rawN d < 18446744073709551616 := wrap_u64_range _
def toN (n : Int) (d : Dice) : Int := if n < 1 then 0 else (shr64 (rawN d) 16).tmod (n + 1)
def toD (n : Int) (d : Dice) : Dice := if n < 1 then d else rawD d
theorem shr16 (n : Int) (h0 : 0 ≤ n) : 0 ≤ shr64 n 16 := by
  unfold shr64
  rw [Int.fdiv_eq_ediv_of_nonneg _ (by decide)]
  exact Int.ediv_nonneg h0 (by decide)
theorem toN_range (n : Int) (d : Dice) : 0 ≤ toN n d ∧ (toN n d ≤ n ∨ toN n d = 0) := by
  unfold toN
  split
  · omega
  · have h := shr16 _ (rawN_range d).1
    rw [Int.tmod_eq_emod_of_nonneg h]
    have h1 := Int.emod_nonneg (shr64 (rawN d) 16) (b := n + 1) (by omega)
    have h2 := Int.emod_lt_of_pos (shr64 (rawN d) 16) (b := n + 1) (by omega)
    omega
theorem toN_le {n : Int} (h : 0 ≤ n) (d : Dice) : 0 ≤ toN n d ∧ toN n d ≤ n := by
  have := toN_range n d; omega
def fromN (lo hi : Int) (d : Dice) : Int := lo + toN (hi - lo) d
def fromD (lo hi : Int) (d : Dice) : Dice := toD (hi - lo) d
theorem fromN_le {lo hi : Int} (h : lo ≤ hi) (d : Dice) : lo ≤ fromN lo hi d ∧ fromN lo hi d ≤ hi := by
  have := toN_le (n := hi - lo) (by omega) d
  unfold fromN; omega
def onceT (k : Int) (d : Dice) : Bool := toN (k - 1) d == 0
def onceR (k : Int) (d : Dice) : Dice := toD (k - 1) d
def insPl (x : Plate) : List Plate → List Plate
  | [] => [x]
  | y :: r => if y.lt x = true then y :: insPl x r else if y = x then y :: r else x :: y :: r
def plateK (n : Int) (b : Bool) (k : Int) (dy dn : Dice) : Plate × Dice := if b = true then (⟨n, k⟩, dy) else (⟨n, 0⟩, dn)
def plateN (d : Dice) : Plate × Dice := plateK (fromN 1 9 d) (onceT 4 (fromD 1 9 d)) (fromN 1 2 (onceR 4 (fromD 1 9 d))) (fromD 1 2 (onceR 4 (fromD 1 9 d))) (onceR 4 (fromD 1 9 d))
def platesN : Nat → Dice → List Plate → List Plate × Dice
  | 0, d, out => (out, d)
  | n + 1, d, out => platesN n (plateN d).2 (insPl (plateN d).1 out)
def platesOf (d : Dice) (most : Int) : List Plate × Dice := platesN (toN most d).toNat (toD most d) []
def streetN (d : Dice) (houses : Int) : List Plate × Dice := platesOf (onceR 3 d) (if onceT 3 d = true then 0 else houses)
def streetsN (houses : Int) : Nat → Dice → Plan → Plan × Dice
  | 0, d, out => (out, d)
  | n + 1, d, out => streetsN houses n (streetN d houses).2 (out ++ [(streetN d houses).1])
def planOf (d : Dice) (houses : Int) : Plan × Dice := streetsN houses (fromN 1 3 d).toNat (fromD 1 3 d) []
theorem mem_insPl {x z : Plate} : ∀ {l : List Plate}, z ∈ insPl x l ↔ z = x ∨ z ∈ l
  | [] => by simp [insPl]
  | y :: r => by
    simp only [insPl]
    split
    · simp only [List.mem_cons, mem_insPl (l := r)]
      constructor
      · rintro (h | h | h) <;> simp [h]
      · rintro (h | h | h) <;> simp [h]
    · split
      · rename_i e; subst e; simp
      · simp
theorem strict_insPl {x : Plate} : ∀ {l : List Plate}, l.Pairwise (fun a b => a.lt b = true) → (insPl x l).Pairwise (fun a b => a.lt b = true)
  | [], _ => by simp [insPl]
  | y :: r, h => by
    obtain ⟨h1, h2⟩ := List.pairwise_cons.1 h
    simp only [insPl]
    split
    · rename_i hy
      refine List.pairwise_cons.2 ⟨fun z hz => ?_, strict_insPl h2⟩
      rcases mem_insPl.1 hz with rfl | hz
      · exact hy
      · exact h1 z hz
    · rename_i hy
      split
      · exact h
      · rename_i hne
        have hxy : x.lt y = true := by
          rcases Plate.lt_tri x y with h | h | h
          · exact h
          · exact absurd h.symm hne
          · exact absurd h hy
        refine List.pairwise_cons.2 ⟨fun z hz => ?_, h⟩
        rcases List.mem_cons.1 hz with rfl | hz
        · exact hxy
        · exact Plate.lt_trans hxy (h1 z hz)
theorem insPl_len {x : Plate} : ∀ {l : List Plate}, (insPl x l).length ≤ l.length + 1
  | [] => by simp [insPl]
  | y :: r => by
    simp only [insPl]
    split
    · simp only [List.length_cons]; have := insPl_len (x := x) (l := r); omega
    · split <;> simp
theorem insPl_at {x : Plate} : ∀ {l : List Plate} {k : Nat}, k ≤ l.length → (∀ j, j < k → (l.getD j default).lt x = true) → (k < l.length → (l.getD k default).lt x = false) →
    insPl x l = if k < l.length ∧ l.getD k default = x then l else l.take k ++ x :: l.drop k
  | [], k, hk, _, _ => by
    have : k = 0 := by simpa using hk
    subst this
    simp [insPl]
  | y :: r, 0, _, _, h => by
    have h0 : y.lt x = false := by simpa using h (by simp)
    simp only [insPl, h0]
    by_cases e : y = x
    · simp [e]
    · simp [e]
  | y :: r, k + 1, hk, hj, h => by
    have h0 : y.lt x = true := by simpa using hj 0 (by omega)
    have ih := insPl_at (x := x) (l := r) (k := k) (by simpa using hk) (fun j hj' => by simpa using hj (j + 1) (by omega)) (fun hk' => by simpa using h (by simpa using hk'))
    simp only [insPl, h0, if_true, ih]
    by_cases e : k < r.length ∧ r.getD k default = x
    · rw [if_pos e, if_pos (by simpa using e)]
    · rw [if_neg e, if_neg (by simpa using e)]; simp
theorem plateK_ok {n k : Int} (b : Bool) (dy dn : Dice) (h1 : 1 ≤ n ∧ n ≤ 9) (h2 : 1 ≤ k ∧ k ≤ 2) : (plateK n b k dy dn).1.ok = true := by
  unfold plateK
  split
  · rw [ok_iff]; simp only; omega
  · rw [ok_iff]; simp only; omega
theorem plateN_ok (d : Dice) : (plateN d).1.ok = true := plateK_ok _ _ _ (fromN_le (by omega) d) (fromN_le (by omega) _)
theorem platesN_ok : ∀ (n : Nat) (d : Dice) (out : List Plate), out.length + n ≤ 8 → (∀ x, x ∈ out → x.ok = true) → out.Pairwise (fun a b => a.lt b = true) → Sound (platesN n d out).1
  | 0, d, out, hl, ho, hs => ⟨by simpa [platesN] using hl, ho, hs⟩
  | n + 1, d, out, hl, ho, hs => by
    have h1 := insPl_len (x := (plateN d).1) (l := out)
    refine platesN_ok n _ _ (by omega) (fun x hx => ?_) (strict_insPl hs)
    rcases mem_insPl.1 hx with rfl | hx
    · exact plateN_ok d
    · exact ho x hx
theorem platesOf_ok {d : Dice} {most : Int} (h : most ≤ 8) : Sound (platesOf d most).1 := by
  have := toN_range most d
  exact platesN_ok _ _ [] (by simp; omega) (by simp) (by simp)
theorem streetsN_ok {houses : Int} (h : houses ≤ 8) : ∀ (n : Nat) (d : Dice) (out : Plan), (∀ l, l ∈ out → Sound l) → (streetsN houses n d out).1.length = out.length + n ∧ ∀ l, l ∈ (streetsN houses n d out).1 → Sound l
  | 0, d, out, ho => ⟨rfl, ho⟩
  | n + 1, d, out, ho => by
    obtain ⟨h1, h2⟩ := streetsN_ok h n (streetN d houses).2 (out ++ [(streetN d houses).1]) (fun l hl => by
      rcases List.mem_append.1 hl with hl | hl
      · exact ho l hl
      · have : l = (streetN d houses).1 := by simpa using hl
        rw [this]
        exact platesOf_ok (by split <;> omega))
    refine ⟨?_, h2⟩
    have : (streetsN houses (n + 1) d out).1 = (streetsN houses n (streetN d houses).2 (out ++ [(streetN d houses).1])).1 := rfl
    rw [this, h1]; simp; omega
theorem planOf_ok {d : Dice} {houses : Int} (h : houses ≤ 8) : Valid (planOf d houses).1 := by
  have h0 := fromN_le (lo := 1) (hi := 3) (by omega) d
  obtain ⟨h1, h2⟩ := streetsN_ok h (fromN 1 3 d).toNat (fromD 1 3 d) [] (by simp)
  have e : (planOf d houses).1 = (streetsN houses (fromN 1 3 d).toNat (fromD 1 3 d) []).1 := rfl
  simp only [List.length_nil, Nat.zero_add] at h1
  exact ⟨by rw [e, h1]; omega, by rw [e, h1]; omega, fun l hl => h2 l (by rw [← e]; exact hl)⟩
def somePlate (d : Dice) (l : List Plate) : Plate × Dice :=
  if l.length = 0 then (⟨fromN 1 9 d, 0⟩, fromD 1 9 d)
  else if onceT 12 d = true then (⟨fromN 1 9 (onceR 12 d), 0⟩, fromD 1 9 (onceR 12 d))
  else (l.getD (toN (l.length - 1) (onceR 12 d)).toNat default, toD (l.length - 1) (onceR 12 d))
def changeAt (d : Dice) (p : Plan) (kind : Int) (s : Int) : Change × Dice :=
  if kind = 4 then (⟨4, s, (s + fromN 1 2 d) % p.length, zeroPlate, zeroPlate⟩, fromD 1 2 d)
  else if kind = 7 then
    let o := (s + fromN 1 2 d) % p.length
    let a := somePlate (fromD 1 2 d) (rowAt p s)
    let b := somePlate a.2 (rowAt p s)
    if b.1.lt a.1 = true then (⟨7, s, o, b.1, a.1⟩, b.2) else (⟨7, s, o, a.1, b.1⟩, b.2)
  else if kind = 5 ∨ kind = 6 then
    let a := somePlate d (rowAt p s)
    (⟨kind, s, 0, a.1, zeroPlate⟩, a.2)
  else (⟨kind, s, 0, zeroPlate, zeroPlate⟩, d)
def changeOf (d : Dice) (p : Plan) : Change × Dice := changeAt (toD (p.length - 1) (fromD 1 7 d)) p (fromN 1 7 d) (toN (p.length - 1) (fromD 1 7 d))
end Go.Abs

namespace Go.Abs
open Go
def sameNow (l : List Truth) (h : House) (x : Truth) : Nat := l.countP fun y => decide (x.now h = y.now h)
def groupOf (l : List Truth) (h : House) : Nat := l.foldl (fun m x => max m (sameNow l h x)) 0
def leastGo (g : List Nat) : List Nat → Nat → Int → Int
  | [], _, at_ => at_
  | x :: r, i, at_ => leastGo g r (i + 1) (if at_ < 0 ∨ x < g.getD at_.toNat 0 then i else at_)
def leastOf (g : List Nat) : Int := leastGo g g 0 (-1)
def groupsOf (s : Story) : List Nat := (housesOf s.first).map (groupOf (truthsOf s))
def askOf (s : Story) : Option (House × Nat) :=
  if (truthsOf s).length = 0 ∨ leastOf (groupsOf s) < 0 ∨ (groupsOf s).getD (leastOf (groupsOf s)).toNat 0 = (truthsOf s).length then none
  else some ((housesOf s.first).getD (leastOf (groupsOf s)).toNat default, (groupsOf s).getD (leastOf (groupsOf s)).toNat 0)
def whereL (s : Story) (h : House) : List House := (truthsOf s).flatMap fun t => t.now h
def whereErr (s : Story) (h : House) : Int := if storyErr s = 0 then if h ∈ housesOf s.first then if truthsOf s = [] then 11 else 0 else 3 else storyErr s
def whereOf (s : Story) (h : House) : List House := sortH (whereL s h)
def waysOf (s : Story) : List (List Int) := (truthsOf s).map fun t => t.ways
def askErr (s : Story) : Int := if storyErr s = 0 then (if (askOf s).isSome = true then 0 else 11) else storyErr s
def rowX (l : List Int) : List Plate := l.map fun n => ⟨n, 0⟩
def townX : Plan := [rowX [1, 2, 3, 4, 5], rowX [1, 2], []]
def atX (s n : Int) : House := ⟨s, ⟨n, 0⟩⟩
def joinX : Change := ⟨4, 1, 0, zeroPlate, zeroPlate⟩
def turnX : Change := ⟨1, 0, 0, zeroPlate, zeroPlate⟩
def swapX : Change := ⟨2, 0, 0, zeroPlate, zeroPlate⟩
def fellX : Change := ⟨6, 0, 0, ⟨3, 0⟩, zeroPlate⟩
def taleX : Story := ⟨townX, [[turnX, swapX], [joinX]], []⟩
def planX : Plan := [rowX [1, 2, 3, 4, 5, 7, 8], [], []]
def planY : Plan := [rowX [1, 2, 4, 5, 7, 8], [], []]
theorem x_err : errOf townX joinX = 0 := by kernel_rfl
theorem x_after : afterOf townX joinX = planX := by kernel_rfl
theorem x_story : storyErr taleX = 0 := by kernel_rfl
theorem x_ways : waysOf taleX = [[0, 0], [1, 0]] := by kernel_rfl
theorem x_whereL : whereL taleX (atX 0 1) = [atX 0 5, atX 0 2] := by kernel_rfl
theorem x_whereErr : whereErr taleX (atX 0 1) = 0 := by
  unfold whereErr
  rw [if_pos x_story, if_pos (by decide), if_neg]
  intro h
  have := x_ways
  unfold waysOf at this
  rw [h] at this
  cases this
theorem x_where : whereOf taleX (atX 0 1) = [atX 0 2, atX 0 5] := by kernel_rfl
theorem x_ask : askOf taleX = some (atX 0 1, 1) := by kernel_rfl
theorem x_guess : guessOf townX planY = some [joinX, fellX] := by kernel_rfl
end Go.Abs

namespace Go.Abs
open Go
theorem insH_at {x : House} : ∀ {l : List House} {k : Nat}, k ≤ l.length → (∀ j, j < k → (l.getD j default).lt x = true) → (k < l.length → (l.getD k default).lt x = false) →
    insH x l = if k < l.length ∧ l.getD k default = x then l else l.take k ++ x :: l.drop k
  | [], k, hk, _, _ => by
    have : k = 0 := by simpa using hk
    subst this
    simp [insH]
  | y :: r, 0, _, _, h => by
    have h0 : y.lt x = false := by simpa using h (by simp)
    simp only [insH, h0]
    by_cases e : y = x
    · simp [e]
    · simp [e]
  | y :: r, k + 1, hk, hj, h => by
    have h0 : y.lt x = true := by simpa using hj 0 (by omega)
    have ih := insH_at (x := x) (l := r) (k := k) (by simpa using hk) (fun j hj' => by simpa using hj (j + 1) (by omega)) (fun hk' => by simpa using h (by simpa using hk'))
    simp only [insH, h0, if_true, ih]
    by_cases e : k < r.length ∧ r.getD k default = x
    · rw [if_pos e, if_pos (by simpa using e)]
    · rw [if_neg e, if_neg (by simpa using e)]; simp
theorem insH_len {x : House} : ∀ {l : List House}, (insH x l).length ≤ l.length + 1
  | [] => by simp [insH]
  | y :: r => by
    simp only [insH]
    split
    · simp only [List.length_cons]; have := insH_len (x := x) (l := r); omega
    · split <;> simp
theorem foldH_len : ∀ (l out : List House), (l.foldl (fun out x => insH x out) out).length ≤ out.length + l.length
  | [], out => by simp
  | x :: r, out => by
    have h1 := foldH_len r (insH x out)
    have h2 := insH_len (x := x) (l := out)
    simp only [List.foldl_cons, List.length_cons]; omega
structure Move where
  src : House
  dst : House
  deriving DecidableEq, Inhabited
@[reducible] def Move.enc (m : Move) : AV := .agg [iV m.src.street, iV m.src.plate.number, iV m.src.plate.letter, iV m.dst.street, iV m.dst.plate.number, iV m.dst.plate.letter]
attribute [go_sem] Move.enc
def movesOf (p : Plan) (c : Change) : List Move := (housesOf p).flatMap fun h => (mv p c h).map fun z => ⟨h, z⟩
theorem moves_dst (p : Plan) (c : Change) : (movesOf p c).map Move.dst = flatMv p c := by
  unfold movesOf flatMv
  rw [List.map_flatMap]
  simp [Function.comp_def]
theorem mv_len_all (p : Plan) (c : Change) (h : House) : (mv p c h).length ≤ 2 := by
  unfold mv toP
  repeat' split
  all_goals simp
theorem moves_len (p : Plan) (c : Change) : (movesOf p c).length ≤ 2 * (housesOf p).length := by
  unfold movesOf
  have : ∀ l : List House, (l.flatMap fun h => (mv p c h).map fun z => (⟨h, z⟩ : Move)).length ≤ 2 * l.length := fun l => by
    induction l with
    | nil => simp
    | cons x r ih =>
      have := mv_len_all p c x
      simp only [List.flatMap_cons, List.length_append, List.length_map, List.length_cons]; omega
  exact this _
def becomesErr (p : Plan) (c : Change) (h : House) : Int := if errOf p c = 0 then (if h ∈ housesOf p then 0 else 3) else errOf p c
def becomesOf (p : Plan) (c : Change) (h : House) : List House := if becomesErr p c h = 0 then sortH (mv p c h) else []
def wasOf (p : Plan) (c : Change) (h : House) : Option House := (housesOf p).find? fun x => decide (h ∈ mv p c x)
def wasErr (p : Plan) (c : Change) (h : House) : Int := if errOf p c = 0 then (if (wasOf p c h).isSome = true then 0 else 3) else errOf p c
end Go.Abs

namespace Go.Abs
open Go Go.Proofs
structure Plate.Wf (x : Plate) : Prop where
  n : (Lit.int .i64 x.number).wf = true
  l : (Lit.int .i64 x.letter).wf = true
structure PlanB (N : Nat) (p : Plan) : Prop where
  len : p.length ≤ N
  rows : ∀ l, l ∈ p → l.length ≤ N
  wf : ∀ l, l ∈ p → ∀ x, x ∈ l → x.Wf
structure Bound (N : Nat) (s : Story) : Prop where
  first : PlanB N s.first
  steps : s.steps.length ≤ N
  ways : ∀ w, w ∈ s.steps → w.length ≤ N
  facts : s.facts.length ≤ N
  wf : ∀ f, f ∈ s.facts → f.src.Wf ∧ f.dst.Wf
theorem PlanB.house {N : Nat} {p : Plan} (b : PlanB N p) (hN : N ≤ 4294967296) : ∀ h, h ∈ housesOf p → h.Wf := fun h hh => by
  obtain ⟨h0, h1, h2⟩ := mem_houses.1 hh
  have hl := b.len
  have w := b.wf _ (rowAt_mem h0 h1) _ h2
  exact ⟨wf_small (by omega) (by omega), w.n, w.l⟩
theorem err_zero {p : Plan} {c : Change} (h : errOf p c = 0) : Valid p ∧ Fit p c := by
  unfold errOf at h
  split at h
  · rename_i hc; exact ⟨(check_zero p).1 hc, Fit.of_can h⟩
  · rename_i hc; exact absurd h hc
def zeroH : House := ⟨0, ⟨0, 0⟩⟩
def wasH (p : Plan) (c : Change) (h : House) : House := if wasErr p c h = 0 then (wasOf p c h).getD zeroH else zeroH
end Go.Abs

namespace Go.Abs
open Go Go.Proofs
set_option maxRecDepth 10000
@[reducible] def encInts (l : List Int) : AV := .list (l.map iV)
attribute [go_sem] encInts
theorem sp_EqInts (a b : List Int) (h1 : a.length ≤ 4294967296) : Spec Tryz.prog 61 [encInts a, encInts b] [] (bV (decide (a = b))) [] := by
  refine spec_body Tryz.func61 rfl (fun E hE => ?_); simp only [go_sem, Tryz.ntmps61]
  repeat' (first | (with_reducible (show runOps ..); first | (refine Qr rfl ?_; try intro K' hK; try simp only [go_sem, *])) | (with_reducible (show Hold ..); first | refine Qh rfl ?_ | refine s_draw rfl Tryz.mixed (by kernel_rfl) ?_ | (refine s_cond rfl ⟨_, rfl, fun hb => ?_, fun hb => ?_⟩ <;> (have hc := hb; try simp only [go_sem] at hc)) | refine s_ret rfl ?_) | ((with_reducible refine Qb ?_ ?_); focus kernel_rfl) | ((with_reducible refine And.intro ?_ ?_); focus omega) | (refine contA_of hK ?_; clear hK K'; simp only [go_sem, *]) | (simp only [thenA, inBlockA, go_sem, *]))
  · (refine ⟨[_], [], [], ⟨rfl, trivial⟩, ?_⟩; simp only [go_sem, *])
    simp [len_no (a := a) (b := b) (by assumption)]
  · have hlb : a.length = b.length := by assumption
    refine s_loop rfl (fun zn zN zenv zAs => ∃ (i : Nat), zn = (b.length) - i ∧ i ≤ (b.length) ∧ (a.take i = b.take i) ∧ zN = 26 ∧ zenv = [(5, iV i), (0, encInts a), (1, encInts b)] ∧ zAs = []) (b.length) ⟨[], [], _, _, _, (by (simp only [Weak, go_sem, List.map_append, List.map_set, *] <;> (try simp (disch := omega) only [wrap_succ]) <;> (try simp) <;> (try omega))), 0, (by simp), (by simp), (by simp), rfl, rfl, rfl⟩ ?_; rintro _ _ _ _ ⟨i, rfl, hi, hP, rfl, rfl, rfl⟩
    repeat' (first | (with_reducible (show runOps ..); first | (refine Qr rfl ?_; try intro K' hK; try simp only [go_sem, *])) | (with_reducible (show Hold ..); first | refine Qh rfl ?_ | refine s_draw rfl Tryz.mixed (by kernel_rfl) ?_ | (refine s_cond rfl ⟨_, rfl, fun hb => ?_, fun hb => ?_⟩ <;> (have hc := hb; try simp only [go_sem] at hc)) | refine s_ret rfl ?_) | ((with_reducible refine Qb ?_ ?_); focus kernel_rfl) | ((with_reducible refine And.intro ?_ ?_); focus omega) | (refine contA_of hK ?_; clear hK K'; simp only [go_sem, *]) | (simp only [thenA, inBlockA, go_sem, *]))
    · (refine ⟨[_], [], [], ⟨rfl, trivial⟩, ?_⟩; simp only [go_sem, *])
      simp [tk_no (a := a) (b := b) (i := i) (by assumption)]
    · refine ⟨_, (by omega), [], [], _, _, _, (by (simp only [Weak, go_sem, List.map_append, List.map_set, *] <;> (try simp (disch := omega) only [wrap_succ]) <;> (try simp) <;> (try omega))), i + 1, rfl, (by omega), (by exact tk_next (by omega) (by omega) hP (by assumption)), rfl, rfl, rfl⟩
    · (refine ⟨[_], [], [], ⟨rfl, trivial⟩, ?_⟩; simp only [go_sem, *])
      simp [tk_end (by omega) hlb hP]
theorem sp_EqLists (a b : List (List Int)) (h1 : a.length ≤ 4294967296) (hrl : ∀ l, l ∈ a → l.length ≤ 4294967296) : Spec Tryz.prog 44 [.list (a.map encInts), .list (b.map encInts)] [] (bV (decide (a = b))) [] := by
  refine spec_body Tryz.func44 rfl (fun E hE => ?_); simp only [go_sem, Tryz.ntmps44]
  repeat' (first | (with_reducible (show runOps ..); first | (refine Qr rfl ?_; try intro K' hK; try simp only [go_sem, *])) | (with_reducible (show Hold ..); first | refine Qh rfl ?_ | refine s_draw rfl Tryz.mixed (by kernel_rfl) ?_ | (refine s_cond rfl ⟨_, rfl, fun hb => ?_, fun hb => ?_⟩ <;> (have hc := hb; try simp only [go_sem] at hc)) | refine s_ret rfl ?_) | ((with_reducible refine Qb ?_ ?_); focus kernel_rfl) | ((with_reducible refine And.intro ?_ ?_); focus omega) | (refine contA_of hK ?_; clear hK K'; simp only [go_sem, *]) | (simp only [thenA, inBlockA, go_sem, *]))
  · (refine ⟨[_], [], [], ⟨rfl, trivial⟩, ?_⟩; simp only [go_sem, *])
    simp [len_no (a := a) (b := b) (by assumption)]
  · have hlb : a.length = b.length := by assumption
    refine s_loop rfl (fun zn zN zenv zAs => ∃ (i : Nat), zn = (b.length) - i ∧ i ≤ (b.length) ∧ (a.take i = b.take i) ∧ zN = 27 ∧ zenv = [(5, iV i), (0, .list (a.map encInts)), (1, .list (b.map encInts))] ∧ zAs = []) (b.length) ⟨[], [], _, _, _, (by (simp only [Weak, go_sem, List.map_append, List.map_set, *] <;> (try simp (disch := omega) only [wrap_succ]) <;> (try simp) <;> (try omega))), 0, (by simp), (by simp), (by simp), rfl, rfl, rfl⟩ ?_; rintro _ _ _ _ ⟨i, rfl, hi, hP, rfl, rfl, rfl⟩
    repeat' (first | (with_reducible (show runOps ..); first | (refine Qr rfl ?_; try intro K' hK; try simp only [go_sem, *])) | (with_reducible (show Hold ..); first | refine Qh rfl ?_ | refine s_draw rfl Tryz.mixed (by kernel_rfl) ?_ | (refine s_cond rfl ⟨_, rfl, fun hb => ?_, fun hb => ?_⟩ <;> (have hc := hb; try simp only [go_sem] at hc)) | refine s_ret rfl ?_) | (with_reducible (show callA ..); first | (refine call_s (sp_EqInts (List.getD a i default) (List.getD b i default) (hrl _ (getD_mem (by omega)))) ?_ ?_; (focus (simp only [go_sem, *]; done)); simp only [go_sem, *])) | ((with_reducible refine Qb ?_ ?_); focus kernel_rfl) | ((with_reducible refine And.intro ?_ ?_); focus omega) | (refine contA_of hK ?_; clear hK K'; simp only [go_sem, *]) | (simp only [thenA, inBlockA, go_sem, *]))
    · (refine ⟨[_], [], [], ⟨rfl, trivial⟩, ?_⟩; simp only [go_sem, *])
      simp [tk_no (a := a) (b := b) (i := i) (by assumption)]
    · refine ⟨_, (by omega), [], [], _, _, _, (by (simp only [Weak, go_sem, List.map_append, List.map_set, *] <;> (try simp (disch := omega) only [wrap_succ]) <;> (try simp) <;> (try omega))), i + 1, rfl, (by omega), (by exact tk_next (by omega) (by omega) hP (by assumption)), rfl, rfl, rfl⟩
    · (refine ⟨[_], [], [], ⟨rfl, trivial⟩, ?_⟩; simp only [go_sem, *])
      simp [tk_end (by omega) hlb hP]
theorem sp_EqPlaces (a b : List House) (h1 : a.length ≤ 4294967296) : Spec Tryz.prog 37 [encHouses a, encHouses b] [] (bV (decide (a = b))) [] := by
  refine spec_body Tryz.func37 rfl (fun E hE => ?_); simp only [go_sem, Tryz.ntmps37]
  repeat' (first | (with_reducible (show runOps ..); first | (refine Qr rfl ?_; try intro K' hK; try simp only [go_sem, *])) | (with_reducible (show Hold ..); first | refine Qh rfl ?_ | refine s_draw rfl Tryz.mixed (by kernel_rfl) ?_ | (refine s_cond rfl ⟨_, rfl, fun hb => ?_, fun hb => ?_⟩ <;> (have hc := hb; try simp only [go_sem] at hc)) | refine s_ret rfl ?_) | ((with_reducible refine Qb ?_ ?_); focus kernel_rfl) | ((with_reducible refine And.intro ?_ ?_); focus omega) | (refine contA_of hK ?_; clear hK K'; simp only [go_sem, *]) | (simp only [thenA, inBlockA, go_sem, *]))
  · (refine ⟨[_], [], [], ⟨rfl, trivial⟩, ?_⟩; simp only [go_sem, *])
    simp [len_no (a := a) (b := b) (by assumption)]
  · have hlb : a.length = b.length := by assumption
    refine s_loop rfl (fun zn zN zenv zAs => ∃ (i : Nat), zn = (b.length) - i ∧ i ≤ (b.length) ∧ (a.take i = b.take i) ∧ zN = 26 ∧ zenv = [(5, iV i), (0, encHouses a), (1, encHouses b)] ∧ zAs = []) (b.length) ⟨[], [], _, _, _, (by (simp only [Weak, go_sem, List.map_append, List.map_set, *] <;> (try simp (disch := omega) only [wrap_succ]) <;> (try simp) <;> (try omega))), 0, (by simp), (by simp), (by simp), rfl, rfl, rfl⟩ ?_; rintro _ _ _ _ ⟨i, rfl, hi, hP, rfl, rfl, rfl⟩
    repeat' (first | (with_reducible (show runOps ..); first | (refine Qr rfl ?_; try intro K' hK; try simp only [go_sem, *])) | (with_reducible (show Hold ..); first | refine Qh rfl ?_ | refine s_draw rfl Tryz.mixed (by kernel_rfl) ?_ | (refine s_cond rfl ⟨_, rfl, fun hb => ?_, fun hb => ?_⟩ <;> (have hc := hb; try simp only [go_sem] at hc)) | refine s_ret rfl ?_) | ((with_reducible refine Qb ?_ ?_); focus kernel_rfl) | ((with_reducible refine And.intro ?_ ?_); focus omega) | (refine contA_of hK ?_; clear hK K'; simp only [go_sem, *]) | (simp only [thenA, inBlockA, go_sem, *]))
    · (refine ⟨[_], [], [], ⟨rfl, trivial⟩, ?_⟩; simp only [go_sem, *])
      simp [tk_no (a := a) (b := b) (i := i) (by assumption)]
    · refine ⟨_, (by omega), [], [], _, _, _, (by (simp only [Weak, go_sem, List.map_append, List.map_set, *] <;> (try simp (disch := omega) only [wrap_succ]) <;> (try simp) <;> (try omega))), i + 1, rfl, (by omega), (by exact tk_next (by omega) (by omega) hP (by assumption)), rfl, rfl, rfl⟩
    · (refine ⟨[_], [], [], ⟨rfl, trivial⟩, ?_⟩; simp only [go_sem, *])
      simp [tk_end (by omega) hlb hP]
theorem sp_EqChanges (a b : List Change) (h1 : a.length ≤ 4294967296) : Spec Tryz.prog 33 [.list (a.map Change.enc), .list (b.map Change.enc)] [] (bV (decide (a = b))) [] := by
  refine spec_body Tryz.func33 rfl (fun E hE => ?_); simp only [go_sem, Tryz.ntmps33]
  repeat' (first | (with_reducible (show runOps ..); first | (refine Qr rfl ?_; try intro K' hK; try simp only [go_sem, *])) | (with_reducible (show Hold ..); first | refine Qh rfl ?_ | refine s_draw rfl Tryz.mixed (by kernel_rfl) ?_ | (refine s_cond rfl ⟨_, rfl, fun hb => ?_, fun hb => ?_⟩ <;> (have hc := hb; try simp only [go_sem] at hc)) | refine s_ret rfl ?_) | ((with_reducible refine Qb ?_ ?_); focus kernel_rfl) | ((with_reducible refine And.intro ?_ ?_); focus omega) | (refine contA_of hK ?_; clear hK K'; simp only [go_sem, *]) | (simp only [thenA, inBlockA, go_sem, *]))
  · (refine ⟨[_], [], [], ⟨rfl, trivial⟩, ?_⟩; simp only [go_sem, *])
    simp [len_no (a := a) (b := b) (by assumption)]
  · have hlb : a.length = b.length := by assumption
    refine s_loop rfl (fun zn zN zenv zAs => ∃ (i : Nat), zn = (b.length) - i ∧ i ≤ (b.length) ∧ (a.take i = b.take i) ∧ zN = 26 ∧ zenv = [(5, iV i), (0, .list (a.map Change.enc)), (1, .list (b.map Change.enc))] ∧ zAs = []) (b.length) ⟨[], [], _, _, _, (by (simp only [Weak, go_sem, List.map_append, List.map_set, *] <;> (try simp (disch := omega) only [wrap_succ]) <;> (try simp) <;> (try omega))), 0, (by simp), (by simp), (by simp), rfl, rfl, rfl⟩ ?_; rintro _ _ _ _ ⟨i, rfl, hi, hP, rfl, rfl, rfl⟩
    repeat' (first | (with_reducible (show runOps ..); first | (refine Qr rfl ?_; try intro K' hK; try simp only [go_sem, *])) | (with_reducible (show Hold ..); first | refine Qh rfl ?_ | refine s_draw rfl Tryz.mixed (by kernel_rfl) ?_ | (refine s_cond rfl ⟨_, rfl, fun hb => ?_, fun hb => ?_⟩ <;> (have hc := hb; try simp only [go_sem] at hc)) | refine s_ret rfl ?_) | ((with_reducible refine Qb ?_ ?_); focus kernel_rfl) | ((with_reducible refine And.intro ?_ ?_); focus omega) | (refine contA_of hK ?_; clear hK K'; simp only [go_sem, *]) | (simp only [thenA, inBlockA, go_sem, *]))
    · (refine ⟨[_], [], [], ⟨rfl, trivial⟩, ?_⟩; simp only [go_sem, *])
      simp [tk_no (a := a) (b := b) (i := i) (by assumption)]
    · refine ⟨_, (by omega), [], [], _, _, _, (by (simp only [Weak, go_sem, List.map_append, List.map_set, *] <;> (try simp (disch := omega) only [wrap_succ]) <;> (try simp) <;> (try omega))), i + 1, rfl, (by omega), (by exact tk_next (by omega) (by omega) hP (by assumption)), rfl, rfl, rfl⟩
    · (refine ⟨[_], [], [], ⟨rfl, trivial⟩, ?_⟩; simp only [go_sem, *])
      simp [tk_end (by omega) hlb hP]
theorem sp_EqPlans (a b : Plan) (h1 : a.length ≤ 4294967296) (hrl : ∀ l, l ∈ a → l.length ≤ 4294967296) : Spec Tryz.prog 29 [encPlan a, encPlan b] [] (bV (decide (a = b))) [] := by
  refine spec_body Tryz.func29 rfl (fun E hE => ?_); simp only [go_sem, Tryz.ntmps29]
  repeat' (first | (with_reducible (show runOps ..); first | (refine Qr rfl ?_; try intro K' hK; try simp only [go_sem, *])) | (with_reducible (show Hold ..); first | refine Qh rfl ?_ | refine s_draw rfl Tryz.mixed (by kernel_rfl) ?_ | (refine s_cond rfl ⟨_, rfl, fun hb => ?_, fun hb => ?_⟩ <;> (have hc := hb; try simp only [go_sem] at hc)) | refine s_ret rfl ?_) | ((with_reducible refine Qb ?_ ?_); focus kernel_rfl) | ((with_reducible refine And.intro ?_ ?_); focus omega) | (refine contA_of hK ?_; clear hK K'; simp only [go_sem, *]) | (simp only [thenA, inBlockA, go_sem, *]))
  · (refine ⟨[_], [], [], ⟨rfl, trivial⟩, ?_⟩; simp only [go_sem, *])
    simp [len_no (a := a) (b := b) (by assumption)]
  · have hlb : a.length = b.length := by assumption
    refine s_loop rfl (fun zn zN zenv zAs => ∃ (i : Nat), zn = (b.length) - i ∧ i ≤ (b.length) ∧ (a.take i = b.take i) ∧ zN = 61 ∧ zenv = [(5, iV i), (2, .ptr 0 0), (3, .ptr 1 0)] ∧ zAs = [pBox a, pBox b]) (b.length) ⟨[some 0, some 1], [], _, _, _, (by (simp only [Weak, go_sem, List.map_append, List.map_set, *] <;> (try simp (disch := omega) only [wrap_succ]) <;> (try simp) <;> (try omega))), 0, (by simp), (by simp), (by simp), rfl, rfl, rfl⟩ ?_; rintro _ _ _ _ ⟨i, rfl, hi, hP, rfl, rfl, rfl⟩
    by_cases hi2 : i < b.length
    · have hra := hrl _ (getD_mem (l := a) (i := i) (by omega))
      have hia : i < a.length := by omega
      obtain ⟨e1, he1⟩ : ∃ e1, e1 = a.getD i default := ⟨_, rfl⟩
      obtain ⟨e2, he2⟩ : ∃ e2, e2 = b.getD i default := ⟨_, rfl⟩
      have nx0 : e1 = e2 → a.take (i + 1) = b.take (i + 1) := fun e => tk_next (by omega) (by omega) hP (by rw [← he1, ← he2]; exact e)
      have no0 : ¬ e1 = e2 → ¬ a = b := fun e => tk_no (i := i) (by rw [← he1, ← he2]; exact e)
      rw [← he1] at hra
      repeat' (first | (with_reducible (show runOps ..); first | (refine Qr rfl ?_; try intro K' hK; try simp only [go_sem, *])) | (with_reducible (show Hold ..); first | refine Qh rfl ?_ | refine s_draw rfl Tryz.mixed (by kernel_rfl) ?_ | (refine s_cond rfl ⟨_, rfl, fun hb => ?_, fun hb => ?_⟩ <;> (have hc := hb; try simp only [go_sem] at hc)) | refine s_ret rfl ?_) | ((with_reducible refine Qb ?_ ?_); focus kernel_rfl) | ((with_reducible refine And.intro ?_ ?_); focus omega) | (refine contA_of hK ?_; clear hK K'; simp only [go_sem, *]) | (simp only [thenA, inBlockA, go_sem, *]))
      · rw [← he1, ← he2] at *
        (refine ⟨[_], [], [], ⟨rfl, trivial⟩, ?_⟩; simp only [go_sem, *])
        simp [no0 (len_no (by assumption))]
      · have hl2 : (a.getD i default).length = (b.getD i default).length := by assumption
        have hkb : (b.getD i default).length ≤ 4294967296 := by rw [← hl2, ← he1]; exact hra
        refine s_loop rfl (fun zn zN zenv zAs => ∃ (k : Nat), zn = ((b.getD i default).length) - k ∧ k ≤ ((b.getD i default).length) ∧ ((a.getD i default).take k = (b.getD i default).take k) ∧ zN = 61 ∧ zenv = [(6, iV k), (5, iV i), (2, .ptr 0 0), (3, .ptr 1 0)] ∧ zAs = [pBox a, pBox b]) ((b.getD i default).length) ⟨[some 0, some 1], [], _, _, _, (by (simp only [Weak, go_sem, List.map_append, List.map_set, *] <;> (try simp (disch := omega) only [wrap_succ]) <;> (try simp) <;> (try omega))), 0, (by simp), (by simp), (by simp), rfl, rfl, rfl⟩ ?_; rintro _ _ _ _ ⟨k, rfl, hk, hQ, rfl, rfl, rfl⟩
        repeat' (first | (with_reducible (show runOps ..); first | (refine Qr rfl ?_; try intro K' hK; try simp only [go_sem, *])) | (with_reducible (show Hold ..); first | refine Qh rfl ?_ | refine s_draw rfl Tryz.mixed (by kernel_rfl) ?_ | (refine s_cond rfl ⟨_, rfl, fun hb => ?_, fun hb => ?_⟩ <;> (have hc := hb; try simp only [go_sem] at hc)) | refine s_ret rfl ?_) | ((with_reducible refine Qb ?_ ?_); focus kernel_rfl) | ((with_reducible refine And.intro ?_ ?_); focus omega) | (refine contA_of hK ?_; clear hK K'; simp only [go_sem, *]) | (simp only [thenA, inBlockA, go_sem, *]))
        · (refine ⟨[_], [], [], ⟨rfl, trivial⟩, ?_⟩; simp only [go_sem, *])
          simp [no0 (by rw [he1, he2]; exact tk_no (i := k) (by assumption))]
        · refine ⟨_, (by omega), [some 0, some 1], [], _, _, _, (by (simp only [Weak, go_sem, List.map_append, List.map_set, *] <;> (try simp (disch := omega) only [wrap_succ]) <;> (try simp) <;> (try omega))), k + 1, rfl, (by omega), (by exact tk_next (by omega) (by omega) hQ (by assumption)), rfl, rfl, rfl⟩
        · refine ⟨_, (by omega), [some 0, some 1], [], _, _, _, (by (simp only [Weak, go_sem, List.map_append, List.map_set, *] <;> (try simp (disch := omega) only [wrap_succ]) <;> (try simp) <;> (try omega))), i + 1, rfl, (by omega), (by exact nx0 (by rw [he1, he2]; exact tk_end (by omega) hl2 hQ)), rfl, rfl, rfl⟩
    · repeat' (first | (with_reducible (show runOps ..); first | (refine Qr rfl ?_; try intro K' hK; try simp only [go_sem, *])) | (with_reducible (show Hold ..); first | refine Qh rfl ?_ | refine s_draw rfl Tryz.mixed (by kernel_rfl) ?_ | (refine s_cond rfl ⟨_, rfl, fun hb => ?_, fun hb => ?_⟩ <;> (have hc := hb; try simp only [go_sem] at hc)) | refine s_ret rfl ?_) | ((with_reducible refine Qb ?_ ?_); focus kernel_rfl) | ((with_reducible refine And.intro ?_ ?_); focus omega) | (refine contA_of hK ?_; clear hK K'; simp only [go_sem, *]) | (simp only [thenA, inBlockA, go_sem, *]))
      (refine ⟨[_], [], [], ⟨rfl, trivial⟩, ?_⟩; simp only [go_sem, *])
      simp [tk_end (by omega) hlb hP]
theorem sp_row (l : List Int) (h1 : l.length ≤ 1000) : Spec Tryz.prog 81 [encInts l] [] (encStreet (rowX l)) [] := by
  refine spec_body Tryz.func81 rfl (fun E hE => ?_); simp only [go_sem, Tryz.ntmps81]
  repeat' (first | (with_reducible (show runOps ..); first | (refine Qr rfl ?_; try intro K' hK; try simp only [go_sem, *])) | (with_reducible (show Hold ..); first | refine Qh rfl ?_ | (refine s_cond rfl ⟨_, rfl, fun hb => ?_, fun hb => ?_⟩ <;> (have hc := hb; try simp only [go_sem] at hc)) | refine s_ret rfl ?_) | ((with_reducible refine Qb ?_ ?_); focus kernel_rfl) | ((with_reducible refine And.intro ?_ ?_); focus omega) | (refine contA_of hK ?_; clear hK K'; simp only [go_sem, *]) | (simp only [thenA, inBlockA, go_sem, *]))
  refine s_loop rfl (fun zn zN zenv zAs => ∃ (i : Nat) (acc : List Plate), zn = (l.length) - i ∧ i ≤ (l.length) ∧ (acc ++ rowX (l.drop i) = rowX l) ∧ zN = 20 ∧ zenv = [(4, iV i), (3, .own 0 2 0 acc.length), (0, encInts l)] ∧ zAs = [.row 2 (acc.map Plate.enc)]) (l.length) ⟨[none], [], _, _, _, (by (simp only [Weak, go_sem, List.map_append, List.map_set, *] <;> (try simp (disch := omega) only [wrap_succ]) <;> (try simp) <;> (try omega))), 0, [], (by simp), (by simp), (by simp), rfl, rfl, rfl⟩ ?_; rintro _ _ _ _ ⟨i, acc, rfl, hi, hP, rfl, rfl, rfl⟩
  have hlen := congrArg List.length hP
  simp only [rowX, List.length_append, List.length_map, List.length_drop] at hlen
  repeat' (first | (with_reducible (show runOps ..); first | (refine Qr rfl ?_; try intro K' hK; try simp only [go_sem, *])) | (with_reducible (show Hold ..); first | refine Qh rfl ?_ | (refine s_cond rfl ⟨_, rfl, fun hb => ?_, fun hb => ?_⟩ <;> (have hc := hb; try simp only [go_sem] at hc)) | refine s_ret rfl ?_) | ((with_reducible refine Qb ?_ ?_); focus kernel_rfl) | ((with_reducible refine And.intro ?_ ?_); focus omega) | (refine contA_of hK ?_; clear hK K'; simp only [go_sem, *]) | (simp only [thenA, inBlockA, go_sem, *]))
  · have hi2 : i < l.length := by assumption
    refine ⟨_, (by omega), [some 2], [], _, _, _, (by (simp only [Weak, go_sem, List.map_append, List.map_set, *] <;> (try simp (disch := omega) only [wrap_succ]) <;> (try simp) <;> (try omega))), i + 1, acc ++ [⟨l.getD i default, 0⟩], rfl, (by omega), (by rw [← hP, drop_cons hi2]; simp [rowX]), rfl, rfl, rfl⟩
  · rw [drop_end (by omega)] at hP
    have hP2 : acc = rowX l := by simpa [rowX] using hP
    subst hP2
    refine ⟨[_], [], [0], ⟨rfl, trivial⟩, ?_⟩
    simp only [go_sem, *]
    simp [List.take_of_length_le]
theorem sp_plan (a b c : List Plate) : Spec Tryz.prog 80 [encStreet a, encStreet b, encStreet c] [] (encPlan [a, b, c]) [] := by
  refine spec_body Tryz.func80 rfl (fun E hE => ?_); simp only [go_sem, Tryz.ntmps80]
  repeat' (first | (with_reducible (show runOps ..); first | (refine Qr rfl ?_; try intro K' hK; try simp only [go_sem, *])) | (with_reducible (show Hold ..); first | refine Qh rfl ?_ | (refine s_cond rfl ⟨_, rfl, fun hb => ?_, fun hb => ?_⟩ <;> (have hc := hb; try simp only [go_sem] at hc)) | refine s_ret rfl ?_) | ((with_reducible refine Qb ?_ ?_); focus kernel_rfl) | ((with_reducible refine And.intro ?_ ?_); focus omega) | (refine contA_of hK ?_; clear hK K'; simp only [go_sem, *]) | (simp only [thenA, inBlockA, go_sem, *]))
  refine ⟨[.agg [.own 1 1 0 3]], [], [1], ⟨by simp only [resOne, go_sem], trivial⟩, ?_⟩
  simp only [go_sem, *]
theorem sp_lat (s n : Int) : Spec Tryz.prog 79 [iV s, iV n] [] (atX s n).enc [] := by
  refine spec_body Tryz.func79 rfl (fun E hE => ?_); simp only [go_sem, Tryz.ntmps79]
  repeat' (first | (with_reducible (show runOps ..); first | (refine Qr rfl ?_; try intro K' hK; try simp only [go_sem, *])) | (with_reducible (show Hold ..); first | refine Qh rfl ?_ | (refine s_cond rfl ⟨_, rfl, fun hb => ?_, fun hb => ?_⟩ <;> (have hc := hb; try simp only [go_sem] at hc)) | refine s_ret rfl ?_) | ((with_reducible refine Qb ?_ ?_); focus kernel_rfl) | ((with_reducible refine And.intro ?_ ?_); focus omega) | (refine contA_of hK ?_; clear hK K'; simp only [go_sem, *]) | (simp only [thenA, inBlockA, go_sem, *]))
  refine ⟨[(atX s n).enc], [], [], ⟨(by simp only [resOne, go_sem, atX]), trivial⟩, ?_⟩; simp only [go_sem, *]
theorem sp_join (s o : Int) : Spec Tryz.prog 77 [iV s, iV o] [] (Change.enc ⟨4, s, o, zeroPlate, zeroPlate⟩) [] := by
  refine spec_body Tryz.func77 rfl (fun E hE => ?_); simp only [go_sem, Tryz.ntmps77]
  repeat' (first | (with_reducible (show runOps ..); first | (refine Qr rfl ?_; try intro K' hK; try simp only [go_sem, *])) | (with_reducible (show Hold ..); first | refine Qh rfl ?_ | (refine s_cond rfl ⟨_, rfl, fun hb => ?_, fun hb => ?_⟩ <;> (have hc := hb; try simp only [go_sem] at hc)) | refine s_ret rfl ?_) | ((with_reducible refine Qb ?_ ?_); focus kernel_rfl) | ((with_reducible refine And.intro ?_ ?_); focus omega) | (refine contA_of hK ?_; clear hK K'; simp only [go_sem, *]) | (simp only [thenA, inBlockA, go_sem, *]))
  refine ⟨[Change.enc ⟨4, s, o, zeroPlate, zeroPlate⟩], [], [], ⟨(by simp only [resOne, go_sem, zeroPlate]), trivial⟩, ?_⟩; simp only [go_sem, *]
theorem sp_turn (s : Int) : Spec Tryz.prog 123 [iV s] [] (Change.enc ⟨1, s, 0, zeroPlate, zeroPlate⟩) [] := by
  refine spec_body Tryz.func123 rfl (fun E hE => ?_); simp only [go_sem, Tryz.ntmps123]
  repeat' (first | (with_reducible (show runOps ..); first | (refine Qr rfl ?_; try intro K' hK; try simp only [go_sem, *])) | (with_reducible (show Hold ..); first | refine Qh rfl ?_ | (refine s_cond rfl ⟨_, rfl, fun hb => ?_, fun hb => ?_⟩ <;> (have hc := hb; try simp only [go_sem] at hc)) | refine s_ret rfl ?_) | ((with_reducible refine Qb ?_ ?_); focus kernel_rfl) | ((with_reducible refine And.intro ?_ ?_); focus omega) | (refine contA_of hK ?_; clear hK K'; simp only [go_sem, *]) | (simp only [thenA, inBlockA, go_sem, *]))
  refine ⟨[Change.enc ⟨1, s, 0, zeroPlate, zeroPlate⟩], [], [], ⟨(by simp only [resOne, go_sem, zeroPlate]), trivial⟩, ?_⟩; simp only [go_sem, *]
theorem sp_swap (s : Int) : Spec Tryz.prog 124 [iV s] [] (Change.enc ⟨2, s, 0, zeroPlate, zeroPlate⟩) [] := by
  refine spec_body Tryz.func124 rfl (fun E hE => ?_); simp only [go_sem, Tryz.ntmps124]
  repeat' (first | (with_reducible (show runOps ..); first | (refine Qr rfl ?_; try intro K' hK; try simp only [go_sem, *])) | (with_reducible (show Hold ..); first | refine Qh rfl ?_ | (refine s_cond rfl ⟨_, rfl, fun hb => ?_, fun hb => ?_⟩ <;> (have hc := hb; try simp only [go_sem] at hc)) | refine s_ret rfl ?_) | ((with_reducible refine Qb ?_ ?_); focus kernel_rfl) | ((with_reducible refine And.intro ?_ ?_); focus omega) | (refine contA_of hK ?_; clear hK K'; simp only [go_sem, *]) | (simp only [thenA, inBlockA, go_sem, *]))
  refine ⟨[Change.enc ⟨2, s, 0, zeroPlate, zeroPlate⟩], [], [], ⟨(by simp only [resOne, go_sem, zeroPlate]), trivial⟩, ?_⟩; simp only [go_sem, *]
theorem sp_one (k s n : Int) : Spec Tryz.prog 82 [iV k, iV s, iV n] [] (Change.enc ⟨k, s, 0, ⟨n, 0⟩, zeroPlate⟩) [] := by
  refine spec_body Tryz.func82 rfl (fun E hE => ?_); simp only [go_sem, Tryz.ntmps82]
  repeat' (first | (with_reducible (show runOps ..); first | (refine Qr rfl ?_; try intro K' hK; try simp only [go_sem, *])) | (with_reducible (show Hold ..); first | refine Qh rfl ?_ | (refine s_cond rfl ⟨_, rfl, fun hb => ?_, fun hb => ?_⟩ <;> (have hc := hb; try simp only [go_sem] at hc)) | refine s_ret rfl ?_) | ((with_reducible refine Qb ?_ ?_); focus kernel_rfl) | ((with_reducible refine And.intro ?_ ?_); focus omega) | (refine contA_of hK ?_; clear hK K'; simp only [go_sem, *]) | (simp only [thenA, inBlockA, go_sem, *]))
  refine ⟨[Change.enc ⟨k, s, 0, ⟨n, 0⟩, zeroPlate⟩], [], [], ⟨(by simp only [resOne, go_sem, zeroPlate]), trivial⟩, ?_⟩; simp only [go_sem, *]
theorem sp_town : Spec Tryz.prog 76 [] [] (encPlan townX) [] := by
  have s1 := sp_row [1, 2, 3, 4, 5] (by decide)
  have s2 := sp_row [1, 2] (by decide)
  have s3 := sp_plan (rowX [1, 2, 3, 4, 5]) (rowX [1, 2]) []
  refine spec_body Tryz.func76 rfl (fun E hE => ?_); simp only [go_sem, Tryz.ntmps76]
  repeat' (first | (with_reducible (show runOps ..); first | (refine Qr rfl ?_; try intro K' hK; try simp only [go_sem, *])) | (with_reducible (show Hold ..); first | refine Qh rfl ?_ | (refine s_cond rfl ⟨_, rfl, fun hb => ?_, fun hb => ?_⟩ <;> (have hc := hb; try simp only [go_sem] at hc)) | refine s_ret rfl ?_) | ((with_reducible refine Qb ?_ ?_); focus kernel_rfl) | ((with_reducible refine And.intro ?_ ?_); focus omega) | (refine contA_of hK ?_; clear hK K'; simp only [go_sem, *]) | (simp only [thenA, inBlockA, go_sem, *]))
  (refine call_fz (s1) (by simp only [go_sem, *]; done) rfl (by simp only [go_sem]; done) (by simp) (by simp) ?_; simp only [go_sem, deads, *])
  repeat' (first | (with_reducible (show runOps ..); first | (refine Qr rfl ?_; try intro K' hK; try simp only [go_sem, *])) | (with_reducible (show Hold ..); first | refine Qh rfl ?_ | (refine s_cond rfl ⟨_, rfl, fun hb => ?_, fun hb => ?_⟩ <;> (have hc := hb; try simp only [go_sem] at hc)) | refine s_ret rfl ?_) | ((with_reducible refine Qb ?_ ?_); focus kernel_rfl) | ((with_reducible refine And.intro ?_ ?_); focus omega) | (refine contA_of hK ?_; clear hK K'; simp only [go_sem, *]) | (simp only [thenA, inBlockA, go_sem, *]))
  (refine call_fz (s2) (by simp only [go_sem, *]; done) rfl (by simp only [go_sem]; done) (by simp) (by simp) ?_; simp only [go_sem, deads, *])
  repeat' (first | (with_reducible (show runOps ..); first | (refine Qr rfl ?_; try intro K' hK; try simp only [go_sem, *])) | (with_reducible (show Hold ..); first | refine Qh rfl ?_ | (refine s_cond rfl ⟨_, rfl, fun hb => ?_, fun hb => ?_⟩ <;> (have hc := hb; try simp only [go_sem] at hc)) | refine s_ret rfl ?_) | ((with_reducible refine Qb ?_ ?_); focus kernel_rfl) | ((with_reducible refine And.intro ?_ ?_); focus omega) | (refine contA_of hK ?_; clear hK K'; simp only [go_sem, *]) | (simp only [thenA, inBlockA, go_sem, *]))
  (refine call_fz (s3) (by simp only [go_sem, *]; done) rfl (by simp only [go_sem]; done) (by simp) (by simp) ?_; simp only [go_sem, deads, *])
  repeat' (first | (with_reducible (show runOps ..); first | (refine Qr rfl ?_; try intro K' hK; try simp only [go_sem, *])) | (with_reducible (show Hold ..); first | refine Qh rfl ?_ | (refine s_cond rfl ⟨_, rfl, fun hb => ?_, fun hb => ?_⟩ <;> (have hc := hb; try simp only [go_sem] at hc)) | refine s_ret rfl ?_) | ((with_reducible refine Qb ?_ ?_); focus kernel_rfl) | ((with_reducible refine And.intro ?_ ?_); focus omega) | (refine contA_of hK ?_; clear hK K'; simp only [go_sem, *]) | (simp only [thenA, inBlockA, go_sem, *]))
  refine ⟨[encPlan townX], [], [], ⟨(by simp only [resOne, go_sem, townX]), trivial⟩, ?_⟩; simp only [go_sem, *]
theorem sp_tale : Spec Tryz.prog 78 [.list []] [] taleX.enc [] := by
  refine spec_body Tryz.func78 rfl (fun E hE => ?_); simp only [go_sem, Tryz.ntmps78]
  repeat' (first | (with_reducible (show runOps ..); first | (refine Qr rfl ?_; try intro K' hK; try simp only [go_sem, *])) | (with_reducible (show Hold ..); first | refine Qh rfl ?_ | (refine s_cond rfl ⟨_, rfl, fun hb => ?_, fun hb => ?_⟩ <;> (have hc := hb; try simp only [go_sem] at hc)) | refine s_ret rfl ?_) | (with_reducible (show callA ..); first | ((first | refine call_s (sp_town) ?_ ?_ | refine call_s (sp_turn 0) ?_ ?_ | refine call_s (sp_swap 0) ?_ ?_ | refine call_s (sp_join 1 0) ?_ ?_); (focus (simp only [go_sem, *]; done)); simp only [go_sem, *])) | ((with_reducible refine Qb ?_ ?_); focus kernel_rfl) | ((with_reducible refine And.intro ?_ ?_); focus omega) | (refine contA_of hK ?_; clear hK K'; simp only [go_sem, *]) | (simp only [thenA, inBlockA, go_sem, *]))
  refine ⟨[.agg [.list (townX.map encStreet), .own 3 1 0 2, .list []]], [], [3], ⟨by simp only [resOne, go_sem], trivial⟩, ?_⟩
  simp only [go_sem, *]
  exact ⟨rfl, rfl, rfl⟩
end Go.Abs

namespace Go.Abs
open Go Go.Proofs
set_option maxRecDepth 10000
theorem sp_Equal_place (a b : List House) (h1 : a.length ≤ 4294967296) : Spec Tryz.prog 140 [.list (a.map House.enc), .list (b.map House.enc)] [] (bV (decide (a = b))) [] := by
  refine spec_body Tryz.func140 rfl (fun E hE => ?_); simp only [go_sem, Tryz.ntmps140]
  repeat' (first | (with_reducible (show runOps ..); first | (refine Qr rfl ?_; try intro K' hK; try simp only [go_sem, *])) | (with_reducible (show Hold ..); first | refine Qh rfl ?_ | refine s_draw rfl Tryz.mixed (by kernel_rfl) ?_ | (refine s_cond rfl ⟨_, rfl, fun hb => ?_, fun hb => ?_⟩ <;> (have hc := hb; try simp only [go_sem] at hc)) | refine s_ret rfl ?_) | ((with_reducible refine Qb ?_ ?_); focus kernel_rfl) | ((with_reducible refine And.intro ?_ ?_); focus omega) | (refine contA_of hK ?_; clear hK K'; simp only [go_sem, *]) | (simp only [thenA, inBlockA, go_sem, *]))
  · (refine ⟨[_], [], [], ⟨rfl, trivial⟩, ?_⟩; simp only [go_sem, *])
    simp [len_no (a := a) (b := b) (by assumption)]
  · have hlb : a.length = b.length := by assumption
    refine s_loop rfl (fun zn zN zenv zAs => ∃ (i : Nat), zn = (b.length) - i ∧ i ≤ (b.length) ∧ (a.take i = b.take i) ∧ zN = 26 ∧ zenv = [(13, iV i), (12, iV b.length), (0, .list (a.map House.enc)), (1, .list (b.map House.enc))] ∧ zAs = []) (b.length) ⟨[], [], _, _, _, (by (simp only [Weak, go_sem, List.map_append, List.map_set, *] <;> (try simp (disch := omega) only [wrap_succ]) <;> (try simp) <;> (try omega))), 0, (by simp), (by simp), (by simp), rfl, rfl, rfl⟩ ?_; rintro _ _ _ _ ⟨i, rfl, hi, hP, rfl, rfl, rfl⟩
    repeat' (first | (with_reducible (show runOps ..); first | (refine Qr rfl ?_; try intro K' hK; try simp only [go_sem, *])) | (with_reducible (show Hold ..); first | refine Qh rfl ?_ | refine s_draw rfl Tryz.mixed (by kernel_rfl) ?_ | (refine s_cond rfl ⟨_, rfl, fun hb => ?_, fun hb => ?_⟩ <;> (have hc := hb; try simp only [go_sem] at hc)) | refine s_ret rfl ?_) | ((with_reducible refine Qb ?_ ?_); focus kernel_rfl) | ((with_reducible refine And.intro ?_ ?_); focus omega) | (refine contA_of hK ?_; clear hK K'; simp only [go_sem, *]) | (simp only [thenA, inBlockA, go_sem, *]))
    · (refine ⟨[_], [], [], ⟨rfl, trivial⟩, ?_⟩; simp only [go_sem, *])
      simp [tk_no (a := a) (b := b) (i := i) (by assumption)]
    · refine ⟨_, (by omega), [], [], _, _, _, (by (simp only [Weak, go_sem, List.map_append, List.map_set, *] <;> (try simp (disch := omega) only [wrap_succ]) <;> (try simp) <;> (try omega))), i + 1, rfl, (by omega), (by exact tk_next (by omega) (by omega) hP (by assumption)), rfl, rfl, rfl⟩
    · (refine ⟨[_], [], [], ⟨rfl, trivial⟩, ?_⟩; simp only [go_sem, *])
      simp [tk_end (by omega) hlb hP]
theorem maxI_nat (m c : Nat) : maxI (m : Int) (c : Int) = ((max m c : Nat) : Int) := by unfold maxI; split <;> omega
theorem foldl_drop {α : Type} [Inhabited α] {l : List α} {f : Nat → α → Nat} {i m : Nat} (hi : i < l.length) : (l.drop i).foldl f m = (l.drop (i + 1)).foldl f (f m (l.getD i default)) := by
  rw [drop_cons hi, List.foldl_cons]
theorem countP_drop {α : Type} [Inhabited α] {l : List α} {f : α → Bool} {i : Nat} (hi : i < l.length) : (l.drop i).countP f = (if f (l.getD i default) = true then 1 else 0) + (l.drop (i + 1)).countP f := by
  rw [drop_cons hi, List.countP_cons]; omega
theorem sameNow_le (l : List Truth) (h : House) (x : Truth) : sameNow l h x ≤ l.length := List.countP_le_length
theorem groupOf_le (l : List Truth) (h : House) : groupOf l h ≤ l.length := by
  unfold groupOf
  have key : ∀ (r : List Truth) (m : Nat), m ≤ l.length → r.foldl (fun m x => max m (sameNow l h x)) m ≤ l.length := fun r => by
    induction r with
    | nil => intro m hm; exact hm
    | cons x r ih =>
      intro m hm
      have h1 := sameNow_le l h x
      have h2 : max m (sameNow l h x) ≤ l.length := by omega
      exact ih _ h2
  exact key l 0 (by omega)
theorem sp_group (p : Plan) (l : List Truth) (h : House) (v : Valid p) (hh : h ∈ housesOf p) (hl : l.length ≤ 1000) (hnl : ∀ t, t ∈ l → (t.now h).length ≤ 1000) :
    Spec Tryz.prog 101 [.list (l.map (Truth.enc p)), h.enc] [] (iV (groupOf l h)) [] := by
  have hw := v.wf
  have hwf := hw _ hh
  have hG0 : (l.drop 0).foldl (fun m x => max m (sameNow l h x)) 0 = groupOf l h := rfl
  have hGl := groupOf_le l h
  generalize groupOf l h = G at *
  refine spec_body Tryz.func101 rfl (fun E hE => ?_); simp only [go_sem, Tryz.ntmps101]
  repeat' (first | (with_reducible (show runOps ..); first | (refine Qr rfl ?_; try intro K' hK; try simp only [go_sem, *])) | (with_reducible (show Hold ..); first | refine Qh rfl ?_ | refine s_draw rfl Tryz.mixed (by kernel_rfl) ?_ | (refine s_cond rfl ⟨_, rfl, fun hb => ?_, fun hb => ?_⟩ <;> (have hc := hb; try simp only [go_sem] at hc)) | refine s_ret rfl ?_) | ((with_reducible refine Qb ?_ ?_); focus kernel_rfl) | ((with_reducible refine And.intro ?_ ?_); focus omega) | (refine contA_of hK ?_; clear hK K'; simp only [go_sem, *]) | (simp only [thenA, inBlockA, go_sem, *]))
  refine s_loop rfl (fun zn zN zenv zAs => ∃ (i : Nat) (m : Nat), zn = (l.length) - i ∧ i ≤ (l.length) ∧ ((l.drop i).foldl (fun m x => max m (sameNow l h x)) m = G) ∧ zN = 40 ∧ zenv = [(13, iV i), (12, iV l.length), (11, .list (l.map (Truth.enc p))), (0, .list (l.map (Truth.enc p))), (5, iV m), (3, .ptr 0 0)] ∧ zAs = [.box [iV h.street, iV h.plate.number, iV h.plate.letter]]) (l.length) ⟨[some 0], [], _, _, _, (by (simp only [Weak, go_sem, List.map_append, List.map_set, *] <;> (try simp (disch := omega) only [wrap_succ]) <;> (try simp) <;> (try omega))), 0, 0, (by simp), (by simp), (by exact hG0), rfl, rfl, rfl⟩ ?_; rintro _ _ _ _ ⟨i, m, rfl, hi, hP, rfl, rfl, rfl⟩
  by_cases hi2 : i < l.length
  · rw [foldl_drop hi2] at hP
    have hxl := hnl _ (getD_mem hi2)
    repeat' (first | (with_reducible (show runOps ..); first | (refine Qr rfl ?_; try intro K' hK; try simp only [go_sem, *])) | (with_reducible (show Hold ..); first | refine Qh rfl ?_ | refine s_draw rfl Tryz.mixed (by kernel_rfl) ?_ | (refine s_cond rfl ⟨_, rfl, fun hb => ?_, fun hb => ?_⟩ <;> (have hc := hb; try simp only [go_sem] at hc)) | refine s_ret rfl ?_) | ((with_reducible refine Qb ?_ ?_); focus kernel_rfl) | ((with_reducible refine And.intro ?_ ?_); focus omega) | (refine contA_of hK ?_; clear hK K'; simp only [go_sem, *]) | (simp only [thenA, inBlockA, go_sem, *]))
    generalize hx : l.getD i default = x at *
    refine s_loop rfl (fun zn zN zenv zAs => ∃ (j : Nat) (n : Nat), zn = (l.length) - j ∧ j ≤ (l.length) ∧ (n + (l.drop j).countP (fun y => decide (x.now h = y.now h)) = sameNow l h x) ∧ zN = 40 ∧ zenv = [(19, iV j), (18, iV l.length), (17, .list (l.map (Truth.enc p))), (8, iV n), (7, .ptr 1 0), (13, iV i), (12, iV l.length), (11, .list (l.map (Truth.enc p))), (0, .list (l.map (Truth.enc p))), (5, iV m), (3, .ptr 0 0)] ∧ zAs = [.box [iV h.street, iV h.plate.number, iV h.plate.letter], .box [.list (x.ways.map iV), .list (x.fin.map encStreet), .fmap (keysP p) (movesP p x.now)]]) (l.length) ⟨[some 0, some 1], [], _, _, _, (by (simp only [Weak, go_sem, List.map_append, List.map_set, *] <;> (try simp (disch := omega) only [wrap_succ]) <;> (try simp) <;> (try omega))), 0, 0, (by simp), (by simp), (by simp [sameNow]), rfl, rfl, rfl⟩ ?_; rintro _ _ _ _ ⟨j, n, rfl, hj, hQ, rfl, rfl, rfl⟩
    by_cases hj2 : j < l.length
    · rw [countP_drop hj2] at hQ
      have hyl := hnl _ (getD_mem hj2)
      have hsl := sameNow_le l h x
      generalize hy : l.getD j default = y at *
      have sc := sp_Equal_place (x.now h) (y.now h) (by omega)
      by_cases q : x.now h = y.now h
      · have q' : decide (x.now h = y.now h) = true := by simpa using q
        rw [q'] at sc hQ
        clear q q'
        repeat' (first | (with_reducible (show runOps ..); first | (refine Qr rfl ?_; try intro K' hK; try simp only [go_sem, *])) | (with_reducible (show Hold ..); first | refine Qh rfl ?_ | refine s_draw rfl Tryz.mixed (by kernel_rfl) ?_ | (refine s_cond rfl ⟨_, rfl, fun hb => ?_, fun hb => ?_⟩ <;> (have hc := hb; try simp only [go_sem] at hc)) | refine s_ret rfl ?_) | ((with_reducible refine Qb ?_ ?_); focus kernel_rfl) | ((with_reducible refine And.intro ?_ ?_); focus omega) | (refine contA_of hK ?_; clear hK K'; simp only [go_sem, *]) | (simp only [thenA, inBlockA, go_sem, *]))
        refine look_fhouse (h := h) (hs := housesOf p) (F := MapV x.now) hw hwf ?_
        rw [if_pos hh, MapV]
        repeat' (first | (with_reducible (show runOps ..); first | (refine Qr rfl ?_; try intro K' hK; try simp only [go_sem, *])) | (with_reducible (show Hold ..); first | refine Qh rfl ?_ | refine s_draw rfl Tryz.mixed (by kernel_rfl) ?_ | (refine s_cond rfl ⟨_, rfl, fun hb => ?_, fun hb => ?_⟩ <;> (have hc := hb; try simp only [go_sem] at hc)) | refine s_ret rfl ?_) | ((with_reducible refine Qb ?_ ?_); focus kernel_rfl) | ((with_reducible refine And.intro ?_ ?_); focus omega) | (refine contA_of hK ?_; clear hK K'; simp only [go_sem, *]) | (simp only [thenA, inBlockA, go_sem, *]))
        refine look_fhouse (h := h) (hs := housesOf p) (F := MapV y.now) hw hwf ?_
        rw [if_pos hh, MapV]
        repeat' (first | (with_reducible (show runOps ..); first | (refine Qr rfl ?_; try intro K' hK; try simp only [go_sem, *])) | (with_reducible (show Hold ..); first | refine Qh rfl ?_ | refine s_draw rfl Tryz.mixed (by kernel_rfl) ?_ | (refine s_cond rfl ⟨_, rfl, fun hb => ?_, fun hb => ?_⟩ <;> (have hc := hb; try simp only [go_sem] at hc)) | refine s_ret rfl ?_) | (with_reducible (show callA ..); first | (refine call_s (sc) ?_ ?_; (focus (simp only [go_sem, *]; done)); simp only [go_sem, *])) | ((with_reducible refine Qb ?_ ?_); focus kernel_rfl) | ((with_reducible refine And.intro ?_ ?_); focus omega) | (refine contA_of hK ?_; clear hK K'; simp only [go_sem, *]) | (simp only [thenA, inBlockA, go_sem, *]))
        all_goals first | contradiction | skip
        refine ⟨_, (by omega), [some 0, some 1], [], _, _, _, (by (simp only [Weak, go_sem, List.map_append, List.map_set, *] <;> (try simp (disch := omega) only [wrap_succ]) <;> (try simp) <;> (try omega))), j + 1, n + 1, rfl, (by omega), (by rw [← hQ]; simp; omega), rfl, rfl, rfl⟩
      · have q' : decide (x.now h = y.now h) = false := by simpa using q
        rw [q'] at sc hQ
        clear q q'
        repeat' (first | (with_reducible (show runOps ..); first | (refine Qr rfl ?_; try intro K' hK; try simp only [go_sem, *])) | (with_reducible (show Hold ..); first | refine Qh rfl ?_ | refine s_draw rfl Tryz.mixed (by kernel_rfl) ?_ | (refine s_cond rfl ⟨_, rfl, fun hb => ?_, fun hb => ?_⟩ <;> (have hc := hb; try simp only [go_sem] at hc)) | refine s_ret rfl ?_) | ((with_reducible refine Qb ?_ ?_); focus kernel_rfl) | ((with_reducible refine And.intro ?_ ?_); focus omega) | (refine contA_of hK ?_; clear hK K'; simp only [go_sem, *]) | (simp only [thenA, inBlockA, go_sem, *]))
        refine look_fhouse (h := h) (hs := housesOf p) (F := MapV x.now) hw hwf ?_
        rw [if_pos hh, MapV]
        repeat' (first | (with_reducible (show runOps ..); first | (refine Qr rfl ?_; try intro K' hK; try simp only [go_sem, *])) | (with_reducible (show Hold ..); first | refine Qh rfl ?_ | refine s_draw rfl Tryz.mixed (by kernel_rfl) ?_ | (refine s_cond rfl ⟨_, rfl, fun hb => ?_, fun hb => ?_⟩ <;> (have hc := hb; try simp only [go_sem] at hc)) | refine s_ret rfl ?_) | ((with_reducible refine Qb ?_ ?_); focus kernel_rfl) | ((with_reducible refine And.intro ?_ ?_); focus omega) | (refine contA_of hK ?_; clear hK K'; simp only [go_sem, *]) | (simp only [thenA, inBlockA, go_sem, *]))
        refine look_fhouse (h := h) (hs := housesOf p) (F := MapV y.now) hw hwf ?_
        rw [if_pos hh, MapV]
        repeat' (first | (with_reducible (show runOps ..); first | (refine Qr rfl ?_; try intro K' hK; try simp only [go_sem, *])) | (with_reducible (show Hold ..); first | refine Qh rfl ?_ | refine s_draw rfl Tryz.mixed (by kernel_rfl) ?_ | (refine s_cond rfl ⟨_, rfl, fun hb => ?_, fun hb => ?_⟩ <;> (have hc := hb; try simp only [go_sem] at hc)) | refine s_ret rfl ?_) | (with_reducible (show callA ..); first | (refine call_s (sc) ?_ ?_; (focus (simp only [go_sem, *]; done)); simp only [go_sem, *])) | ((with_reducible refine Qb ?_ ?_); focus kernel_rfl) | ((with_reducible refine And.intro ?_ ?_); focus omega) | (refine contA_of hK ?_; clear hK K'; simp only [go_sem, *]) | (simp only [thenA, inBlockA, go_sem, *]))
        all_goals first | contradiction | skip
        refine ⟨_, (by omega), [some 0, some 1], [], _, _, _, (by (simp only [Weak, go_sem, List.map_append, List.map_set, *] <;> (try simp (disch := omega) only [wrap_succ]) <;> (try simp) <;> (try omega))), j + 1, n, rfl, (by omega), (by rw [← hQ]; simp), rfl, rfl, rfl⟩
    · rw [drop_end (by omega)] at hQ
      have hn : n = sameNow l h x := by simpa using hQ
      subst hn
      have hmx := maxI_nat m (sameNow l h x)
      repeat' (first | (with_reducible (show runOps ..); first | (refine Qr rfl ?_; try intro K' hK; try simp only [go_sem, *])) | (with_reducible (show Hold ..); first | refine Qh rfl ?_ | refine s_draw rfl Tryz.mixed (by kernel_rfl) ?_ | (refine s_cond rfl ⟨_, rfl, fun hb => ?_, fun hb => ?_⟩ <;> (have hc := hb; try simp only [go_sem] at hc)) | refine s_ret rfl ?_) | ((with_reducible refine Qb ?_ ?_); focus kernel_rfl) | ((with_reducible refine And.intro ?_ ?_); focus omega) | (refine contA_of hK ?_; clear hK K'; simp only [go_sem, *]) | (simp only [thenA, inBlockA, go_sem, *]))
      refine ⟨_, (by omega), [some 0], [], _, _, _, (by (simp only [Weak, go_sem, List.map_append, List.map_set, *] <;> (try simp (disch := omega) only [wrap_succ]) <;> (try simp) <;> (try omega))), i + 1, max m (sameNow l h x), rfl, (by omega), (by exact hP), rfl, rfl, rfl⟩
  · rw [drop_end (by omega)] at hP
    have hP2 : m = G := hP
    subst hP2
    repeat' (first | (with_reducible (show runOps ..); first | (refine Qr rfl ?_; try intro K' hK; try simp only [go_sem, *])) | (with_reducible (show Hold ..); first | refine Qh rfl ?_ | refine s_draw rfl Tryz.mixed (by kernel_rfl) ?_ | (refine s_cond rfl ⟨_, rfl, fun hb => ?_, fun hb => ?_⟩ <;> (have hc := hb; try simp only [go_sem] at hc)) | refine s_ret rfl ?_) | ((with_reducible refine Qb ?_ ?_); focus kernel_rfl) | ((with_reducible refine And.intro ?_ ?_); focus omega) | (refine contA_of hK ?_; clear hK K'; simp only [go_sem, *]) | (simp only [thenA, inBlockA, go_sem, *]))
    (refine ⟨[_], [], [], ⟨rfl, trivial⟩, ?_⟩; simp only [go_sem, *])
theorem sp_Ask1 (a b : Int) : Spec Tryz.prog 103 [iV a, iV b] [] (iV (IntKind.i64.wrap (a - b))) [] := by
  refine spec_body Tryz.func103 rfl (fun E hE => ?_); simp only [go_sem, Tryz.ntmps103]
  repeat' (first | (with_reducible (show runOps ..); first | (refine Qr rfl ?_; try intro K' hK; try simp only [go_sem, *])) | (with_reducible (show Hold ..); first | refine Qh rfl ?_ | (refine s_cond rfl ⟨_, rfl, fun hb => ?_, fun hb => ?_⟩ <;> (have hc := hb; try simp only [go_sem] at hc)) | refine s_ret rfl ?_) | ((with_reducible refine Qb ?_ ?_); focus kernel_rfl) | ((with_reducible refine And.intro ?_ ?_); focus omega) | (refine contA_of hK ?_; clear hK K'; simp only [go_sem, *]) | (simp only [thenA, inBlockA, go_sem, *]))
  (refine ⟨[_], [], [], ⟨rfl, trivial⟩, ?_⟩; simp only [go_sem, *])
theorem leastGo_drop {g : List Nat} {i : Nat} {a : Int} (hi : i < g.length) : leastGo g (g.drop i) i a = leastGo g (g.drop (i + 1)) (i + 1) (if a < 0 ∨ g.getD i default < g.getD a.toNat 0 then i else a) := by
  rw [drop_cons hi, leastGo]
theorem leastGo_range (g : List Nat) : ∀ (r : List Nat) (i : Nat) (a : Int), r.length + i = g.length → -1 ≤ a ∧ a < g.length → -1 ≤ leastGo g r i a ∧ leastGo g r i a < g.length
  | [], _, a, _, h => h
  | x :: r, i, a, hl, h => by
    rw [leastGo]
    refine leastGo_range g r (i + 1) _ (by simp at hl; omega) ?_
    split
    · simp at hl; omega
    · exact h
theorem leastOf_range {g : List Nat} (h : 0 < g.length) : -1 ≤ leastOf g ∧ leastOf g < g.length := leastGo_range g g 0 (-1) (by omega) (by omega)
theorem sp_least (g : List Nat) (hl : g.length ≤ 1000) (hs : ∀ x, x ∈ g → x ≤ 1000) :
    Spec Tryz.prog 102 [.list (g.map fun n => iV (n : Nat)), fnV 103] [] (iV (leastOf g)) [] := by
  have hca : callable Tryz.prog 103 = true := by kernel_rfl
  have hG0 : leastGo g (g.drop 0) 0 (-1) = leastOf g := rfl
  generalize leastOf g = G at *
  refine spec_body Tryz.func102 rfl (fun E hE => ?_); simp only [go_sem, Tryz.ntmps102]
  repeat' (first | (with_reducible (show runOps ..); first | (refine Qr rfl ?_; try intro K' hK; try simp only [go_sem, *]) | (refine Qi rfl rfl rfl rfl (fun hb K' hK => ?_) (fun hb => ?_) <;> (have hc := hb; try simp only [go_sem] at hc; simp only [go_sem, *]))) | (with_reducible (show Hold ..); first | refine Qh rfl ?_ | (refine s_cond rfl ⟨_, rfl, fun hb => ?_, fun hb => ?_⟩ <;> (have hc := hb; try simp only [go_sem] at hc)) | refine s_ret rfl ?_) | ((with_reducible refine Qb ?_ ?_); focus kernel_rfl) | ((with_reducible refine And.intro ?_ ?_); focus omega) | (refine contA_of hK ?_; clear hK K'; simp only [go_sem, *]) | (simp only [thenA, inBlockA, go_sem, *]))
  refine s_loop rfl (fun zn zN zenv zAs => ∃ (i : Nat) (a : Int), zn = (g.length) - i ∧ i ≤ (g.length) ∧ (leastGo g (g.drop i) i a = G ∧ -1 ≤ a ∧ a < i) ∧ zN = 30 ∧ zenv = [(10, iV i), (9, iV g.length), (8, .list (g.map fun n => iV (n : Nat))), (0, .list (g.map fun n => iV (n : Nat))), (1, fnV 103), (5, iV a)] ∧ zAs = []) (g.length) ⟨[], [], _, _, _, (by (simp only [Weak, go_sem, List.map_append, List.map_set, *] <;> (try simp (disch := omega) only [wrap_succ]) <;> (try simp) <;> (try omega))), 0, -1, (by simp), (by simp), (by exact ⟨hG0, by omega, by omega⟩), rfl, rfl, rfl⟩ ?_; rintro _ _ _ _ ⟨i, a, rfl, hi, hP, rfl, rfl, rfl⟩
  obtain ⟨hP, ha1, ha2⟩ := hP
  by_cases hi2 : i < g.length
  · rw [leastGo_drop hi2] at hP
    have hx := hs _ (getD_mem hi2)
    by_cases ha : a < 0
    · have hd : decide (a < 0) = true := by simpa using ha
      rw [if_pos (.inl ha)] at hP
      repeat' (first | (with_reducible (show runOps ..); first | (refine Qr rfl ?_; try intro K' hK; try simp only [go_sem, *]) | (refine Qi rfl rfl rfl rfl (fun hb K' hK => ?_) (fun hb => ?_) <;> (have hc := hb; try simp only [go_sem] at hc; simp only [go_sem, *]))) | (with_reducible (show Hold ..); first | refine Qh rfl ?_ | (refine s_cond rfl ⟨_, rfl, fun hb => ?_, fun hb => ?_⟩ <;> (have hc := hb; try simp only [go_sem] at hc)) | refine s_ret rfl ?_) | ((with_reducible refine Qb ?_ ?_); focus kernel_rfl) | ((with_reducible refine And.intro ?_ ?_); focus omega) | (refine contA_of hK ?_; clear hK K'; simp only [go_sem, *]) | (simp only [thenA, inBlockA, go_sem, *]))
      all_goals first | contradiction | skip
      refine ⟨_, (by omega), [], [], _, _, _, (by (simp only [Weak, go_sem, List.map_append, List.map_set, *] <;> (try simp (disch := omega) only [wrap_succ]) <;> (try simp) <;> (try omega))), i + 1, (i : Int), rfl, (by omega), (by exact ⟨hP, by omega, by omega⟩), rfl, rfl, rfl⟩
    · obtain ⟨k, rfl⟩ : ∃ k : Nat, a = (k : Int) := ⟨a.toNat, by omega⟩
      have hk : k < g.length := by omega
      have hy := hs _ (getD_mem hk)
      have hd : decide ((k : Int) < 0) = false := by simp
      have hkl : ((k : Int) < (g.length : Int)) := by omega
      have e0 : g.getD (k : Int).toNat 0 = g.getD k default := rfl
      rw [e0] at hP
      clear e0
      have sa := sp_Ask1 ((g.getD i default : Nat) : Int) ((g.getD k default : Nat) : Int)
      rw [wrap_i64 (by omega) (by omega)] at sa
      by_cases hc0 : g.getD i default < g.getD k default
      · rw [if_pos (.inr hc0)] at hP
        have hd2 : ((g.getD i default : Nat) : Int) - ((g.getD k default : Nat) : Int) < 0 := by omega
        repeat' (first | (with_reducible (show runOps ..); first | (refine Qr rfl ?_; try intro K' hK; try simp only [go_sem, *]) | (refine Qi rfl rfl rfl rfl (fun hb K' hK => ?_) (fun hb => ?_) <;> (have hc := hb; try simp only [go_sem] at hc; simp only [go_sem, *]))) | (with_reducible (show Hold ..); first | refine Qh rfl ?_ | (refine s_cond rfl ⟨_, rfl, fun hb => ?_, fun hb => ?_⟩ <;> (have hc := hb; try simp only [go_sem] at hc)) | refine s_ret rfl ?_) | (with_reducible (show callA ..); first | (refine call_s (sa) ?_ ?_; (focus (simp only [go_sem, *]; done)); simp only [go_sem, *])) | ((with_reducible refine Qb ?_ ?_); focus kernel_rfl) | ((with_reducible refine And.intro ?_ ?_); focus omega) | (refine contA_of hK ?_; clear hK K'; simp only [go_sem, *]) | (simp only [thenA, inBlockA, go_sem, *]))
        all_goals first | contradiction | skip
        all_goals first | omega | skip
        refine ⟨_, (by omega), [], [], _, _, _, (by (simp only [Weak, go_sem, List.map_append, List.map_set, *] <;> (try simp (disch := omega) only [wrap_succ]) <;> (try simp) <;> (try omega))), i + 1, (i : Int), rfl, (by omega), (by exact ⟨hP, by omega, by omega⟩), rfl, rfl, rfl⟩
      · rw [if_neg (by omega)] at hP
        have hd2 : ¬ ((g.getD i default : Nat) : Int) - ((g.getD k default : Nat) : Int) < 0 := by omega
        repeat' (first | (with_reducible (show runOps ..); first | (refine Qr rfl ?_; try intro K' hK; try simp only [go_sem, *]) | (refine Qi rfl rfl rfl rfl (fun hb K' hK => ?_) (fun hb => ?_) <;> (have hc := hb; try simp only [go_sem] at hc; simp only [go_sem, *]))) | (with_reducible (show Hold ..); first | refine Qh rfl ?_ | (refine s_cond rfl ⟨_, rfl, fun hb => ?_, fun hb => ?_⟩ <;> (have hc := hb; try simp only [go_sem] at hc)) | refine s_ret rfl ?_) | (with_reducible (show callA ..); first | (refine call_s (sa) ?_ ?_; (focus (simp only [go_sem, *]; done)); simp only [go_sem, *])) | ((with_reducible refine Qb ?_ ?_); focus kernel_rfl) | ((with_reducible refine And.intro ?_ ?_); focus omega) | (refine contA_of hK ?_; clear hK K'; simp only [go_sem, *]) | (simp only [thenA, inBlockA, go_sem, *]))
        all_goals first | contradiction | skip
        all_goals first | omega | skip
        refine ⟨_, (by omega), [], [], _, _, _, (by (simp only [Weak, go_sem, List.map_append, List.map_set, *] <;> (try simp (disch := omega) only [wrap_succ]) <;> (try simp) <;> (try omega))), i + 1, (k : Int), rfl, (by omega), (by exact ⟨hP, by omega, by omega⟩), rfl, rfl, rfl⟩
  · rw [drop_end (by omega)] at hP
    have hP2 : a = G := hP
    subst hP2
    repeat' (first | (with_reducible (show runOps ..); first | (refine Qr rfl ?_; try intro K' hK; try simp only [go_sem, *]) | (refine Qi rfl rfl rfl rfl (fun hb K' hK => ?_) (fun hb => ?_) <;> (have hc := hb; try simp only [go_sem] at hc; simp only [go_sem, *]))) | (with_reducible (show Hold ..); first | refine Qh rfl ?_ | (refine s_cond rfl ⟨_, rfl, fun hb => ?_, fun hb => ?_⟩ <;> (have hc := hb; try simp only [go_sem] at hc)) | refine s_ret rfl ?_) | ((with_reducible refine Qb ?_ ?_); focus kernel_rfl) | ((with_reducible refine And.intro ?_ ?_); focus omega) | (refine contA_of hK ?_; clear hK K'; simp only [go_sem, *]) | (simp only [thenA, inBlockA, go_sem, *]))
    (refine ⟨[_], [], [], ⟨rfl, trivial⟩, ?_⟩; simp only [go_sem, *])
end Go.Abs

namespace Go.Abs
open Go Go.Proofs
set_option maxRecDepth 10000
section
variable {P : Program} {E : Env} {Q : Exit → AS → Prop} {σ : AS} {p : List Nat} {b c : Code} {l : Nat}
def rangeA0 : Code → Code
  | .rangeFunc _ _ a _ => a
  | _ => .skip
def rangeB0 : Code → Code
  | .rangeFunc _ _ _ b => b
  | _ => .skip
def isRange : Code → Option (Operand × Array Tmp)
  | .rangeFunc g ps _ _ => some (g, ps)
  | _ => none
theorem r_region {id : Nat} {ops : List Oper} (h : c = .region id ops.toArray false) (hx : runOps P ops (fun σ' _ => Q .normal σ') ops σ []) : HoldR l P E c Q σ := by rw [h]; exact holdR_region hx
theorem r_block {id : Nat} (h : isBlock c = some id) (hx : HoldR l P E (child 0 c) (inBlockA id Q) σ) : HoldR l P E c Q σ := by
  cases c with
  | block i c => cases h; exact holdR_block hx
  | _ => cases h
theorem s_range {g : Operand} {ps : Array Tmp} (h : isRange (sub p b) = some (g, ps)) {f : FuncId} {caps : List AV} (hg : σ.ev g = .fn f caps) (hc : callable P f = true) {nx : Nat} (hnx : σ.obj nx = .unb)
    (hx : ∀ fn, ∃ nx', callA P f (.yld nx :: caps) (σ.setO nx (.loopo ⟨fn, ps, rangeA0 (sub p b), rangeB0 (sub p b), σ.n⟩ σ.env (some none))).obj nx' (fun _ _ wr => rangeK P E Q nx ((σ.setO nx (.loopo ⟨fn, ps, rangeA0 (sub p b), rangeB0 (sub p b), σ.n⟩ σ.env (some none))).writes wr))) : Hold P E (sub p b) Q σ := by
  cases hq : sub p b with
  | rangeFunc g' ps' a b' =>
    rw [hq] at h hx; cases h
    exact hold_range hg hc hnx hx
  | _ => rw [hq] at h; cases h
theorem s_yield {id : Nat} {ops : List Oper} (k : Nat) (h : sub p b = .region id ops.toArray false) {o : Oper} (hk : ops[k]? = some o) {fo : Operand} {args : Array Operand} {ts : Array TypeId} (hop : o.op = .call ⟨.value fo, args, ts⟩)
    (hx : runOps P ops (fun σ1 _ => guardA ops σ1 o
      ((match o.dst with | some d => ltN d σ1.n | none => True) ∧ yieldA P (σ1.ev fo) (args.toList.map σ1.ev) σ1.obj σ1.nx (fun v _ wr => runOps P ops (fun σ' _ => Q .normal σ') (ops.drop (k + 1)) ((σ1.writes wr).putD o.dst v) []))
      ((match o.dst with | some d => ltN d σ1.n | none => True) ∧ runOps P ops (fun σ' _ => Q .normal σ') (ops.drop (k + 1)) (σ1.putD o.dst (.tup [])) [])) (ops.take k) σ []) : Hold P E (sub p b) Q σ := by
  obtain ⟨hlt, he⟩ := List.getElem?_eq_some_iff.1 hk
  have e : ops = ops.take k ++ o :: ops.drop (k + 1) := by
    rw [← he, ← List.drop_eq_getElem_cons hlt, List.take_append_drop]
  obtain ⟨pre, hpre⟩ : ∃ pre, pre = ops.take k := ⟨_, rfl⟩
  obtain ⟨post, hpost⟩ : ∃ post, post = ops.drop (k + 1) := ⟨_, rfl⟩
  rw [← hpre, ← hpost] at e hx
  rw [h]
  clear h hk he hlt hpre hpost
  subst e
  exact hold_yield hop hx
end
theorem guard_yes {all : List Oper} {σ : AS} {o : Oper} {j d : Nat} {want : Bool} {Y N : Prop} (hg : o.guard = some (j, want)) (hj : (all[j]?).bind (·.dst) = some d) (hv : σ.get d = .raw (.bool want)) (h : Y) : guardA all σ o Y N := by
  unfold guardA
  rw [hg]
  simp only [hj, hv]
  show gIf want want Y N
  unfold gIf
  exact ⟨fun _ => h, fun e => by cases want <;> cases e⟩
theorem yield_of {P : Program} {y : AV} {avs : List AV} {H : Nat → AObj} {nx : Nat} {K : Cont} {oid : Nat} (ids ex : List Nat) {args : List AV} {fp : List AObj} {r : AV} {out : List AObj} (sp : YSpec P args fp r out)
    (hy : y = .yld oid) (hh : ids.head? = some oid) (h1 : ids.Nodup) (h2 : XpL H (ids.map some) ex args avs) (h3 : fpsF H (ids.map some) ex fp ids) (h4 : ∀ o, o ∈ ex → o ∉ ids) (h5 : ex = [] ∨ (Scal r ∧ ∀ A, A ∈ out → ScalO A))
    (h6 : ∀ j, j < out.length - ids.length → H (nx + j) = .unb) (h7 : ∀ A, A ∈ out → A ≠ .unb) (hk : K (r.ren (backId ids nx)) (ids ++ ex ++ newIds ids nx out) (backObjs ids nx out)) : yieldA P y avs H nx K := by
  refine ⟨oid, ids, ex, args, fp, r, out, hy, hh, ⟨sp, h1, h4, ?_, (fpsF.sound h3).1, fun k h => ?_, h5, h6, h7⟩, hk⟩
  · rw [← rho_ids]; exact XpL.all2 h2
  · rw [← rho_ids]; exact (fpsF.sound h3).2 k h
theorem call_fzi {P : Program} {f : FuncId} {avs as' args : List AV} {H : Nat → AObj} {nx : Nat} {K : Cont} {r : AV} {fp out : List AObj} (ids gone : List Nat) (sp : Spec P f args fp r out) (ha : (avs.map fun x => (frzV H 3 x).1) = as') (hg : (avs.map fun x => (frzV H 3 x).2).flatten = gone)
    (h1 : ids.Nodup) (h2 : XpL (fun o => if o ∈ gone then .dead else H o) (ids.map some) [] args as') (h3 : fpsF (fun o => if o ∈ gone then .dead else H o) (ids.map some) [] fp ids)
    (h6 : ∀ j, j < out.length - ids.length → (if nx + j ∈ gone then AObj.dead else H (nx + j)) = .unb) (h7 : ∀ A, A ∈ out → A ≠ .unb)
    (hk : K (r.ren (backId ids nx)) (gone ++ (ids ++ newIds ids nx out)) (deads gone ++ backObjs ids nx out)) : callA P f avs H nx K := by
  refine call_frz ?_
  rw [ha, hg]
  exact callB_of ids [] sp h1 h2 h3 (by simp) (.inl rfl) h6 h7 (by simpa using hk)
theorem XpL_app {H : Nat → AObj} {m : List (Option Nat)} {ex : List Nat} {x y : AV} : ∀ (xs : List AV), (∀ z, z ∈ xs → XpF H m ex z z) → (XpL H m ex (xs ++ [x]) (xs ++ [y]) ↔ XpF H m ex x y)
  | [], _ => by simp only [List.nil_append, XpL_cons, XpL_nil, and_true]
  | z :: r, h => by
    simp only [List.cons_append, XpL_cons]
    rw [XpL_app r (fun z hz => h z (by simp [hz]))]
    exact ⟨fun h => h.2, fun h2 => ⟨h z (by simp), h2⟩⟩
@[go_sem] theorem XpL_snoc_streets (H : Nat → AObj) (m : List (Option Nat)) (ex : List Nat) (x y : AV) (p : Plan) : XpL H m ex (List.map encStreet p ++ [x]) (List.map encStreet p ++ [y]) ↔ XpF H m ex x y :=
  XpL_app _ (fun z hz => by
    obtain ⟨l, _, rfl⟩ := List.mem_map.1 hz
    simp only [XpF])
@[go_sem] theorem XpL_take_streets (H : Nat → AObj) (m : List (Option Nat)) (ex : List Nat) (x y : AV) (i : Nat) (p : Plan) : XpL H m ex (List.take i (List.map encStreet p) ++ [x]) (List.take i (List.map encStreet p) ++ [y]) ↔ XpF H m ex x y :=
  XpL_app _ (fun z hz => by
    obtain ⟨l, _, rfl⟩ := List.mem_map.1 (List.mem_of_mem_take hz)
    simp only [XpF])
theorem sp_copied (p : Plan) (v : Valid p) : Spec Tryz.prog 112 [encPlan p] [] (encPlan p) [] := by
  have hp3 := v.len
  refine spec_body Tryz.func112 rfl (fun E hE => ?_); simp only [go_sem, Tryz.ntmps112]
  repeat' (first | (with_reducible (show runOps ..); first | (refine Qr rfl ?_; try intro K' hK; try simp only [go_sem, *])) | (with_reducible (show Hold ..); first | refine Qh rfl ?_ | refine s_draw rfl Tryz.mixed (by kernel_rfl) ?_ | (refine s_cond rfl ⟨_, rfl, fun hb => ?_, fun hb => ?_⟩ <;> (have hc := hb; try simp only [go_sem] at hc)) | refine s_ret rfl ?_) | ((with_reducible refine Qb ?_ ?_); focus kernel_rfl) | ((with_reducible refine And.intro ?_ ?_); focus omega) | (refine contA_of hK ?_; clear hK K'; simp only [go_sem, *]) | (simp only [thenA, inBlockA, go_sem, *]))
  refine s_loop rfl (fun zn zN zenv zAs => ∃ (i : Nat), zn = (p.length) - i ∧ i ≤ (p.length) ∧ (NoP i) ∧ zN = 23 ∧ zenv = [(10, iV i), (9, iV p.length), (8, .list (p.map encStreet)), (2, .ptr 0 0), (3, .ptr 1 0)] ∧ zAs = [.box [nilV], .box [.own 2 1 0 i], .box ((p.take i).map encStreet)]) (p.length) ⟨[some 1, some 2, none], [], _, _, _, (by (simp only [Weak, go_sem, List.map_append, List.map_set, *] <;> (try simp (disch := omega) only [wrap_succ]) <;> (try simp) <;> (try omega))), 0, (by simp), (by simp), (by trivial), rfl, rfl, rfl⟩ ?_; rintro _ _ _ _ ⟨i, rfl, hi, hP, rfl, rfl, rfl⟩
  by_cases hi2 : i < p.length
  · have hr := (v.rows _ (getD_mem hi2)).len
    have sc := sp_Clone_plate (p.getD i default) (by omega)
    have e := take_succ_getD (l := p) (i := i) hi2
    repeat' (first | (with_reducible (show runOps ..); first | (refine Qr rfl ?_; try intro K' hK; try simp only [go_sem, *])) | (with_reducible (show Hold ..); first | refine Qh rfl ?_ | refine s_draw rfl Tryz.mixed (by kernel_rfl) ?_ | (refine s_cond rfl ⟨_, rfl, fun hb => ?_, fun hb => ?_⟩ <;> (have hc := hb; try simp only [go_sem] at hc)) | refine s_ret rfl ?_) | (with_reducible (show callA ..); first | (refine call_n (sc) ?_ ?_ ?_ ?_; (focus (simp only [go_sem, *]; done)); (focus (first | (simp; done) | (simp [go_sem]; done))); (focus (first | (simp; done) | (simp [go_sem]; done))); simp only [go_sem, *])) | ((with_reducible refine Qb ?_ ?_); focus kernel_rfl) | ((with_reducible refine And.intro ?_ ?_); focus omega) | (refine contA_of hK ?_; clear hK K'; simp only [go_sem, *]) | (simp only [thenA, inBlockA, go_sem, *]))
    refine ⟨_, (by omega), [some 0, some 1, some 5], [3], _, _, _, (by (simp only [Weak, go_sem, List.map_append, List.map_set, *] <;> (try simp (disch := omega) only [wrap_succ]) <;> (try simp) <;> (try omega))), i + 1, rfl, (by omega), (by trivial), rfl, rfl, rfl⟩
  · have e : p.take i = p := List.take_of_length_le (by omega)
    repeat' (first | (with_reducible (show runOps ..); first | (refine Qr rfl ?_; try intro K' hK; try simp only [go_sem, *])) | (with_reducible (show Hold ..); first | refine Qh rfl ?_ | refine s_draw rfl Tryz.mixed (by kernel_rfl) ?_ | (refine s_cond rfl ⟨_, rfl, fun hb => ?_, fun hb => ?_⟩ <;> (have hc := hb; try simp only [go_sem] at hc)) | refine s_ret rfl ?_) | ((with_reducible refine Qb ?_ ?_); focus kernel_rfl) | ((with_reducible refine And.intro ?_ ?_); focus omega) | (refine contA_of hK ?_; clear hK K'; simp only [go_sem, *]) | (simp only [thenA, inBlockA, go_sem, *]))
    refine ⟨[.agg [.own 2 1 0 i]], [], [2], ⟨by simp only [resOne, go_sem], trivial⟩, ?_⟩
    simp only [go_sem, *]
    simp
    omega
end Go.Abs

namespace Go.Abs
open Go Go.Proofs
set_option maxRecDepth 10000
noncomputable def askedAt : Code := sub [0, 1, 0, 1, 1, 1, 1] (bodyOf Tryz.f100)
noncomputable def askedK (fn : FuncId) : LoopK := ⟨fn, #[19], rangeA0 askedAt, rangeB0 askedAt, 26⟩
theorem ysp_asked (fn : FuncId) (p : Plan) (t : Truth) (acc : List Truth) (h : acc.length ≤ 1000) :
    YSpec Tryz.prog [t.enc p] [.loopo (askedK fn) [(7, .ptr 1 0)] (some none), .box [.own 2 3 0 acc.length], .row 3 (acc.map (Truth.enc p))] (bV true)
      [.loopo (askedK fn) [(7, .ptr 1 0)] (some none), .box [.own 3 3 0 (acc ++ [t]).length], .dead, .row 3 ((acc ++ [t]).map (Truth.enc p))] := by
  refine yspec_of (L := askedK fn) (env := [(7, .ptr 1 0)]) (j := none) rfl rfl (fun E l hE => ?_)
  refine r_region rfl ?_
  simp only [askedK, putEnv, go_sem]
  repeat' (first | (with_reducible (show runOps ..); first | (refine Qr (ops := _ :: _) rfl ?_; try intro K' hK; try simp only [go_sem, *]) | (refine Qi rfl rfl rfl rfl (fun hb K' hK => ?_) (fun hb => ?_) <;> (have hc := hb; try simp only [go_sem] at hc; simp only [go_sem, *]))) | ((with_reducible refine Qb ?_ ?_); focus kernel_rfl) | ((with_reducible refine And.intro ?_ ?_); focus omega) | (refine contA_of hK ?_; clear hK K'; simp only [go_sem, *]) | (simp only [thenA, inBlockA, go_sem, *]))
  refine run_nil ?_
  refine ⟨by simp only [go_sem], ?_⟩
  refine r_block (id := 1) rfl ?_
  refine r_region rfl ?_
  simp only [go_sem]
  repeat' (first | (with_reducible (show runOps ..); first | (refine Qr (ops := _ :: _) rfl ?_; try intro K' hK; try simp only [go_sem, *]) | (refine Qi rfl rfl rfl rfl (fun hb K' hK => ?_) (fun hb => ?_) <;> (have hc := hb; try simp only [go_sem] at hc; simp only [go_sem, *]))) | ((with_reducible refine Qb ?_ ?_); focus kernel_rfl) | ((with_reducible refine And.intro ?_ ?_); focus omega) | (refine contA_of hK ?_; clear hK K'; simp only [go_sem, *]) | (simp only [thenA, inBlockA, go_sem, *]))
  refine run_nil ?_
  refine ⟨by simp only [go_sem], rfl, [some 0, some 1, some 2, some 5], [], ?_⟩
  simp only [go_sem, *]
  simp [lkV, XpF]
end Go.Abs

namespace Go.Abs
open Go Go.Proofs
set_option maxRecDepth 10000
set_option maxHeartbeats 4000000
abbrev growF : AV := .fn 162 [.ptr 0 0, .ptr 1 0, .ptr 2 0]
noncomputable def growFp (fn : FuncId) (s : Story) (acc : List Truth) : List AObj :=
  [.box [.ptr 3 0], .box [.yld 4], .box [growF], taleBox s, .loopo (askedK fn) [(7, .ptr 5 0)] (some none), .box [.own 6 3 0 acc.length], .row 3 (acc.map (Truth.enc s.first))]
noncomputable def growOut (fn : FuncId) (s : Story) (acc : List Truth) : List AObj :=
  [.box [.ptr 3 0], .box [.yld 4], .box [growF], taleBox s, .loopo (askedK fn) [(7, .ptr 5 0)] (some none), .box [.own 7 3 0 acc.length], .dead, .row 3 (acc.map (Truth.enc s.first))]
attribute [go_sem] growFp growOut
theorem sp_grow0 (fn : FuncId) (s : Story) (o0 : Told s) (t : Truth) (o : TOk s 0 t) (acc : List Truth) (ha : acc.length ≤ 1000) :
    Spec Tryz.prog 162 [t.enc s.first, .ptr 0 0, .ptr 1 0, .ptr 2 0] (growFp fn s acc) (bV true) (growOut fn s (acc ++ growT s 0 t)) := by
  have hst := o.steps
  have hst2 : ((t.ways.length : Int) == (s.steps.length : Int)) = true := by simp; omega
  have hfl := o0.facts
  have hsrc : ∀ f, f ∈ s.facts → f.src ∈ housesOf s.first := fun f hf => (o0.fact f hf).1
  have hnl : ∀ h, h ∈ housesOf s.first → (t.now h).length ≤ 1000 := fun h hh => by have := o.small o0.steps hh; omega
  have sf := fun b hb => sp_fits s t o0.first (by omega) hsrc hnl b hb
  have sy := ysp_asked fn s.first t acc ha
  rw [growT_zero]
  by_cases q : fitsT s.facts t = true
  · rw [if_pos q]
    have sf1 := sf true q
    clear sf q
    refine spec_body Tryz.func162 rfl (fun E hE => ?_); simp only [go_sem, Tryz.ntmps162]
    repeat' (first | (with_reducible (show runOps ..); first | (refine Qr rfl ?_; try intro K' hK; try simp only [go_sem, *]) | (refine Qi rfl rfl rfl rfl (fun hb K' hK => ?_) (fun hb => ?_) <;> (have hc := hb; try simp only [go_sem] at hc; simp only [go_sem, *]))) | (with_reducible (show Hold ..); first | refine Qh rfl ?_ | refine s_draw rfl Tryz.mixed (by kernel_rfl) ?_) | ((with_reducible refine Qb ?_ ?_); focus kernel_rfl) | ((with_reducible refine And.intro ?_ ?_); focus omega) | (refine contA_of hK ?_; clear hK K'; simp only [go_sem, *]) | (simp only [thenA, inBlockA, go_sem, *]))
    refine s_cond rfl ⟨true, by simp only [go_sem, *], fun _ => ?_, fun e => by cases e⟩
    refine s_seq rfl ?_
    refine s_yield 7 rfl rfl rfl ?_
    simp only [List.take_succ_cons, List.take_zero, List.drop_succ_cons, List.drop_zero]
    repeat' (first | (with_reducible (show runOps ..); first | (refine Qr (ops := _ :: _) rfl ?_; try intro K' hK; try simp only [go_sem, *]) | (refine Qi rfl rfl rfl rfl (fun hb K' hK => ?_) (fun hb => ?_) <;> (have hc := hb; try simp only [go_sem] at hc; simp only [go_sem, *]))) | ((with_reducible refine Qb ?_ ?_); focus kernel_rfl) | ((with_reducible refine And.intro ?_ ?_); focus omega) | (refine contA_of hK ?_; clear hK K'; simp only [go_sem, *]) | (simp only [thenA, inBlockA, go_sem, *]))
    refine call_of [3] [] sf1 (by simp) (by simp only [go_sem]) (by simp only [go_sem]) (by simp) (.inl rfl) (by simp [go_sem]) (by simp [go_sem]) ?_
    simp only [go_sem]
    repeat' (first | (with_reducible (show runOps ..); first | (refine Qr (ops := _ :: _) rfl ?_; try intro K' hK; try simp only [go_sem, *]) | (refine Qi rfl rfl rfl rfl (fun hb K' hK => ?_) (fun hb => ?_) <;> (have hc := hb; try simp only [go_sem] at hc; simp only [go_sem, *]))) | ((with_reducible refine Qb ?_ ?_); focus kernel_rfl) | ((with_reducible refine And.intro ?_ ?_); focus omega) | (refine contA_of hK ?_; clear hK K'; simp only [go_sem, *]) | (simp only [thenA, inBlockA, go_sem, *]))
    refine run_nil ?_
    refine guard_yes rfl rfl (by simp only [go_sem]) ?_
    refine ⟨by simp only [go_sem], ?_⟩
    simp only [go_sem]
    refine yield_of [4, 5, 6] [] sy rfl rfl (by simp) (by simp only [go_sem]) ?_ (by simp) (.inl rfl) (by simp [go_sem]) (by simp [go_sem]) ?_
    · simp only [go_sem]
    simp only [go_sem]
    repeat' (first | (with_reducible (show runOps ..); first | (refine Qr rfl ?_; try intro K' hK; try simp only [go_sem, *]) | (refine Qi rfl rfl rfl rfl (fun hb K' hK => ?_) (fun hb => ?_) <;> (have hc := hb; try simp only [go_sem] at hc; simp only [go_sem, *]))) | (with_reducible (show Hold ..); first | refine Qh rfl ?_ | refine s_draw rfl Tryz.mixed (by kernel_rfl) ?_ | (refine s_cond rfl ⟨_, rfl, fun hb => ?_, fun hb => ?_⟩ <;> (have hc := hb; try simp only [go_sem] at hc)) | refine s_ret rfl ?_) | ((with_reducible refine Qb ?_ ?_); focus kernel_rfl) | ((with_reducible refine And.intro ?_ ?_); focus omega) | (refine contA_of hK ?_; clear hK K'; simp only [go_sem, *]) | (simp only [thenA, inBlockA, go_sem, *]))
    refine ⟨[_], [some 0, some 1, some 2, some 3, some 4, some 5, some 6, some 8], [], ⟨rfl, trivial⟩, ?_⟩
    simp only [go_sem, *]
  · rw [if_neg q, List.append_nil]
    rw [Bool.not_eq_true] at q
    have sf1 := sf false q
    clear sf q
    refine spec_body Tryz.func162 rfl (fun E hE => ?_); simp only [go_sem, Tryz.ntmps162]
    repeat' (first | (with_reducible (show runOps ..); first | (refine Qr rfl ?_; try intro K' hK; try simp only [go_sem, *]) | (refine Qi rfl rfl rfl rfl (fun hb K' hK => ?_) (fun hb => ?_) <;> (have hc := hb; try simp only [go_sem] at hc; simp only [go_sem, *]))) | (with_reducible (show Hold ..); first | refine Qh rfl ?_ | refine s_draw rfl Tryz.mixed (by kernel_rfl) ?_ | (refine s_cond rfl ⟨_, rfl, fun hb => ?_, fun hb => ?_⟩ <;> (have hc := hb; try simp only [go_sem] at hc)) | refine s_ret rfl ?_) | ((with_reducible refine Qb ?_ ?_); focus kernel_rfl) | ((with_reducible refine And.intro ?_ ?_); focus omega) | (refine contA_of hK ?_; clear hK K'; simp only [go_sem, *]) | (simp only [thenA, inBlockA, go_sem, *]))
    all_goals first | contradiction | skip
    refine call_of [3] [] sf1 (by simp) (by simp only [go_sem]) (by simp only [go_sem]) (by simp) (.inl rfl) (by simp [go_sem]) (by simp [go_sem]) ?_
    simp only [go_sem]
    repeat' (first | (with_reducible (show runOps ..); first | (refine Qr rfl ?_; try intro K' hK; try simp only [go_sem, *]) | (refine Qi rfl rfl rfl rfl (fun hb K' hK => ?_) (fun hb => ?_) <;> (have hc := hb; try simp only [go_sem] at hc; simp only [go_sem, *]))) | (with_reducible (show Hold ..); first | refine Qh rfl ?_ | refine s_draw rfl Tryz.mixed (by kernel_rfl) ?_ | (refine s_cond rfl ⟨_, rfl, fun hb => ?_, fun hb => ?_⟩ <;> (have hc := hb; try simp only [go_sem] at hc)) | refine s_ret rfl ?_) | ((with_reducible refine Qb ?_ ?_); focus kernel_rfl) | ((with_reducible refine And.intro ?_ ?_); focus omega) | (refine contA_of hK ?_; clear hK K'; simp only [go_sem, *]) | (simp only [thenA, inBlockA, go_sem, *]))
    refine ⟨[_], [some 0, some 1, some 2, some 3, some 4, some 5, some 6, some 6], [], ⟨rfl, trivial⟩, ?_⟩
    simp only [go_sem, *]
theorem sp_grow (fn : FuncId) (s : Story) (o0 : Told s) : ∀ (n : Nat) (t : Truth), TOk s n t → ∀ acc : List Truth, acc.length + (growT s n t).length ≤ 1000 →
    Spec Tryz.prog 162 [t.enc s.first, .ptr 0 0, .ptr 1 0, .ptr 2 0] (growFp fn s acc) (bV true) (growOut fn s (acc ++ growT s n t))
  | 0, t, o, acc, ha => sp_grow0 fn s o0 t o acc (by omega)
  | n + 1, t, o, acc, ha => by
    have IH := sp_grow fn s o0 n
    have hst := o.steps
    have hst2 : ((t.ways.length : Int) == (s.steps.length : Int)) = false := by simp; omega
    have hkl : t.ways.length < s.steps.length := by omega
    have hw3 := (o0.ways _ (getD_mem hkl)).2.1
    have h3 := o0.steps
    have v0 := o0.first
    rw [growT_succ] at ha ⊢
    obtain ⟨w, hw⟩ : ∃ w, w = s.steps.getD t.ways.length default := ⟨_, rfl⟩
    have hwa : wayAt s t.ways.length = w := hw.symm
    rw [← hw] at hw3
    obtain ⟨tot, htot⟩ : ∃ tot, tot = acc ++ growFrom s n t 0 := ⟨_, rfl⟩
    rw [← htot]
    have hac0 : acc ++ growFrom s n t 0 = tot := htot.symm
    have htl : tot.length ≤ 1000 := by rw [htot, List.length_append]; omega
    clear htot ha
    have hcl := sp_Clone_int t.ways (by omega)
    have hca : callable Tryz.prog 162 = true := by kernel_rfl
    refine spec_body Tryz.func162 rfl (fun E hE => ?_); simp only [go_sem, Tryz.ntmps162]
    repeat' (first | (with_reducible (show runOps ..); first | (refine Qr rfl ?_; try intro K' hK; try simp only [go_sem, *]) | (refine Qi rfl rfl rfl rfl (fun hb K' hK => ?_) (fun hb => ?_) <;> (have hc := hb; try simp only [go_sem] at hc; simp only [go_sem, *]))) | (with_reducible (show Hold ..); first | refine Qh rfl ?_ | refine s_draw rfl Tryz.mixed (by kernel_rfl) ?_ | (refine s_cond rfl ⟨_, rfl, fun hb => ?_, fun hb => ?_⟩ <;> (have hc := hb; try simp only [go_sem] at hc)) | refine s_ret rfl ?_) | ((with_reducible refine Qb ?_ ?_); focus kernel_rfl) | ((with_reducible refine And.intro ?_ ?_); focus omega) | (refine contA_of hK ?_; clear hK K'; simp only [go_sem, *]) | (simp only [thenA, inBlockA, go_sem, *]))
    all_goals first | contradiction | skip
    rw [← hw]
    refine s_loop rfl (fun zn zN zenv zAs => ∃ (i : Nat) (ac : List Truth), zn = (w.length) - i ∧ i ≤ (w.length) ∧ (ac ++ growFrom s n t i = tot) ∧ zN = 79 ∧ zenv = [(41, iV i), (40, iV w.length), (39, .list (w.map Change.enc)), (4, .ptr 7 0), (1, .ptr 0 0), (2, .ptr 1 0), (3, .ptr 2 0)] ∧ zAs = [.box [.ptr 3 0], .box [.yld 4], .box [growF], taleBox s, .loopo (askedK fn) [(7, .ptr 5 0)] (some none), .box [.own 8 3 0 ac.length], .dead, .box [.list (t.ways.map iV), .list (t.fin.map encStreet), .fmap (keysP s.first) (movesP s.first t.now)], .row 3 (ac.map (Truth.enc s.first))]) (w.length) ⟨[some 0, some 1, some 2, some 3, some 4, some 5, some 6, some 7, some 6], [], _, _, _, (by (simp only [Weak, go_sem, List.map_append, List.map_set, *] <;> (try simp (disch := omega) only [wrap_succ]) <;> (try simp) <;> (try omega))), 0, acc, (by simp), (by simp), (by exact hac0), rfl, rfl, rfl⟩ ?_; rintro _ _ _ _ ⟨i, ac, rfl, hi, hP, rfl, rfl, rfl⟩
    clear hac0 hw
    by_cases hi2 : i < w.length
    · obtain ⟨s1, s2⟩ := sp_effect_all t.fin (w.getD i default) o.val
      by_cases hcan : can t.fin (w.getD i default) = 0
      · rw [growFrom_yes (by rw [hwa]; exact hi2) (by rw [hwa]; exact hcan), hwa] at hP
        have se := s2 hcan
        have f := Fit.of_can hcan
        have o2 := o.next hcan i
        have hal := congrArg List.length hP
        simp only [List.length_append] at hal
        have sg := IH (stepT t (w.getD i default) i) o2 ac (by omega)
        clear s1 s2 IH
        have sa := sp_after t.fin (w.getD i default) o.val f
        rw [o.town] at sa
        have sth := sp_then (housesOf s.first) (housesOf t.fin) t.now (mv t.fin (w.getD i default)) v0.nodup v0.wf o.val.wf o.mem (fun h hh => o.flat_nodup f hh) (fun h hh => by have := o.small2 h3 f hh; omega)
          (by have := v0.count; omega) (fun h hh => by have := o.small h3 hh; omega) (fun x _ => by have := mv_len f x; omega)
        repeat' (first | (with_reducible (show runOps ..); first | (refine Qr rfl ?_; try intro K' hK; try simp only [go_sem, *]) | (refine Qi rfl rfl rfl rfl (fun hb K' hK => ?_) (fun hb => ?_) <;> (have hc := hb; try simp only [go_sem] at hc; simp only [go_sem, *]))) | (with_reducible (show Hold ..); first | refine Qh rfl ?_ | (refine s_cond rfl ⟨_, rfl, fun hb => ?_, fun hb => ?_⟩ <;> (have hc := hb; try simp only [go_sem] at hc)) | refine s_ret rfl ?_) | (with_reducible (show callA ..); first | (refine call_n (se) ?_ ?_ ?_ ?_; (focus (simp only [go_sem, *]; done)); (focus (first | (simp; done) | (simp [go_sem]; done))); (focus (first | (simp; done) | (simp [go_sem]; done))); simp only [go_sem, *])) | ((with_reducible refine Qb ?_ ?_); focus kernel_rfl) | ((with_reducible refine And.intro ?_ ?_); focus omega) | (refine contA_of hK ?_; clear hK K'; simp only [go_sem, *]) | (simp only [thenA, inBlockA, go_sem, *]))
        all_goals first | contradiction | skip
        generalize w.getD i default = c at *
        refine hold_weak (N := 79) (env := [(9, .fmap (keysP t.fin) (movesP t.fin (mv t.fin c))), (7, iV i), (41, iV i), (40, iV w.length), (39, .list (w.map Change.enc)), (4, .ptr 7 0), (1, .ptr 0 0), (2, .ptr 1 0), (3, .ptr 2 0)])
          (As := [.box [.ptr 3 0], .box [.yld 4], .box [growF], taleBox s, .loopo (askedK fn) [(7, .ptr 5 0)] (some none), .box [.own 8 3 0 ac.length], .dead, .box [.list (t.ways.map iV), .list (t.fin.map encStreet), .fmap (keysP s.first) (movesP s.first t.now)], .row 3 (ac.map (Truth.enc s.first))])
          [some 0, some 1, some 2, some 3, some 4, some 5, some 6, some 7, some 8] [10] (by (simp only [Weak, go_sem, List.map_append, List.map_set, *] <;> (try simp (disch := omega) only [wrap_succ]) <;> (try simp) <;> (try omega))) ?_
        simp only [go_sem]
        repeat' (first | (with_reducible (show runOps ..); first | (refine Qr rfl ?_; try intro K' hK; try simp only [go_sem, *]) | (refine Qi rfl rfl rfl rfl (fun hb K' hK => ?_) (fun hb => ?_) <;> (have hc := hb; try simp only [go_sem] at hc; simp only [go_sem, *]))) | (with_reducible (show Hold ..); first | refine Qh rfl ?_ | refine s_draw rfl Tryz.mixed (by kernel_rfl) ?_ | (refine s_cond rfl ⟨_, rfl, fun hb => ?_, fun hb => ?_⟩ <;> (have hc := hb; try simp only [go_sem] at hc)) | refine s_ret rfl ?_) | (with_reducible (show callA ..); first | ((first | refine call_s (sa) ?_ ?_ | refine call_s (sth) ?_ ?_); (focus (simp only [go_sem, *]; done)); simp only [go_sem, *]) | (refine call_n (hcl) ?_ ?_ ?_ ?_; (focus (simp only [go_sem, *]; done)); (focus (first | (simp; done) | (simp [go_sem]; done))); (focus (first | (simp; done) | (simp [go_sem]; done))); simp only [go_sem, *])) | ((with_reducible refine Qb ?_ ?_); focus kernel_rfl) | ((with_reducible refine And.intro ?_ ?_); focus omega) | (refine contA_of hK ?_; clear hK K'; simp only [go_sem, *]) | (simp only [thenA, inBlockA, go_sem, *]))
        refine call_fzi [0, 1, 2, 3, 4, 5, 8] [11] sg rfl (by simp only [go_sem, Nat.le_refl]) (by simp) ?_ ?_ (by simp [go_sem]) (by simp [go_sem]) ?_
        · simp only [go_sem, *, Nat.le_refl]
          exact ⟨by simp [stepT, List.take_of_length_le], rfl, rfl⟩
        · simp only [go_sem, *]
        simp only [go_sem, deads, *]
        repeat' (first | (with_reducible (show runOps ..); first | (refine Qr rfl ?_; try intro K' hK; try simp only [go_sem, *]) | (refine Qi rfl rfl rfl rfl (fun hb K' hK => ?_) (fun hb => ?_) <;> (have hc := hb; try simp only [go_sem] at hc; simp only [go_sem, *]))) | (with_reducible (show Hold ..); first | refine Qh rfl ?_ | refine s_draw rfl Tryz.mixed (by kernel_rfl) ?_ | (refine s_cond rfl ⟨_, rfl, fun hb => ?_, fun hb => ?_⟩ <;> (have hc := hb; try simp only [go_sem] at hc)) | refine s_ret rfl ?_) | ((with_reducible refine Qb ?_ ?_); focus kernel_rfl) | ((with_reducible refine And.intro ?_ ?_); focus omega) | (refine contA_of hK ?_; clear hK K'; simp only [go_sem, *]) | (simp only [thenA, inBlockA, go_sem, *]))
        all_goals first | contradiction | skip
        refine ⟨_, (by omega), [some 0, some 1, some 2, some 3, some 4, some 5, some 6, some 7, some 12], [], _, _, _, (by (simp only [Weak, go_sem, List.map_append, List.map_set, *] <;> (try simp (disch := omega) only [wrap_succ]) <;> (try simp) <;> (try omega))), i + 1, ac ++ growT s n (stepT t c i), rfl, (by omega), (by rw [← hP]; simp), rfl, rfl, rfl⟩
      · rw [growFrom_no (by rw [hwa]; exact hi2) (by rw [hwa]; exact hcan)] at hP
        have se := s1 hcan
        have hcb : (can t.fin (w.getD i default) == 0) = false := by simpa using hcan
        clear s1 s2 IH
        repeat' (first | (with_reducible (show runOps ..); first | (refine Qr rfl ?_; try intro K' hK; try simp only [go_sem, *]) | (refine Qi rfl rfl rfl rfl (fun hb K' hK => ?_) (fun hb => ?_) <;> (have hc := hb; try simp only [go_sem] at hc; simp only [go_sem, *]))) | (with_reducible (show Hold ..); first | refine Qh rfl ?_ | (refine s_cond rfl ⟨_, rfl, fun hb => ?_, fun hb => ?_⟩ <;> (have hc := hb; try simp only [go_sem] at hc)) | refine s_ret rfl ?_) | (with_reducible (show callA ..); first | (refine call_s (se) ?_ ?_; (focus (simp only [go_sem, *]; done)); simp only [go_sem, *])) | ((with_reducible refine Qb ?_ ?_); focus kernel_rfl) | ((with_reducible refine And.intro ?_ ?_); focus omega) | (refine contA_of hK ?_; clear hK K'; simp only [go_sem, *]) | (simp only [thenA, inBlockA, go_sem, *]))
        all_goals first | contradiction | skip
        refine ⟨_, (by omega), [some 0, some 1, some 2, some 3, some 4, some 5, some 6, some 7, some 8], [], _, _, _, (by (simp only [Weak, go_sem, List.map_append, List.map_set, *] <;> (try simp (disch := omega) only [wrap_succ]) <;> (try simp) <;> (try omega))), i + 1, ac, rfl, (by omega), (by exact hP), rfl, rfl, rfl⟩
    · rw [growFrom_end (by rw [hwa]; omega), List.append_nil] at hP
      subst hP
      repeat' (first | (with_reducible (show runOps ..); first | (refine Qr rfl ?_; try intro K' hK; try simp only [go_sem, *]) | (refine Qi rfl rfl rfl rfl (fun hb K' hK => ?_) (fun hb => ?_) <;> (have hc := hb; try simp only [go_sem] at hc; simp only [go_sem, *]))) | (with_reducible (show Hold ..); first | refine Qh rfl ?_ | refine s_draw rfl Tryz.mixed (by kernel_rfl) ?_ | (refine s_cond rfl ⟨_, rfl, fun hb => ?_, fun hb => ?_⟩ <;> (have hc := hb; try simp only [go_sem] at hc)) | refine s_ret rfl ?_) | ((with_reducible refine Qb ?_ ?_); focus kernel_rfl) | ((with_reducible refine And.intro ?_ ?_); focus omega) | (refine contA_of hK ?_; clear hK K'; simp only [go_sem, *]) | (simp only [thenA, inBlockA, go_sem, *]))
      refine ⟨[_], [some 0, some 1, some 2, some 3, some 4, some 5, some 6, some 8], [], ⟨rfl, trivial⟩, ?_⟩
      simp only [go_sem, *]
end Go.Abs

namespace Go.Abs
open Go Go.Proofs
set_option maxRecDepth 10000
set_option maxHeartbeats 4000000
theorem sp_truths1 (fn : FuncId) (s : Story) (o : Told s) :
    Spec Tryz.prog 161 [.yld 2, .ptr 0 0] [.box [.ptr 1 0], taleBox s, .loopo (askedK fn) [(7, .ptr 3 0)] (some none), .box [.own 4 3 0 0], .row 3 []] (.tup [])
      [.box [.ptr 1 0], taleBox s, .loopo (askedK fn) [(7, .ptr 3 0)] (some none), .box [.own 5 3 0 (truthsOf s).length], .dead, .row 3 ((truthsOf s).map (Truth.enc s.first))] := by
  have v := o.first
  have hl := truths_len o.steps (fun w hw => (o.ways w hw).2.1)
  have sg := sp_grow fn s o s.steps.length (firstT s) (firstT_ok v) [] (by unfold truthsOf at hl; simp only [List.length_nil]; omega)
  rw [List.nil_append] at sg
  have hca : callable Tryz.prog 162 = true := by kernel_rfl
  have sc := sp_copied s.first v
  have ss := sp_stay s.first v
  have ht : growT s s.steps.length (firstT s) = truthsOf s := rfl
  rw [ht] at sg
  generalize truthsOf s = l at *
  clear ht
  refine spec_body Tryz.func161 rfl (fun E hE => ?_); simp only [go_sem, Tryz.ntmps161]
  repeat' (first | (with_reducible (show runOps ..); first | (refine Qr rfl ?_; try intro K' hK; try simp only [go_sem, *])) | (with_reducible (show Hold ..); first | refine Qh rfl ?_ | refine s_draw rfl Tryz.mixed (by kernel_rfl) ?_ | (refine s_cond rfl ⟨_, rfl, fun hb => ?_, fun hb => ?_⟩ <;> (have hc := hb; try simp only [go_sem] at hc)) | refine s_ret rfl ?_) | (with_reducible (show callA ..); first | (refine call_s (sc) ?_ ?_; (focus (simp only [go_sem, *]; done)); simp only [go_sem, *]) | (refine call_n (ss) ?_ ?_ ?_ ?_; (focus (simp only [go_sem, *]; done)); (focus (first | (simp; done) | (simp [go_sem]; done))); (focus (first | (simp; done) | (simp [go_sem]; done))); simp only [go_sem, *])) | ((with_reducible refine Qb ?_ ?_); focus kernel_rfl) | ((with_reducible refine And.intro ?_ ?_); focus omega) | (refine contA_of hK ?_; clear hK K'; simp only [go_sem, *]) | (simp only [thenA, inBlockA, go_sem, *]))
  refine call_fzi [0, 5, 6, 1, 2, 3, 4] [7] sg rfl (by simp only [go_sem]) (by simp) ?_ ?_ (by simp [go_sem]) (by simp [go_sem]) ?_
  · simp only [go_sem, *]
    exact ⟨rfl, rfl, rfl⟩
  · simp only [go_sem, *]
  simp only [go_sem, deads, *]
  repeat' (first | (with_reducible (show runOps ..); first | (refine Qr rfl ?_; try intro K' hK; try simp only [go_sem, *])) | (with_reducible (show Hold ..); first | refine Qh rfl ?_ | refine s_draw rfl Tryz.mixed (by kernel_rfl) ?_ | (refine s_cond rfl ⟨_, rfl, fun hb => ?_, fun hb => ?_⟩ <;> (have hc := hb; try simp only [go_sem] at hc)) | refine s_ret rfl ?_) | ((with_reducible refine Qb ?_ ?_); focus kernel_rfl) | ((with_reducible refine And.intro ?_ ?_); focus omega) | (refine contA_of hK ?_; clear hK K'; simp only [go_sem, *]) | (simp only [thenA, inBlockA, go_sem, *]))
  refine ⟨[], [some 0, some 1, some 2, some 3, some 4, some 8], [], trivial, ?_⟩
  simp only [go_sem, *]
theorem sp_truths (s : Story) : Spec Tryz.prog 139 [.ptr 0 0] [taleBox s] (.fn 161 [.ptr 1 0]) [taleBox s, .box [.ptr 0 0]] := by
  refine spec_body Tryz.func139 rfl (fun E hE => ?_); simp only [go_sem, Tryz.ntmps139]
  repeat' (first | (with_reducible (show runOps ..); first | (refine Qr rfl ?_; try intro K' hK; try simp only [go_sem, *])) | (with_reducible (show Hold ..); first | refine Qh rfl ?_ | (refine s_cond rfl ⟨_, rfl, fun hb => ?_, fun hb => ?_⟩ <;> (have hc := hb; try simp only [go_sem] at hc)) | refine s_ret rfl ?_) | ((with_reducible refine Qb ?_ ?_); focus kernel_rfl) | ((with_reducible refine And.intro ?_ ?_); focus omega) | (refine contA_of hK ?_; clear hK K'; simp only [go_sem, *]) | (simp only [thenA, inBlockA, go_sem, *]))
  refine ⟨[_], [some 0, some 1], [], ⟨rfl, trivial⟩, ?_⟩
  simp only [go_sem, *]
theorem sp_asked_ok (s : Story) (h : storyErr s = 0) :
    Spec Tryz.prog 100 [s.enc] [] (.tup [.ptr 0 0, .list ((truthsOf s).map (Truth.enc s.first)), iV 0]) [taleBox s] := by
  have o := story_zero h
  have hl := truths_len o.steps (fun w hw => (o.ways w hw).2.1)
  have sb := sp_begin s (by have := o.steps; omega) (fun w hw => by have := (o.ways w hw).2.1; omega) (by have := o.facts; omega) (by have := o.first.len; omega) (.tup [.ptr 0 0, iV 0]) [taleBox s] (storyErr s) rfl ⟨fun _ => ⟨rfl, rfl⟩, fun e => absurd h e⟩
  have st := sp_truths s
  have s1 := fun fn => sp_truths1 fn s o
  generalize truthsOf s = l at *
  refine spec_body Tryz.func100 rfl (fun E hE => ?_); simp only [go_sem, Tryz.ntmps100]
  repeat' (first | (with_reducible (show runOps ..); first | (refine Qr rfl ?_; try intro K' hK; try simp only [go_sem, *])) | (with_reducible (show Hold ..); first | refine Qh rfl ?_ | (refine s_cond rfl ⟨_, rfl, fun hb => ?_, fun hb => ?_⟩ <;> (have hc := hb; try simp only [go_sem] at hc)) | refine s_ret rfl ?_) | (with_reducible (show callA ..); first | (refine call_n (sb) ?_ ?_ ?_ ?_; (focus (simp only [go_sem, *]; done)); (focus (first | (simp; done) | (simp [go_sem]; done))); (focus (first | (simp; done) | (simp [go_sem]; done))); simp only [go_sem, *])) | ((with_reducible refine Qb ?_ ?_); focus kernel_rfl) | ((with_reducible refine And.intro ?_ ?_); focus omega) | (refine contA_of hK ?_; clear hK K'; simp only [go_sem, *]) | (simp only [thenA, inBlockA, go_sem, *]))
  all_goals first | contradiction | skip
  refine call_of [1] [] st (by simp) (by simp only [go_sem]) (by simp only [go_sem]) (by simp) (.inl rfl) (by simp [go_sem]) (by simp [go_sem]) ?_
  simp only [go_sem]
  repeat' (first | (with_reducible (show runOps ..); first | (refine Qr rfl ?_; try intro K' hK; try simp only [go_sem, *])) | (with_reducible (show Hold ..); first | refine Qh rfl ?_ | (refine s_cond rfl ⟨_, rfl, fun hb => ?_, fun hb => ?_⟩ <;> (have hc := hb; try simp only [go_sem] at hc)) | refine s_ret rfl ?_) | ((with_reducible refine Qb ?_ ?_); focus kernel_rfl) | ((with_reducible refine And.intro ?_ ?_); focus omega) | (refine contA_of hK ?_; clear hK K'; simp only [go_sem, *]) | (simp only [thenA, inBlockA, go_sem, *]))
  refine hold_weak (N := 26) (env := [(18, .fn 161 [.ptr 1 0]), (7, .ptr 2 0), (5, .ptr 0 0)]) (As := [taleBox s, .box [.ptr 0 0], .box [.own 3 3 0 0], .row 3 []]) [some 1, some 3, some 2, none] [] (by (simp only [Weak, go_sem, List.map_append, List.map_set, *] <;> (try simp (disch := omega) only [wrap_succ]) <;> (try simp) <;> (try omega))) ?_
  refine s_range (f := 161) (caps := [.ptr 1 0]) rfl (by simp only [go_sem]) (by kernel_rfl) (nx := 4) (by simp only [go_sem]) (fun fn => ⟨5, ?_⟩)
  refine call_of [1, 0, 4, 2, 3] [] (s1 fn) (by simp) (by simp only [go_sem]) ?_ (by simp) (.inl rfl) (by simp [go_sem]) (by simp [go_sem]) ?_
  · simp only [go_sem, *]
    rfl
  · simp only [go_sem, *]
    refine ⟨askedK fn, [(7, .ptr 2 0)], none, by simp only [go_sem], ?_⟩
    simp only [go_sem]
    repeat' (first | (with_reducible (show runOps ..); first | (refine Qr rfl ?_; try intro K' hK; try simp only [go_sem, *])) | (with_reducible (show Hold ..); first | refine Qh rfl ?_ | refine s_draw rfl Tryz.mixed (by kernel_rfl) ?_ | (refine s_cond rfl ⟨_, rfl, fun hb => ?_, fun hb => ?_⟩ <;> (have hc := hb; try simp only [go_sem] at hc)) | refine s_ret rfl ?_) | ((with_reducible refine Qb ?_ ?_); focus kernel_rfl) | ((with_reducible refine And.intro ?_ ?_); focus omega) | (refine contA_of hK ?_; clear hK K'; simp only [go_sem, *]) | (simp only [thenA, inBlockA, go_sem, *]))
    refine ⟨[_, _, _], [some 0], [5], ⟨rfl, rfl, rfl, trivial⟩, ?_⟩
    simp only [go_sem, *]
    simp [List.take_of_length_le]
end Go.Abs

namespace Go.Abs
open Go Go.Proofs
set_option maxRecDepth 10000
set_option maxHeartbeats 4000000
attribute [go_sem] Nat.le_refl
section
variable {H : Nat → AObj} {m : List (Option Nat)} {ex : List Nat} {α : Type}
@[go_sem, simp] theorem XpL_take_lists (f : α → List AV) (l : List α) (i : Nat) (ys zs : List AV) : XpL H m ex (List.take i (List.map (fun t => AV.list (f t)) l) ++ [AV.list ys]) (List.take i (List.map (fun t => AV.list (f t)) l) ++ [AV.list zs]) ↔ ys = zs := by
  rw [XpL_app _ (fun z hz => by
    obtain ⟨t, _, rfl⟩ := List.mem_map.1 (List.mem_of_mem_take hz)
    simp only [XpF])]
  simp only [XpF]
@[go_sem, simp] theorem XpL_map_lists (f : α → List AV) (l : List α) (ys zs : List AV) : XpL H m ex (List.map (fun t => AV.list (f t)) l ++ [AV.list ys]) (List.map (fun t => AV.list (f t)) l ++ [AV.list zs]) ↔ ys = zs := by
  rw [XpL_app _ (fun z hz => by
    obtain ⟨t, _, rfl⟩ := List.mem_map.1 hz
    simp only [XpF])]
  simp only [XpF]
end
theorem sp_Truths_ok (s : Story) (h : storyErr s = 0) : Spec Tryz.prog 39 [s.enc] [] (.tup [.list ((waysOf s).map encInts), iV 0]) [] := by
  have o := story_zero h
  have hl := truths_len o.steps (fun w hw => (o.ways w hw).2.1)
  have sa := sp_asked_ok s h
  unfold waysOf
  generalize truthsOf s = l at *
  refine spec_body Tryz.func39 rfl (fun E hE => ?_); simp only [go_sem, Tryz.ntmps39]
  repeat' (first | (with_reducible (show runOps ..); first | (refine Qr rfl ?_; try intro K' hK; try simp only [go_sem, *])) | (with_reducible (show Hold ..); first | refine Qh rfl ?_ | (refine s_cond rfl ⟨_, rfl, fun hb => ?_, fun hb => ?_⟩ <;> (have hc := hb; try simp only [go_sem] at hc)) | refine s_ret rfl ?_) | (with_reducible (show callA ..); first | (refine call_n (sa) ?_ ?_ ?_ ?_; (focus (simp only [go_sem, *]; done)); (focus (first | (simp; done) | (simp [go_sem]; done))); (focus (first | (simp; done) | (simp [go_sem]; done))); simp only [go_sem, *])) | ((with_reducible refine Qb ?_ ?_); focus kernel_rfl) | ((with_reducible refine And.intro ?_ ?_); focus omega) | (refine contA_of hK ?_; clear hK K'; simp only [go_sem, *]) | (simp only [thenA, inBlockA, go_sem, *]))
  all_goals first | contradiction | skip
  refine s_loop rfl (fun zn zN zenv zAs => ∃ (i : Nat), zn = (l.length) - i ∧ i ≤ (l.length) ∧ (NoP i) ∧ zN = 32 ∧ zenv = [(21, iV i), (20, iV l.length), (19, .list (l.map (Truth.enc s.first))), (7, .own 0 1 0 i)] ∧ zAs = [.box ((l.take i).map fun t => encInts t.ways)]) (l.length) ⟨[none], [], _, _, _, (by (simp only [Weak, go_sem, List.map_append, List.map_set, *] <;> (try simp (disch := omega) only [wrap_succ]) <;> (try simp) <;> (try omega))), 0, (by simp), (by simp), (by trivial), rfl, rfl, rfl⟩ ?_; rintro _ _ _ _ ⟨i, rfl, hi, hP, rfl, rfl, rfl⟩
  by_cases hi2 : i < l.length
  · have e := take_succ_getD (l := l) (i := i) hi2
    repeat' (first | (with_reducible (show runOps ..); first | (refine Qr rfl ?_; try intro K' hK; try simp only [go_sem, *])) | (with_reducible (show Hold ..); first | refine Qh rfl ?_ | (refine s_cond rfl ⟨_, rfl, fun hb => ?_, fun hb => ?_⟩ <;> (have hc := hb; try simp only [go_sem] at hc)) | refine s_ret rfl ?_) | ((with_reducible refine Qb ?_ ?_); focus kernel_rfl) | ((with_reducible refine And.intro ?_ ?_); focus omega) | (refine contA_of hK ?_; clear hK K'; simp only [go_sem, *]) | (simp only [thenA, inBlockA, go_sem, *]))
    refine ⟨_, (by omega), [some 3], [], _, _, _, (by (simp only [Weak, go_sem, List.map_append, List.map_set, *] <;> (try simp (disch := omega) only [wrap_succ]) <;> (try simp) <;> (try omega))), i + 1, rfl, (by omega), (by trivial), rfl, rfl, rfl⟩
  · have e : l.take i = l := List.take_of_length_le (by omega)
    repeat' (first | (with_reducible (show runOps ..); first | (refine Qr rfl ?_; try intro K' hK; try simp only [go_sem, *])) | (with_reducible (show Hold ..); first | refine Qh rfl ?_ | (refine s_cond rfl ⟨_, rfl, fun hb => ?_, fun hb => ?_⟩ <;> (have hc := hb; try simp only [go_sem] at hc)) | refine s_ret rfl ?_) | ((with_reducible refine Qb ?_ ?_); focus kernel_rfl) | ((with_reducible refine And.intro ?_ ?_); focus omega) | (refine contA_of hK ?_; clear hK K'; simp only [go_sem, *]) | (simp only [thenA, inBlockA, go_sem, *]))
    refine ⟨[_, _], [], [0], ⟨rfl, rfl, trivial⟩, ?_⟩
    simp only [go_sem, *]
    exact ⟨by omega, fun x hx => by obtain ⟨_, _, rfl⟩ := List.mem_map.1 hx; rfl, .inl (by simp [Function.comp_def])⟩
theorem sp_Where_ok (s : Story) (h : House) (he : whereErr s h = 0) (hn : (whereL s h).Nodup) (h12 : (whereL s h).length ≤ 12) :
    Spec Tryz.prog 58 [s.enc, h.enc] [] (.tup [.list ((whereOf s h).map House.enc), iV 0]) [] := by
  have hs : storyErr s = 0 := by
    unfold whereErr at he
    split at he <;> assumption
  have hh : h ∈ housesOf s.first := by
    unfold whereErr at he
    rw [if_pos hs] at he
    by_cases q : h ∈ housesOf s.first
    · exact q
    · rw [if_neg q] at he; omega
  have hne : truthsOf s ≠ [] := by
    unfold whereErr at he
    rw [if_pos hs, if_pos hh] at he
    intro e
    rw [if_pos e] at he; omega
  have o := story_zero hs
  have hl := truths_len o.steps (fun w hw => (o.ways w hw).2.1)
  have ht := truths_ok o.first
  have sa := sp_asked_ok s hs
  have sc := sp_Contains_place (housesOf s.first) h (by have := o.first.count; omega)
  have e0 : decide (h ∈ housesOf s.first) = true := by simpa using hh
  rw [e0] at sc
  have ss := sp_sorted (whereL s h) hn h12
  have hw := o.first.wf
  have hwf := hw _ hh
  have h3 := o.steps
  have hsm : ∀ t, t ∈ truthsOf s → (t.now h).length ≤ 8 := fun t hm => (ht t hm).small h3 hh
  unfold whereOf
  have hwl : ([] : List House) ++ ((truthsOf s).drop 0).flatMap (fun t => t.now h) = whereL s h := rfl
  generalize whereL s h = W at *
  generalize truthsOf s = l at *
  have hl0 : ((l.length : Int) == 0) = false := by
    have : 0 < l.length := List.length_pos_iff.2 hne
    simp; omega
  clear he e0 ht hne
  refine spec_body Tryz.func58 rfl (fun E hE => ?_); simp only [go_sem, Tryz.ntmps58]
  repeat' (first | (with_reducible (show runOps ..); first | (refine Qr rfl ?_; try intro K' hK; try simp only [go_sem, *])) | (with_reducible (show Hold ..); first | refine Qh rfl ?_ | refine s_draw rfl Tryz.mixed (by kernel_rfl) ?_ | (refine s_cond rfl ⟨_, rfl, fun hb => ?_, fun hb => ?_⟩ <;> (have hc := hb; try simp only [go_sem] at hc)) | refine s_ret rfl ?_) | (with_reducible (show callA ..); first | (refine call_n (sa) ?_ ?_ ?_ ?_; (focus (simp only [go_sem, *]; done)); (focus (first | (simp; done) | (simp [go_sem]; done))); (focus (first | (simp; done) | (simp [go_sem]; done))); simp only [go_sem, *]) | (refine call_s (sc) ?_ ?_; (focus (simp only [go_sem, *]; done)); simp only [go_sem, *])) | ((with_reducible refine Qb ?_ ?_); focus kernel_rfl) | ((with_reducible refine And.intro ?_ ?_); focus omega) | (refine contA_of hK ?_; clear hK K'; simp only [go_sem, *]) | (simp only [thenA, inBlockA, go_sem, *]))
  all_goals first | contradiction | skip
  refine s_loop rfl (fun zn zN zenv zAs => ∃ (i : Nat) (acc : List House), zn = (l.length) - i ∧ i ≤ (l.length) ∧ (acc ++ (l.drop i).flatMap (fun t => t.now h) = W) ∧ zN = 46 ∧ zenv = [(33, iV i), (32, iV l.length), (31, .list (l.map (Truth.enc s.first))), (9, .own 1 3 0 acc.length), (3, .ptr 0 0)] ∧ zAs = [.box [iV h.street, iV h.plate.number, iV h.plate.letter], .row 3 (acc.map House.enc)]) (l.length) ⟨[some 1, none], [], _, _, _, (by (simp only [Weak, go_sem, List.map_append, List.map_set, *] <;> (try simp (disch := omega) only [wrap_succ]) <;> (try simp) <;> (try omega))), 0, [], (by simp), (by simp), (by exact hwl), rfl, rfl, rfl⟩ ?_; rintro _ _ _ _ ⟨i, acc, rfl, hi, hP, rfl, rfl, rfl⟩
  clear hwl
  have hql := congrArg List.length hP
  simp only [List.length_append] at hql
  by_cases hi2 : i < l.length
  · have hti := hsm _ (getD_mem hi2)
    rw [drop_cons hi2, List.flatMap_cons] at hP
    repeat' (first | (with_reducible (show runOps ..); first | (refine Qr rfl ?_; try intro K' hK; try simp only [go_sem, *])) | (with_reducible (show Hold ..); first | refine Qh rfl ?_ | refine s_draw rfl Tryz.mixed (by kernel_rfl) ?_ | (refine s_cond rfl ⟨_, rfl, fun hb => ?_, fun hb => ?_⟩ <;> (have hc := hb; try simp only [go_sem] at hc)) | refine s_ret rfl ?_) | ((with_reducible refine Qb ?_ ?_); focus kernel_rfl) | ((with_reducible refine And.intro ?_ ?_); focus omega) | (refine contA_of hK ?_; clear hK K'; simp only [go_sem, *]) | (simp only [thenA, inBlockA, go_sem, *]))
    refine look_fhouse (h := h) (hs := housesOf s.first) (F := MapV (l.getD i default).now) hw hwf ?_
    rw [if_pos hh, MapV]
    repeat' (first | (with_reducible (show runOps ..); first | (refine Qr rfl ?_; try intro K' hK; try simp only [go_sem, *])) | (with_reducible (show Hold ..); first | refine Qh rfl ?_ | refine s_draw rfl Tryz.mixed (by kernel_rfl) ?_ | (refine s_cond rfl ⟨_, rfl, fun hb => ?_, fun hb => ?_⟩ <;> (have hc := hb; try simp only [go_sem] at hc)) | refine s_ret rfl ?_) | ((with_reducible refine Qb ?_ ?_); focus kernel_rfl) | ((with_reducible refine And.intro ?_ ?_); focus omega) | (refine contA_of hK ?_; clear hK K'; simp only [go_sem, *]) | (simp only [thenA, inBlockA, go_sem, *]))
    refine ⟨fun y hy => ?_, fun y hy => ?_, by omega, ?_⟩
    · obtain ⟨z, _, rfl⟩ := List.mem_map.1 hy
      simp [go_sem]
    · obtain ⟨z, _, rfl⟩ := List.mem_map.1 hy
      simp [go_sem]
    · repeat' (first | (with_reducible (show runOps ..); first | (refine Qr rfl ?_; try intro K' hK; try simp only [go_sem, *])) | (with_reducible (show Hold ..); first | refine Qh rfl ?_ | refine s_draw rfl Tryz.mixed (by kernel_rfl) ?_ | (refine s_cond rfl ⟨_, rfl, fun hb => ?_, fun hb => ?_⟩ <;> (have hc := hb; try simp only [go_sem] at hc)) | refine s_ret rfl ?_) | ((with_reducible refine Qb ?_ ?_); focus kernel_rfl) | ((with_reducible refine And.intro ?_ ?_); focus omega) | (refine contA_of hK ?_; clear hK K'; simp only [go_sem, *]) | (simp only [thenA, inBlockA, go_sem, *]))
      refine ⟨_, (by omega), [some 0, some 3], [], _, _, _, (by (simp only [Weak, go_sem, List.map_append, List.map_set, *] <;> (try simp (disch := omega) only [wrap_succ]) <;> (try simp) <;> (try omega))), i + 1, acc ++ (l.getD i default).now h, rfl, (by omega), (by rw [← hP]; simp), rfl, rfl, rfl⟩
  · rw [drop_end (by omega), List.flatMap_nil, List.append_nil] at hP
    subst hP
    clear hql
    repeat' (first | (with_reducible (show runOps ..); first | (refine Qr rfl ?_; try intro K' hK; try simp only [go_sem, *])) | (with_reducible (show Hold ..); first | refine Qh rfl ?_ | refine s_draw rfl Tryz.mixed (by kernel_rfl) ?_ | (refine s_cond rfl ⟨_, rfl, fun hb => ?_, fun hb => ?_⟩ <;> (have hc := hb; try simp only [go_sem] at hc)) | refine s_ret rfl ?_) | ((with_reducible refine Qb ?_ ?_); focus kernel_rfl) | ((with_reducible refine And.intro ?_ ?_); focus omega) | (refine contA_of hK ?_; clear hK K'; simp only [go_sem, *]) | (simp only [thenA, inBlockA, go_sem, *]))
    (refine call_fz (ss) (by simp only [go_sem, *]; done) rfl (by simp only [go_sem]; done) (by simp) (by simp) ?_; simp only [go_sem, deads, *])
    repeat' (first | (with_reducible (show runOps ..); first | (refine Qr rfl ?_; try intro K' hK; try simp only [go_sem, *])) | (with_reducible (show Hold ..); first | refine Qh rfl ?_ | refine s_draw rfl Tryz.mixed (by kernel_rfl) ?_ | (refine s_cond rfl ⟨_, rfl, fun hb => ?_, fun hb => ?_⟩ <;> (have hc := hb; try simp only [go_sem] at hc)) | refine s_ret rfl ?_) | ((with_reducible refine Qb ?_ ?_); focus kernel_rfl) | ((with_reducible refine And.intro ?_ ?_); focus omega) | (refine contA_of hK ?_; clear hK K'; simp only [go_sem, *]) | (simp only [thenA, inBlockA, go_sem, *]))
    (refine ⟨[_, _], [], [], ⟨rfl, rfl, trivial⟩, ?_⟩; simp only [go_sem, *])
    trace_state
def AskR : Option (House × Nat) → AV → Prop
  | some (h, n), R => R = .tup [h.enc, iV n, iV 0]
  | none, R => R = .tup [(⟨0, ⟨0, 0⟩⟩ : House).enc, iV 0, iV 11]
theorem sp_Ask_ok (s : Story) (h : storyErr s = 0) (R : AV) (hR : AskR (askOf s) R) :
    Spec Tryz.prog 46 [s.enc] [] R [] := by
  have o := story_zero h
  have v := o.first
  have hct := v.count
  have h3 := o.steps
  have hl := truths_len h3 (fun w hw => (o.ways w hw).2.1)
  have ht := truths_ok v
  have sa := sp_asked_ok s h
  have hsm : ∀ t, t ∈ truthsOf s → ∀ x, x ∈ housesOf s.first → (t.now x).length ≤ 1000 := fun t hm x hx => by have := (ht t hm).small h3 hx; omega
  unfold askOf groupsOf at hR
  generalize truthsOf s = l at *
  clear ht
  have hgs : ∀ x, x ∈ (housesOf s.first).map (groupOf l) → x ≤ 1000 := fun x hx => by
    obtain ⟨y, _, rfl⟩ := List.mem_map.1 hx
    have := groupOf_le l y; omega
  have sl := sp_least ((housesOf s.first).map (groupOf l)) (by simp; omega) hgs
  refine spec_body Tryz.func46 rfl (fun E hE => ?_); simp only [go_sem, Tryz.ntmps46]
  repeat' (first | (with_reducible (show runOps ..); first | (refine Qr rfl ?_; try intro K' hK; try simp only [go_sem, *]) | (refine Qi rfl rfl rfl rfl (fun hb K' hK => ?_) (fun hb => ?_) <;> (have hc := hb; try simp only [go_sem] at hc; simp only [go_sem, *]))) | (with_reducible (show Hold ..); first | refine Qh rfl ?_ | refine s_draw rfl Tryz.mixed (by kernel_rfl) ?_ | (refine s_cond rfl ⟨_, rfl, fun hb => ?_, fun hb => ?_⟩ <;> (have hc := hb; try simp only [go_sem] at hc)) | refine s_ret rfl ?_) | (with_reducible (show callA ..); first | (refine call_n (sa) ?_ ?_ ?_ ?_; (focus (simp only [go_sem, *]; done)); (focus (first | (simp; done) | (simp [go_sem]; done))); (focus (first | (simp; done) | (simp [go_sem]; done))); simp only [go_sem, *])) | ((with_reducible refine Qb ?_ ?_); focus kernel_rfl) | ((with_reducible refine And.intro ?_ ?_); focus omega) | (refine contA_of hK ?_; clear hK K'; simp only [go_sem, *]) | (simp only [thenA, inBlockA, go_sem, *]))
  all_goals first | contradiction | skip
  refine s_loop rfl (fun zn zN zenv zAs => ∃ (i : Nat), zn = ((housesOf s.first).length) - i ∧ i ≤ ((housesOf s.first).length) ∧ (NoP i) ∧ zN = 67 ∧ zenv = [(26, iV i), (25, iV (housesOf s.first).length), (24, .list ((housesOf s.first).map House.enc)), (7, .own 2 1 0 i), (6, .list (l.map (Truth.enc s.first))), (5, .ptr 1 0), (2, .ptr 0 0)] ∧ zAs = [.box [iV 0, iV 0, iV 0], taleBox s, .row 1 (((housesOf s.first).take i).map fun x => iV (groupOf l x : Nat))]) ((housesOf s.first).length) ⟨[some 1, some 2, none], [], _, _, _, (by (simp only [Weak, go_sem, List.map_append, List.map_set, *] <;> (try simp (disch := omega) only [wrap_succ]) <;> (try simp) <;> (try omega))), 0, (by simp), (by simp), (by trivial), rfl, rfl, rfl⟩ ?_; rintro _ _ _ _ ⟨i, rfl, hi, hP, rfl, rfl, rfl⟩
  by_cases hi2 : i < (housesOf s.first).length
  · have e := take_succ_getD (l := housesOf s.first) (i := i) hi2
    have hm := getD_mem hi2
    have sg := sp_group s.first l ((housesOf s.first).getD i default) v hm (by omega) (fun t ht => hsm t ht _ hm)
    repeat' (first | (with_reducible (show runOps ..); first | (refine Qr rfl ?_; try intro K' hK; try simp only [go_sem, *]) | (refine Qi rfl rfl rfl rfl (fun hb K' hK => ?_) (fun hb => ?_) <;> (have hc := hb; try simp only [go_sem] at hc; simp only [go_sem, *]))) | (with_reducible (show Hold ..); first | refine Qh rfl ?_ | refine s_draw rfl Tryz.mixed (by kernel_rfl) ?_ | (refine s_cond rfl ⟨_, rfl, fun hb => ?_, fun hb => ?_⟩ <;> (have hc := hb; try simp only [go_sem] at hc)) | refine s_ret rfl ?_) | (with_reducible (show callA ..); first | (refine call_s (sg) ?_ ?_; (focus (simp only [go_sem, *]; done)); simp only [go_sem, *])) | ((with_reducible refine Qb ?_ ?_); focus kernel_rfl) | ((with_reducible refine And.intro ?_ ?_); focus omega) | (refine contA_of hK ?_; clear hK K'; simp only [go_sem, *]) | (simp only [thenA, inBlockA, go_sem, *]))
    refine ⟨_, (by omega), [some 0, some 1, some 5], [], _, _, _, (by (simp only [Weak, go_sem, List.map_append, List.map_set, *] <;> (try simp (disch := omega) only [wrap_succ]) <;> (try simp) <;> (try omega))), i + 1, rfl, (by omega), (by trivial), rfl, rfl, rfl⟩
  · have e : (housesOf s.first).take i = housesOf s.first := List.take_of_length_le (by omega)
    have e2 : (housesOf s.first).length ≤ i := by omega
    have hlr := leastOf_range (g := (housesOf s.first).map (groupOf l))
    obtain ⟨a, ha⟩ : ∃ a, a = leastOf ((housesOf s.first).map (groupOf l)) := ⟨_, rfl⟩
    have hneg : (housesOf s.first).length = 0 → a < 0 := fun h => by
      rw [ha, List.eq_nil_of_length_eq_zero h]; show leastOf [] < 0; decide
    rw [← ha] at sl hlr hR
    simp only [List.length_map] at hlr
    clear ha
    repeat' (first | (with_reducible (show runOps ..); first | (refine Qr rfl ?_; try intro K' hK; try simp only [go_sem, *]) | (refine Qi rfl rfl rfl rfl (fun hb K' hK => ?_) (fun hb => ?_) <;> (have hc := hb; try simp only [go_sem] at hc; simp only [go_sem, *]))) | (with_reducible (show Hold ..); first | refine Qh rfl ?_ | refine s_draw rfl Tryz.mixed (by kernel_rfl) ?_ | (refine s_cond rfl ⟨_, rfl, fun hb => ?_, fun hb => ?_⟩ <;> (have hc := hb; try simp only [go_sem] at hc)) | refine s_ret rfl ?_) | ((with_reducible refine Qb ?_ ?_); focus kernel_rfl) | ((with_reducible refine And.intro ?_ ?_); focus omega) | (refine contA_of hK ?_; clear hK K'; simp only [go_sem, *]) | (simp only [thenA, inBlockA, go_sem, *]))
    refine call_x [2] sl ?_ (.raw _) ?_
    · simp only [go_sem, *]
      simp [Function.comp_def, List.take_of_length_le, e2]
    simp only [go_sem, *]
    by_cases hl0 : l.length = 0
    · rw [if_pos (.inl hl0)] at hR
      have hl1 : ((l.length : Int) == 0) = true := by simpa using hl0
      clear hneg hlr
      have hR2 := hR
      unfold AskR at hR2
      clear hR
      subst hR2
      repeat' (first | (with_reducible (show runOps ..); first | (refine Qr rfl ?_; try intro K' hK; try simp only [go_sem, *]) | (refine Qi rfl rfl rfl rfl (fun hb K' hK => ?_) (fun hb => ?_) <;> (have hc := hb; try simp only [go_sem] at hc; simp only [go_sem, *]))) | (with_reducible (show Hold ..); first | refine Qh rfl ?_ | refine s_draw rfl Tryz.mixed (by kernel_rfl) ?_ | (refine s_cond rfl ⟨_, rfl, fun hb => ?_, fun hb => ?_⟩ <;> (have hc := hb; try simp only [go_sem] at hc)) | refine s_ret rfl ?_) | ((with_reducible refine Qb ?_ ?_); focus kernel_rfl) | ((with_reducible refine And.intro ?_ ?_); focus omega) | (refine contA_of hK ?_; clear hK K'; simp only [go_sem, *]) | (simp only [thenA, inBlockA, go_sem, *]))
      refine ⟨[.agg [iV 0, iV 0, iV 0], iV 0, iV 11], [], [], ⟨(by simp only [resOne, go_sem]), rfl, rfl, trivial⟩, ?_⟩; simp only [go_sem, *]
    have hl1 : ((l.length : Int) == 0) = false := by simpa using hl0
    by_cases ha0 : a < 0
    · rw [if_pos (.inr (.inl ha0))] at hR
      clear hneg hlr
      have hR2 := hR
      unfold AskR at hR2
      clear hR
      subst hR2
      repeat' (first | (with_reducible (show runOps ..); first | (refine Qr rfl ?_; try intro K' hK; try simp only [go_sem, *]) | (refine Qi rfl rfl rfl rfl (fun hb K' hK => ?_) (fun hb => ?_) <;> (have hc := hb; try simp only [go_sem] at hc; simp only [go_sem, *]))) | (with_reducible (show Hold ..); first | refine Qh rfl ?_ | refine s_draw rfl Tryz.mixed (by kernel_rfl) ?_ | (refine s_cond rfl ⟨_, rfl, fun hb => ?_, fun hb => ?_⟩ <;> (have hc := hb; try simp only [go_sem] at hc)) | refine s_ret rfl ?_) | ((with_reducible refine Qb ?_ ?_); focus kernel_rfl) | ((with_reducible refine And.intro ?_ ?_); focus omega) | (refine contA_of hK ?_; clear hK K'; simp only [go_sem, *]) | (simp only [thenA, inBlockA, go_sem, *]))
      all_goals first | contradiction | omega | skip
      refine ⟨[.agg [iV 0, iV 0, iV 0], iV 0, iV 11], [], [], ⟨(by simp only [resOne, go_sem]), rfl, rfl, trivial⟩, ?_⟩; simp only [go_sem, *]
    · obtain ⟨k, rfl⟩ : ∃ k : Nat, a = (k : Int) := ⟨a.toNat, by omega⟩
      have hk : k < (housesOf s.first).length := by
        have : 0 < (housesOf s.first).length := by
          rcases Nat.eq_zero_or_pos (housesOf s.first).length with h | h
          · exact absurd (hneg h) ha0
          · exact h
        have := hlr this
        omega
      have hgk : ((housesOf s.first).map (groupOf l)).getD (k : Int).toNat 0 = groupOf l ((housesOf s.first).getD k default) := by
        simp [List.getD, hk]
      rw [hgk] at hR
      clear hneg hlr hgk
      have hki : k < i := by omega
      by_cases hg : groupOf l ((housesOf s.first).getD k default) = l.length
      · rw [if_pos (.inr (.inr hg))] at hR
        have hgi : (((groupOf l ((housesOf s.first).getD k default) : Nat) : Int) == (l.length : Int)) = true := by rw [beq_iff_eq]; omega
        clear hg
        have hR2 := hR
        unfold AskR at hR2
        clear hR
        subst hR2
        repeat' (first | (with_reducible (show runOps ..); first | (refine Qr rfl ?_; try intro K' hK; try simp only [go_sem, *]) | (refine Qi rfl rfl rfl rfl (fun hb K' hK => ?_) (fun hb => ?_) <;> (have hc := hb; try simp only [go_sem] at hc; simp only [go_sem, *]))) | (with_reducible (show Hold ..); first | refine Qh rfl ?_ | refine s_draw rfl Tryz.mixed (by kernel_rfl) ?_ | (refine s_cond rfl ⟨_, rfl, fun hb => ?_, fun hb => ?_⟩ <;> (have hc := hb; try simp only [go_sem] at hc)) | refine s_ret rfl ?_) | ((with_reducible refine Qb ?_ ?_); focus kernel_rfl) | ((with_reducible refine And.intro ?_ ?_); focus omega) | (refine contA_of hK ?_; clear hK K'; simp only [go_sem, *]) | (simp only [thenA, inBlockA, go_sem, *]))
        all_goals first | contradiction | omega | skip
        refine ⟨[.agg [iV 0, iV 0, iV 0], iV 0, iV 11], [], [], ⟨(by simp only [resOne, go_sem]), rfl, rfl, trivial⟩, ?_⟩; simp only [go_sem, *]
      · rw [if_neg (by rintro (h | h | h) <;> omega)] at hR
        have hgi : (((groupOf l ((housesOf s.first).getD k default) : Nat) : Int) == (l.length : Int)) = false := by rw [beq_eq_false_iff_ne]; omega
        clear hg
        have hR2 := hR
        unfold AskR at hR2
        clear hR
        simp only [Int.toNat_natCast] at hR2
        subst hR2
        repeat' (first | (with_reducible (show runOps ..); first | (refine Qr rfl ?_; try intro K' hK; try simp only [go_sem, *]) | (refine Qi rfl rfl rfl rfl (fun hb K' hK => ?_) (fun hb => ?_) <;> (have hc := hb; try simp only [go_sem] at hc; simp only [go_sem, *]))) | (with_reducible (show Hold ..); first | refine Qh rfl ?_ | refine s_draw rfl Tryz.mixed (by kernel_rfl) ?_ | (refine s_cond rfl ⟨_, rfl, fun hb => ?_, fun hb => ?_⟩ <;> (have hc := hb; try simp only [go_sem] at hc)) | refine s_ret rfl ?_) | ((with_reducible refine Qb ?_ ?_); focus kernel_rfl) | ((with_reducible refine And.intro ?_ ?_); focus omega) | (refine contA_of hK ?_; clear hK K'; simp only [go_sem, *]) | (simp only [thenA, inBlockA, go_sem, *]))
        all_goals first | contradiction | omega | skip
        refine ⟨[((housesOf s.first).getD k default).enc, iV (groupOf l ((housesOf s.first).getD k default) : Nat), iV 0], [], [], ⟨(by simp only [resOne, go_sem]), rfl, rfl, trivial⟩, ?_⟩; simp only [go_sem, *]
end Go.Abs

namespace Go.Abs
open Go Go.Proofs
set_option maxRecDepth 10000
set_option maxHeartbeats 4000000
theorem x_guessErr : guessErr townX planY = 0 := by kernel_rfl
theorem sp_walking : Spec Tryz.prog 20 [] [] (bV true) [] := by
  have sAfter := sp_After townX joinX (by decide)
  rw [if_pos x_err, x_after, x_err] at sAfter
  have sTruths := sp_Truths_ok taleX x_story
  rw [x_ways] at sTruths
  have sWhere := sp_Where_ok taleX (atX 0 1) x_whereErr (by rw [x_whereL]; decide) (by rw [x_whereL]; decide)
  rw [x_where] at sWhere
  have sAsk := sp_Ask_ok taleX x_story (.tup [(atX 0 1).enc, iV (1 : Nat), iV 0]) (by rw [x_ask]; rfl)
  have sGuess := sp_Guess townX planY (by decide) (by decide)
  rw [if_pos x_guessErr, x_guess, x_guessErr] at sGuess
  have sRow1 := sp_row [1, 2, 4, 5, 7, 8] (by decide)
  have sRow2 := sp_row [1, 2, 3, 4, 5, 7, 8] (by decide)
  have sPlan1 := sp_plan (rowX [1, 2, 4, 5, 7, 8]) [] []
  have sPlan2 := sp_plan (rowX [1, 2, 3, 4, 5, 7, 8]) [] []
  have sEq1 := sp_EqPlans planX planX (by decide) (by decide)
  have sEq2 := sp_EqLists [[0, 0], [1, 0]] [[0, 0], [1, 0]] (by decide) (by decide)
  have sEq3 := sp_EqPlaces [atX 0 2, atX 0 5] [atX 0 2, atX 0 5] (by decide)
  have sEq4 := sp_EqChanges [joinX, fellX] [joinX, fellX] (by decide)
  have sJoin := sp_join 1 0
  have sAt1 := sp_lat 0 1
  have sAt2 := sp_lat 0 2
  have sAt5 := sp_lat 0 5
  have sOne := sp_one 6 0 3
  simp only [planX, planY, joinX, fellX, zeroPlate, atX, decide_true, optL, Option.getD_some] at *
  refine spec_body Tryz.func20 rfl (fun E hE => ?_); simp only [go_sem, Tryz.ntmps20]
  repeat' (first | (with_reducible (show runOps ..); first | (refine Qr rfl ?_; try intro K' hK; try simp only [go_sem, *]) | (refine Qi rfl rfl rfl rfl (fun hb K' hK => ?_) (fun hb => ?_) <;> (have hc := hb; try simp only [go_sem] at hc; simp only [go_sem, *]))) | (with_reducible (show Hold ..); first | refine Qh rfl ?_ | (refine s_cond rfl ⟨_, rfl, fun hb => ?_, fun hb => ?_⟩ <;> (have hc := hb; try simp only [go_sem] at hc)) | refine s_ret rfl ?_) | (with_reducible (show callA ..); first | ((first | refine call_s (sp_town) ?_ ?_ | refine call_s (sJoin) ?_ ?_ | refine call_s (sAfter) ?_ ?_ | refine call_s (sTruths) ?_ ?_ | refine call_s (sAt1) ?_ ?_ | refine call_s (sWhere) ?_ ?_ | refine call_s (sAsk) ?_ ?_); (focus (simp only [go_sem, *]; done)); simp only [go_sem, *]) | (refine call_fz (sp_tale) ?_ rfl ?_ ?_ ?_ ?_; (focus (simp only [go_sem, *]; done)); (focus (simp only [go_sem, *]; done)); (focus (first | (simp; done) | (simp [go_sem]; done))); (focus (first | (simp; done) | (simp [go_sem]; done))); simp only [go_sem, deads, *]) | (refine call_fz (sRow1) ?_ rfl ?_ ?_ ?_ ?_; (focus (simp only [go_sem, *]; done)); (focus (simp only [go_sem, *]; done)); (focus (first | (simp; done) | (simp [go_sem]; done))); (focus (first | (simp; done) | (simp [go_sem]; done))); simp only [go_sem, deads, *]) | (refine call_fz (sPlan1) ?_ rfl ?_ ?_ ?_ ?_; (focus (simp only [go_sem, *]; done)); (focus (simp only [go_sem, *]; done)); (focus (first | (simp; done) | (simp [go_sem]; done))); (focus (first | (simp; done) | (simp [go_sem]; done))); simp only [go_sem, deads, *]) | (refine call_fz (sGuess) ?_ rfl ?_ ?_ ?_ ?_; (focus (simp only [go_sem, *]; done)); (focus (simp only [go_sem, *]; done)); (focus (first | (simp; done) | (simp [go_sem]; done))); (focus (first | (simp; done) | (simp [go_sem]; done))); simp only [go_sem, deads, *])) | ((with_reducible refine Qb ?_ ?_); focus kernel_rfl) | ((with_reducible refine And.intro ?_ ?_); focus omega) | (refine contA_of hK ?_; clear hK K'; simp only [go_sem, *]) | (simp only [thenA, inBlockA, go_sem, *]))
  all_goals first | contradiction | skip
  repeat' (first | (with_reducible (show runOps ..); first | (refine Qr rfl ?_; try intro K' hK; try simp only [go_sem, *]) | (refine Qi rfl rfl rfl rfl (fun hb K' hK => ?_) (fun hb => ?_) <;> (have hc := hb; try simp only [go_sem] at hc; simp only [go_sem, *]))) | (with_reducible (show Hold ..); first | refine Qh rfl ?_ | refine s_draw rfl Tryz.mixed (by kernel_rfl) ?_ | (refine s_cond rfl ⟨_, rfl, fun hb => ?_, fun hb => ?_⟩ <;> (have hc := hb; try simp only [go_sem] at hc)) | refine s_ret rfl ?_) | (with_reducible (show callA ..); first | ((first | refine call_s (sJoin) ?_ ?_ | refine call_s (sOne) ?_ ?_ | refine call_s (sAt1) ?_ ?_ | refine call_s (sAt2) ?_ ?_ | refine call_s (sAt5) ?_ ?_); (focus (simp only [go_sem, *]; done)); simp only [go_sem, *]) | (refine call_fz (sRow2) ?_ rfl ?_ ?_ ?_ ?_; (focus (simp only [go_sem, *]; done)); (focus (simp only [go_sem, *]; done)); (focus (first | (simp; done) | (simp [go_sem]; done))); (focus (first | (simp; done) | (simp [go_sem]; done))); simp only [go_sem, deads, *]) | (refine call_fz (sPlan2) ?_ rfl ?_ ?_ ?_ ?_; (focus (simp only [go_sem, *]; done)); (focus (simp only [go_sem, *]; done)); (focus (first | (simp; done) | (simp [go_sem]; done))); (focus (first | (simp; done) | (simp [go_sem]; done))); simp only [go_sem, deads, *]) | (refine call_fz (sEq1) ?_ rfl ?_ ?_ ?_ ?_; (focus (simp only [go_sem, *]; done)); (focus (simp only [go_sem, *]; done)); (focus (first | (simp; done) | (simp [go_sem]; done))); (focus (first | (simp; done) | (simp [go_sem]; done))); simp only [go_sem, deads, *]) | (refine call_fz (sEq2) ?_ rfl ?_ ?_ ?_ ?_; (focus (simp only [go_sem, *]; done)); (focus (simp only [go_sem, *]; done)); (focus (first | (simp; done) | (simp [go_sem]; done))); (focus (first | (simp; done) | (simp [go_sem]; done))); simp only [go_sem, deads, *]) | (refine call_fz (sEq3) ?_ rfl ?_ ?_ ?_ ?_; (focus (simp only [go_sem, *]; done)); (focus (simp only [go_sem, *]; done)); (focus (first | (simp; done) | (simp [go_sem]; done))); (focus (first | (simp; done) | (simp [go_sem]; done))); simp only [go_sem, deads, *]) | (refine call_fz (sEq4) ?_ rfl ?_ ?_ ?_ ?_; (focus (simp only [go_sem, *]; done)); (focus (simp only [go_sem, *]; done)); (focus (first | (simp; done) | (simp [go_sem]; done))); (focus (first | (simp; done) | (simp [go_sem]; done))); simp only [go_sem, deads, *])) | ((with_reducible refine Qb ?_ ?_); focus kernel_rfl) | ((with_reducible refine And.intro ?_ ?_); focus omega) | (refine contA_of hK ?_; clear hK K'; simp only [go_sem, *]) | (simp only [thenA, inBlockA, go_sem, *]))
  (refine ⟨[_], [], [], ⟨rfl, trivial⟩, ?_⟩; simp only [go_sem, *])
end Go.Abs

namespace Go.Abs
open Go Go.Proofs
set_option maxRecDepth 10000
set_option maxHeartbeats 4000000
def wideL (p : Plan) : Bool := p.any fun l => decide (20 < l.length)
def wideB (p : Plan) : Bool := decide (20 < p.length) || wideL p
theorem wideL_drop {p : Plan} {i : Nat} (h : i < p.length) : wideL (p.drop i) = (decide (20 < (p.getD i default).length) || wideL (p.drop (i + 1))) := by
  unfold wideL; rw [drop_cons h, List.any_cons]
theorem sp_wide (p : Plan) (h1 : p.length ≤ 4294967296) (W : Bool) (hW : wideB p = W) : Spec Tryz.prog 19 [encPlan p] [] (bV W) [] := by
  unfold wideB at hW
  by_cases q : 20 < p.length
  · have q2 : (p.length : Int) > 20 := by omega
    have e : decide (20 < p.length) = true := by simpa using q
    rw [e, Bool.true_or] at hW
    subst hW
    clear e q
    refine spec_body Tryz.func19 rfl (fun E hE => ?_); simp only [go_sem, Tryz.ntmps19]
    repeat' (first | (with_reducible (show runOps ..); first | (refine Qr rfl ?_; try intro K' hK; try simp only [go_sem, *])) | (with_reducible (show Hold ..); first | refine Qh rfl ?_ | (refine s_cond rfl ⟨_, rfl, fun hb => ?_, fun hb => ?_⟩ <;> (have hc := hb; try simp only [go_sem] at hc)) | refine s_ret rfl ?_) | ((with_reducible refine Qb ?_ ?_); focus kernel_rfl) | ((with_reducible refine And.intro ?_ ?_); focus omega) | (refine contA_of hK ?_; clear hK K'; simp only [go_sem, *]) | (simp only [thenA, inBlockA, go_sem, *]))
    all_goals first | contradiction | omega | skip
    (refine ⟨[_], [], [], ⟨rfl, trivial⟩, ?_⟩; simp only [go_sem, *])
  · have q2 : ¬ (p.length : Int) > 20 := by omega
    have e : decide (20 < p.length) = false := by simpa using q
    rw [e, Bool.false_or] at hW
    have hW0 : wideL (p.drop 0) = W := hW
    clear e hW
    refine spec_body Tryz.func19 rfl (fun E hE => ?_); simp only [go_sem, Tryz.ntmps19]
    repeat' (first | (with_reducible (show runOps ..); first | (refine Qr rfl ?_; try intro K' hK; try simp only [go_sem, *])) | (with_reducible (show Hold ..); first | refine Qh rfl ?_ | (refine s_cond rfl ⟨_, rfl, fun hb => ?_, fun hb => ?_⟩ <;> (have hc := hb; try simp only [go_sem] at hc)) | refine s_ret rfl ?_) | ((with_reducible refine Qb ?_ ?_); focus kernel_rfl) | ((with_reducible refine And.intro ?_ ?_); focus omega) | (refine contA_of hK ?_; clear hK K'; simp only [go_sem, *]) | (simp only [thenA, inBlockA, go_sem, *]))
    all_goals first | contradiction | omega | skip
    refine s_loop rfl (fun zn zN zenv zAs => ∃ (i : Nat), zn = (p.length) - i ∧ i ≤ (p.length) ∧ (wideL (p.drop i) = W) ∧ zN = 22 ∧ zenv = [(3, iV i), (1, .ptr 0 0)] ∧ zAs = [pBox p]) (p.length) ⟨[some 0], [], _, _, _, (by (simp only [Weak, go_sem, List.map_append, List.map_set, *] <;> (try simp (disch := omega) only [wrap_succ]) <;> (try simp) <;> (try omega))), 0, (by simp), (by simp), (by exact hW0), rfl, rfl, rfl⟩ ?_; rintro _ _ _ _ ⟨i, rfl, hi, hP, rfl, rfl, rfl⟩
    by_cases hi2 : i < p.length
    · rw [wideL_drop hi2] at hP
      by_cases r : 20 < (p.getD i default).length
      · have r2 : ((p.getD i default).length : Int) > 20 := by omega
        have e : decide (20 < (p.getD i default).length) = true := by simpa using r
        rw [e, Bool.true_or] at hP
        subst hP
        clear e r
        repeat' (first | (with_reducible (show runOps ..); first | (refine Qr rfl ?_; try intro K' hK; try simp only [go_sem, *])) | (with_reducible (show Hold ..); first | refine Qh rfl ?_ | (refine s_cond rfl ⟨_, rfl, fun hb => ?_, fun hb => ?_⟩ <;> (have hc := hb; try simp only [go_sem] at hc)) | refine s_ret rfl ?_) | ((with_reducible refine Qb ?_ ?_); focus kernel_rfl) | ((with_reducible refine And.intro ?_ ?_); focus omega) | (refine contA_of hK ?_; clear hK K'; simp only [go_sem, *]) | (simp only [thenA, inBlockA, go_sem, *]))
        all_goals first | contradiction | omega | skip
        (refine ⟨[_], [], [], ⟨rfl, trivial⟩, ?_⟩; simp only [go_sem, *])
      · have r2 : ¬ ((p.getD i default).length : Int) > 20 := by omega
        have e : decide (20 < (p.getD i default).length) = false := by simpa using r
        rw [e, Bool.false_or] at hP
        clear e r
        repeat' (first | (with_reducible (show runOps ..); first | (refine Qr rfl ?_; try intro K' hK; try simp only [go_sem, *])) | (with_reducible (show Hold ..); first | refine Qh rfl ?_ | (refine s_cond rfl ⟨_, rfl, fun hb => ?_, fun hb => ?_⟩ <;> (have hc := hb; try simp only [go_sem] at hc)) | refine s_ret rfl ?_) | ((with_reducible refine Qb ?_ ?_); focus kernel_rfl) | ((with_reducible refine And.intro ?_ ?_); focus omega) | (refine contA_of hK ?_; clear hK K'; simp only [go_sem, *]) | (simp only [thenA, inBlockA, go_sem, *]))
        all_goals first | contradiction | omega | skip
        refine ⟨_, (by omega), [some 0], [], _, _, _, (by (simp only [Weak, go_sem, List.map_append, List.map_set, *] <;> (try simp (disch := omega) only [wrap_succ]) <;> (try simp) <;> (try omega))), i + 1, rfl, (by omega), (by exact hP), rfl, rfl, rfl⟩
    · rw [drop_end (by omega)] at hP
      have hP2 : false = W := hP
      subst hP2
      repeat' (first | (with_reducible (show runOps ..); first | (refine Qr rfl ?_; try intro K' hK; try simp only [go_sem, *])) | (with_reducible (show Hold ..); first | refine Qh rfl ?_ | (refine s_cond rfl ⟨_, rfl, fun hb => ?_, fun hb => ?_⟩ <;> (have hc := hb; try simp only [go_sem] at hc)) | refine s_ret rfl ?_) | ((with_reducible refine Qb ?_ ?_); focus kernel_rfl) | ((with_reducible refine And.intro ?_ ?_); focus omega) | (refine contA_of hK ?_; clear hK K'; simp only [go_sem, *]) | (simp only [thenA, inBlockA, go_sem, *]))
      (refine ⟨[_], [], [], ⟨rfl, trivial⟩, ?_⟩; simp only [go_sem, *])
end Go.Abs

namespace Go.Abs
open Go Go.Proofs
set_option maxRecDepth 10000
set_option maxHeartbeats 4000000
attribute [go_sem] diceBox Nat.le_refl Nat.sub_zero Int.reduceGT Nat.reduceGT Int.reduceGE
@[go_sem ↓] theorem intA_xor (a b : Int) (K : Cont) : intA .xor .u64 a b K = K (uV (xor64 a b)) [] [] := rfl
@[go_sem ↓] theorem shiftA_shl (a b : Int) (K : Cont) : shiftA .shl .u64 a b K = (0 ≤ b ∧ K (uV (shl64 a b.toNat)) [] []) := rfl
@[go_sem ↓] theorem shiftA_shr (a b : Int) (K : Cont) : shiftA .shr .u64 a b K = (0 ≤ b ∧ K (uV (shr64 a b.toNat)) [] []) := rfl
@[go_sem] theorem fold_mix1 (s : Int) : xor64 s (shl64 s 13) = mix1 s := rfl
@[go_sem] theorem fold_mix2 (s : Int) : xor64 s (shr64 s 7) = mix2 s := rfl
@[go_sem] theorem fold_mix3 (s : Int) : xor64 s (shl64 s 17) = mix3 s := rfl
@[go_sem] theorem fold_mixed (s : Int) : mix3 (mix2 (mix1 s)) = mixed3 s := rfl
@[go_sem] theorem fold_rawM (n : Int) : IntKind.u64.wrap (xor64 n (shr64 n 30) * 10723151780598845931) = rawM n := rfl
theorem sp_raw (d : Dice) (h : d.list.length ≤ 4294967296) : Spec Tryz.prog 95 [.ptr 0 0] [diceBox d] (uV (rawN d)) [diceBox (rawD d)] := by
  have e2 : (rawD d).list = d.list := rfl
  have e4 : (rawD d).seed = rawS d := rfl
  have e6 : rawN d = xor64 (rawM (rawS d)) (shr64 (rawM (rawS d)) 31) := rfl
  by_cases q : d.at_ < d.list.length
  · have q2 : ((d.at_ : Int) < (d.list.length : Int)) := by omega
    have e1 : rawS d = IntKind.u64.wrap (mixed3 d.seed + IntKind.u64.wrap (IntKind.u64.wrap (d.list.getD d.at_ default) * 13787848793156543929)) := by unfold rawS; rw [if_pos q]
    have e3 : (rawD d).at_ = d.at_ + 1 := by unfold rawD; simp only; rw [if_pos q]
    have e5 : IntKind.i64.wrap ((d.at_ : Int) + 1) = ((d.at_ + 1 : Nat) : Int) := wrap_succ (by omega)
    generalize rawD d = d' at *
    refine spec_body Tryz.func95 rfl (fun E hE => ?_); simp only [go_sem, Tryz.ntmps95]
    repeat' (first | (with_reducible (show runOps ..); first | (refine Qr rfl ?_; try intro K' hK; try simp only [go_sem, *])) | (with_reducible (show Hold ..); first | refine Qh rfl ?_ | refine s_draw rfl Tryz.mixed (by kernel_rfl) ?_ | (refine s_cond rfl ⟨_, rfl, fun hb => ?_, fun hb => ?_⟩ <;> (have hc := hb; try simp only [go_sem] at hc)) | refine s_ret rfl ?_) | ((with_reducible refine Qb ?_ ?_); focus kernel_rfl) | ((with_reducible refine And.intro ?_ ?_); focus omega) | (refine contA_of hK ?_; clear hK K'; simp only [go_sem, *]) | (simp only [thenA, inBlockA, go_sem, *]))
    all_goals first | contradiction | omega | skip
    refine ⟨[_], [some 0], [], ⟨rfl, trivial⟩, ?_⟩
    simp only [go_sem, *]
  · have q2 : ¬ ((d.at_ : Int) < (d.list.length : Int)) := by omega
    have e1 : rawS d = mixed3 d.seed := by unfold rawS; rw [if_neg q]
    have e3 : (rawD d).at_ = d.at_ := by unfold rawD; simp only; rw [if_neg q]
    generalize rawD d = d' at *
    refine spec_body Tryz.func95 rfl (fun E hE => ?_); simp only [go_sem, Tryz.ntmps95]
    repeat' (first | (with_reducible (show runOps ..); first | (refine Qr rfl ?_; try intro K' hK; try simp only [go_sem, *])) | (with_reducible (show Hold ..); first | refine Qh rfl ?_ | refine s_draw rfl Tryz.mixed (by kernel_rfl) ?_ | (refine s_cond rfl ⟨_, rfl, fun hb => ?_, fun hb => ?_⟩ <;> (have hc := hb; try simp only [go_sem] at hc)) | refine s_ret rfl ?_) | ((with_reducible refine Qb ?_ ?_); focus kernel_rfl) | ((with_reducible refine And.intro ?_ ?_); focus omega) | (refine contA_of hK ?_; clear hK K'; simp only [go_sem, *]) | (simp only [thenA, inBlockA, go_sem, *]))
    all_goals first | contradiction | omega | skip
    refine ⟨[_], [some 0], [], ⟨rfl, trivial⟩, ?_⟩
    simp only [go_sem, *]
theorem toD_list (n : Int) (d : Dice) : (toD n d).list = d.list := by unfold toD; split <;> rfl
theorem sp_To (d : Dice) (n : Int) (h : d.list.length ≤ 4294967296) (hn : n ≤ 4294967296) : Spec Tryz.prog 30 [.ptr 0 0, iV n] [diceBox d] (iV (toN n d)) [diceBox (toD n d)] := by
  by_cases q : n < 1
  · have e1 : toN n d = 0 := by unfold toN; rw [if_pos q]
    have e2 : toD n d = d := by unfold toD; rw [if_pos q]
    refine spec_body Tryz.func30 rfl (fun E hE => ?_); simp only [go_sem, Tryz.ntmps30]
    repeat' (first | (with_reducible (show runOps ..); first | (refine Qr rfl ?_; try intro K' hK; try simp only [go_sem, *])) | (with_reducible (show Hold ..); first | refine Qh rfl ?_ | (refine s_cond rfl ⟨_, rfl, fun hb => ?_, fun hb => ?_⟩ <;> (have hc := hb; try simp only [go_sem] at hc)) | refine s_ret rfl ?_) | ((with_reducible refine Qb ?_ ?_); focus kernel_rfl) | ((with_reducible refine And.intro ?_ ?_); focus omega) | (refine contA_of hK ?_; clear hK K'; simp only [go_sem, *]) | (simp only [thenA, inBlockA, go_sem, *]))
    all_goals first | contradiction | omega | skip
    refine ⟨[_], [some 0], [], ⟨rfl, trivial⟩, ?_⟩
    simp only [go_sem, *]
  · have e1 : toN n d = (shr64 (rawN d) 16).tmod (n + 1) := by unfold toN; rw [if_neg q]
    have e2 : toD n d = rawD d := by unfold toD; rw [if_neg q]
    have hr := toN_range n d
    rw [e1] at hr
    have e3 : IntKind.i64.wrap (n + 1) = n + 1 := wrap_i64 (by omega) (by omega)
    have e4 : IntKind.u64.wrap (n + 1) = n + 1 := by rw [IntKind.wrap_u64]; omega
    have e5 : IntKind.i64.wrap ((shr64 (rawN d) 16).tmod (n + 1)) = (shr64 (rawN d) 16).tmod (n + 1) := wrap_i64 (by omega) (by omega)
    have e6 : ¬ n + 1 = 0 := by omega
    have sr := sp_raw d h
    generalize rawN d = r at *
    generalize rawD d = d' at *
    clear hr
    refine spec_body Tryz.func30 rfl (fun E hE => ?_); simp only [go_sem, Tryz.ntmps30]
    repeat' (first | (with_reducible (show runOps ..); first | (refine Qr rfl ?_; try intro K' hK; try simp only [go_sem, *])) | (with_reducible (show Hold ..); first | refine Qh rfl ?_ | (refine s_cond rfl ⟨_, rfl, fun hb => ?_, fun hb => ?_⟩ <;> (have hc := hb; try simp only [go_sem] at hc)) | refine s_ret rfl ?_) | (with_reducible (show callA ..); first | (refine call_of [0] [] (sr) (by simp) ?_ ?_ (by simp) (.inl rfl) ?_ ?_ ?_; (focus (simp only [go_sem, *]; done)); (focus (simp only [go_sem, *]; done)); (focus (first | (simp; done) | (simp [go_sem]; done))); (focus (first | (simp; done) | (simp [go_sem]; done))); simp only [go_sem, *])) | ((with_reducible refine Qb ?_ ?_); focus kernel_rfl) | ((with_reducible refine And.intro ?_ ?_); focus omega) | (refine contA_of hK ?_; clear hK K'; simp only [go_sem, *]) | (simp only [thenA, inBlockA, go_sem, *]))
    all_goals first | contradiction | omega | skip
    refine ⟨[_], [some 0], [], ⟨rfl, trivial⟩, ?_⟩
    simp only [go_sem, *]
theorem sp_From (d : Dice) (lo hi : Int) (h : d.list.length ≤ 4294967296) (hl : 0 ≤ lo ∧ lo ≤ hi) (hh : hi ≤ 4294967296) : Spec Tryz.prog 83 [.ptr 0 0, iV lo, iV hi] [diceBox d] (iV (fromN lo hi d)) [diceBox (fromD lo hi d)] := by
  have st := sp_To d (hi - lo) h (by omega)
  have hf := fromN_le hl.2 d
  have e1 : IntKind.i64.wrap (hi - lo) = hi - lo := wrap_i64 (by omega) (by omega)
  have e2 : IntKind.i64.wrap (lo + toN (hi - lo) d) = fromN lo hi d := by
    have : lo + toN (hi - lo) d = fromN lo hi d := rfl
    rw [this]; exact wrap_i64 (by omega) (by omega)
  have e3 : fromD lo hi d = toD (hi - lo) d := rfl
  rw [e3]
  generalize fromN lo hi d = r at *
  clear e3 hf hl
  refine spec_body Tryz.func83 rfl (fun E hE => ?_); simp only [go_sem, Tryz.ntmps83]
  repeat' (first | (with_reducible (show runOps ..); first | (refine Qr rfl ?_; try intro K' hK; try simp only [go_sem, *])) | (with_reducible (show Hold ..); first | refine Qh rfl ?_ | (refine s_cond rfl ⟨_, rfl, fun hb => ?_, fun hb => ?_⟩ <;> (have hc := hb; try simp only [go_sem] at hc)) | refine s_ret rfl ?_) | (with_reducible (show callA ..); first | (refine call_of [0] [] (st) (by simp) ?_ ?_ (by simp) (.inl rfl) ?_ ?_ ?_; (focus (simp only [go_sem, *]; done)); (focus (simp only [go_sem, *]; done)); (focus (first | (simp; done) | (simp [go_sem]; done))); (focus (first | (simp; done) | (simp [go_sem]; done))); simp only [go_sem, *])) | ((with_reducible refine Qb ?_ ?_); focus kernel_rfl) | ((with_reducible refine And.intro ?_ ?_); focus omega) | (refine contA_of hK ?_; clear hK K'; simp only [go_sem, *]) | (simp only [thenA, inBlockA, go_sem, *]))
  refine ⟨[_], [some 0], [], ⟨rfl, trivial⟩, ?_⟩
  simp only [go_sem, *]
theorem sp_Once (d : Dice) (k : Int) (h : d.list.length ≤ 4294967296) (hk : 0 ≤ k ∧ k ≤ 4294967296) : Spec Tryz.prog 84 [.ptr 0 0, iV k] [diceBox d] (bV (onceT k d)) [diceBox (onceR k d)] := by
  have st := sp_To d (k - 1) h (by omega)
  have e1 : IntKind.i64.wrap (k - 1) = k - 1 := wrap_i64 (by omega) (by omega)
  have e2 : onceT k d = (toN (k - 1) d == 0) := rfl
  have e3 : onceR k d = toD (k - 1) d := rfl
  rw [e3, e2]
  clear e2 e3 hk
  refine spec_body Tryz.func84 rfl (fun E hE => ?_); simp only [go_sem, Tryz.ntmps84]
  repeat' (first | (with_reducible (show runOps ..); first | (refine Qr rfl ?_; try intro K' hK; try simp only [go_sem, *])) | (with_reducible (show Hold ..); first | refine Qh rfl ?_ | (refine s_cond rfl ⟨_, rfl, fun hb => ?_, fun hb => ?_⟩ <;> (have hc := hb; try simp only [go_sem] at hc)) | refine s_ret rfl ?_) | (with_reducible (show callA ..); first | (refine call_of [0] [] (st) (by simp) ?_ ?_ (by simp) (.inl rfl) ?_ ?_ ?_; (focus (simp only [go_sem, *]; done)); (focus (simp only [go_sem, *]; done)); (focus (first | (simp; done) | (simp [go_sem]; done))); (focus (first | (simp; done) | (simp [go_sem]; done))); simp only [go_sem, *])) | ((with_reducible refine Qb ?_ ?_); focus kernel_rfl) | ((with_reducible refine And.intro ?_ ?_); focus omega) | (refine contA_of hK ?_; clear hK K'; simp only [go_sem, *]) | (simp only [thenA, inBlockA, go_sem, *]))
  refine ⟨[_], [some 0], [], ⟨rfl, trivial⟩, ?_⟩
  simp only [go_sem, *]
def newDice (l : List Int) : Dice := ⟨l, 0, 11400714819323198485⟩
theorem sp_NewDice (l : List Int) : Spec Tryz.prog 21 [encInts l] [] (.ptr 0 0) [diceBox (newDice l)] := by
  refine spec_body Tryz.func21 rfl (fun E hE => ?_); simp only [go_sem, Tryz.ntmps21]
  repeat' (first | (with_reducible (show runOps ..); first | (refine Qr rfl ?_; try intro K' hK; try simp only [go_sem, *])) | (with_reducible (show Hold ..); first | refine Qh rfl ?_ | (refine s_cond rfl ⟨_, rfl, fun hb => ?_, fun hb => ?_⟩ <;> (have hc := hb; try simp only [go_sem] at hc)) | refine s_ret rfl ?_) | ((with_reducible refine Qb ?_ ?_); focus kernel_rfl) | ((with_reducible refine And.intro ?_ ?_); focus omega) | (refine contA_of hK ?_; clear hK K'; simp only [go_sem, *]) | (simp only [thenA, inBlockA, go_sem, *]))
  refine ⟨[_], [some 0], [], ⟨rfl, trivial⟩, ?_⟩
  simp only [go_sem, newDice, *]
end Go.Abs

namespace Go.Abs
open Go Go.Proofs
set_option maxRecDepth 10000
set_option maxHeartbeats 4000000
theorem fromD_list (a b : Int) (d : Dice) : (fromD a b d).list = d.list := toD_list _ _
theorem onceR_list (k : Int) (d : Dice) : (onceR k d).list = d.list := toD_list _ _
theorem plateN_list (d : Dice) : (plateN d).2.list = d.list := by
  unfold plateN plateK
  split
  · simp only [fromD_list, onceR_list]
  · simp only [fromD_list, onceR_list]
theorem platesN_list : ∀ (n : Nat) (d : Dice) (out : List Plate), (platesN n d out).2.list = d.list
  | 0, d, out => rfl
  | n + 1, d, out => by rw [platesN, platesN_list n]; exact plateN_list d
theorem platesOf_list (d : Dice) (m : Int) : (platesOf d m).2.list = d.list := by unfold platesOf; rw [platesN_list, toD_list]
def PlP (most : Int) (d : Dice) (k : Nat) (dd : Dice) (acc : List Plate) (R : List Plate × Dice) : Prop := platesN k dd acc = R ∧ dd.list.length ≤ 4294967296 ∧ acc.length + k ≤ 8
theorem PlP.next {most : Int} {d dd : Dice} {k : Nat} {acc : List Plate} {R : List Plate × Dice} (h : PlP most d (k + 1) dd acc R) : PlP most d k (plateN dd).2 (insPl (plateN dd).1 acc) R := by
  obtain ⟨h1, h2, h3⟩ := h
  have := insPl_len (x := (plateN dd).1) (l := acc)
  exact ⟨h1, by rw [plateN_list]; exact h2, by omega⟩
def AtP (x : Plate) (acc : List Plate) (j : Nat) : Prop := ∀ m, m < j → (acc.getD m default).lt x = true
theorem AtP.next {x : Plate} {acc : List Plate} {j : Nat} (h : AtP x acc j) (hx : (acc.getD j default).lt x = true) : AtP x acc (j + 1) := fun m hm => by
  rcases Nat.lt_succ_iff_lt_or_eq.1 hm with h1 | rfl
  · exact h m h1
  · exact hx
theorem sp_PlatesOf (d : Dice) (most : Int) (h : d.list.length ≤ 4294967296) (hm : most ≤ 8) :
    Spec Tryz.prog 85 [.ptr 0 0, iV most] [diceBox d] (.list ((platesOf d most).1.map Plate.enc)) [diceBox (platesOf d most).2] := by
  have st := sp_To d most h (by omega)
  have hr := toN_range most d
  obtain ⟨n, hn⟩ : ∃ n : Nat, toN most d = n := ⟨(toN most d).toNat, by omega⟩
  have h0 : PlP most d (n - 0) (toD most d) [] (platesOf d most) := by
    unfold platesOf
    rw [hn]
    exact ⟨by simp, by rw [toD_list]; exact h, by simp; omega⟩
  rw [hn] at st hr
  generalize platesOf d most = R at *
  obtain ⟨RL, RD⟩ := R
  clear hn
  generalize toD most d = d0 at *
  refine spec_body Tryz.func85 rfl (fun E hE => ?_); simp only [go_sem, Tryz.ntmps85]
  repeat' (first | (with_reducible (show runOps ..); first | (refine Qr rfl ?_; try intro K' hK; try simp only [go_sem, *]) | (refine Qi rfl rfl rfl rfl (fun hb K' hK => ?_) (fun hb => ?_) <;> (have hc := hb; try simp only [go_sem] at hc; simp only [go_sem, *]))) | (with_reducible (show Hold ..); first | refine Qh rfl ?_ | refine s_draw rfl Tryz.mixed (by kernel_rfl) ?_ | (refine s_cond rfl ⟨_, rfl, fun hb => ?_, fun hb => ?_⟩ <;> (have hc := hb; try simp only [go_sem] at hc)) | refine s_ret rfl ?_) | (with_reducible (show callA ..); first | (refine call_of [0] [] (st) (by simp) ?_ ?_ (by simp) (.inl rfl) ?_ ?_ ?_; (focus (simp only [go_sem, *]; done)); (focus (simp only [go_sem, *]; done)); (focus (first | (simp; done) | (simp [go_sem]; done))); (focus (first | (simp; done) | (simp [go_sem]; done))); simp only [go_sem, *])) | ((with_reducible refine Qb ?_ ?_); focus kernel_rfl) | ((with_reducible refine And.intro ?_ ?_); focus omega) | (refine contA_of hK ?_; clear hK K'; simp only [go_sem, *]) | (simp only [thenA, inBlockA, go_sem, *]))
  refine s_loop rfl (fun zn zN zenv zAs => ∃ (i : Nat) (dd : Dice) (acc : List Plate), zn = (n) - i ∧ i ≤ (n) ∧ (PlP most d (n - i) dd acc (RL, RD)) ∧ zN = 63 ∧ zenv = [(6, iV ((n - i : Nat) : Int)), (5, .own 1 2 0 acc.length), (0, .ptr 0 0)] ∧ zAs = [diceBox dd, .row 2 (acc.map Plate.enc)]) (n) ⟨[some 0, none], [], _, _, _, (by (simp only [Weak, go_sem, List.map_append, List.map_set, *] <;> (try simp (disch := omega) only [wrap_succ]) <;> (try simp) <;> (try omega))), 0, d0, [], (by simp), (by simp), (by exact h0), rfl, rfl, rfl⟩ ?_; rintro _ _ _ _ ⟨i, dd, acc, rfl, hi, hP, rfl, rfl, rfl⟩
  clear h0 st
  by_cases hi2 : i < n
  · obtain ⟨k, hk⟩ : ∃ k, n - i = k + 1 := ⟨n - i - 1, by omega⟩
    have hk2 : n - (i + 1) = k := by omega
    rw [hk] at hP ⊢
    have hnx := hP.next
    have hw1 : IntKind.i64.wrap (((k + 1 : Nat) : Int) - 1) = (k : Int) := by rw [wrap_i64 (by omega) (by omega)]; omega
    have hgt : ((k + 1 : Nat) : Int) > 0 := by omega
    obtain ⟨_, hdl, hal⟩ := hP
    have s1 := sp_From dd 1 9 hdl (by omega) (by omega)
    have s2 := sp_Once (fromD 1 9 dd) 4 (by rw [fromD_list]; exact hdl) (by omega)
    have s3 := sp_From (onceR 4 (fromD 1 9 dd)) 1 2 (by rw [onceR_list, fromD_list]; exact hdl) (by omega) (by omega)
    unfold plateN at hnx
    generalize fromN 1 9 dd = x1 at *
    generalize fromD 1 9 dd = d1 at *
    generalize onceR 4 d1 = d2 at *
    generalize fromN 1 2 d2 = x2 at *
    generalize fromD 1 2 d2 = d3 at *
    obtain ⟨⟨x, d'⟩, hxd⟩ : ∃ xd, xd = plateK x1 (onceT 4 d1) x2 d3 d2 := ⟨_, rfl⟩
    rw [← hxd] at hnx
    generalize onceT 4 d1 = b at *
    have hxq : b = true ∧ x = ⟨x1, x2⟩ ∧ d' = d3 ∨ b = false ∧ x = ⟨x1, 0⟩ ∧ d' = d2 := by
      unfold plateK at hxd
      cases b
      · right; simpa using hxd
      · left; simpa using hxd
    clear hxd
    rcases hxq with ⟨rfl, hx, hd⟩ | ⟨rfl, hx, hd⟩
    all_goals repeat' (first | (with_reducible (show runOps ..); first | (refine Qr rfl ?_; try intro K' hK; try simp only [go_sem, *]) | (refine Qi rfl rfl rfl rfl (fun hb K' hK => ?_) (fun hb => ?_) <;> (have hc := hb; try simp only [go_sem] at hc; simp only [go_sem, *]))) | (with_reducible (show Hold ..); first | refine Qh rfl ?_ | refine s_draw rfl Tryz.mixed (by kernel_rfl) ?_ | (refine s_cond rfl ⟨_, rfl, fun hb => ?_, fun hb => ?_⟩ <;> (have hc := hb; try simp only [go_sem] at hc)) | refine s_ret rfl ?_) | (with_reducible (show callA ..); first | (refine call_of [0] [] (s1) (by simp) ?_ ?_ (by simp) (.inl rfl) ?_ ?_ ?_; (focus (simp only [go_sem, *]; done)); (focus (simp only [go_sem, *]; done)); (focus (first | (simp; done) | (simp [go_sem]; done))); (focus (first | (simp; done) | (simp [go_sem]; done))); simp only [go_sem, *]) | (refine call_of [0] [] (s2) (by simp) ?_ ?_ (by simp) (.inl rfl) ?_ ?_ ?_; (focus (simp only [go_sem, *]; done)); (focus (simp only [go_sem, *]; done)); (focus (first | (simp; done) | (simp [go_sem]; done))); (focus (first | (simp; done) | (simp [go_sem]; done))); simp only [go_sem, *]) | (refine call_of [0] [] (s3) (by simp) ?_ ?_ (by simp) (.inl rfl) ?_ ?_ ?_; (focus (simp only [go_sem, *]; done)); (focus (simp only [go_sem, *]; done)); (focus (first | (simp; done) | (simp [go_sem]; done))); (focus (first | (simp; done) | (simp [go_sem]; done))); simp only [go_sem, *])) | ((with_reducible refine Qb ?_ ?_); focus kernel_rfl) | ((with_reducible refine And.intro ?_ ?_); focus omega) | (refine contA_of hK ?_; clear hK K'; simp only [go_sem, *]) | (simp only [thenA, inBlockA, go_sem, *]))
    all_goals first | contradiction | skip
    all_goals
      have hx1 := congrArg Plate.number hx
      have hx2 := congrArg Plate.letter hx
      simp only at hx1 hx2
      refine hold_weak (N := 63) (env := [(8, iV 0), (7, .ptr 2 0), (6, iV ((k + 1 : Nat) : Int)), (5, .own 1 2 0 acc.length), (0, .ptr 0 0)]) (As := [diceBox d', .row 2 (acc.map Plate.enc), .box [iV x.number, iV x.letter]]) [some 0, some 1, some 2] [] (by (simp only [Weak, go_sem, List.map_append, List.map_set, *] <;> (try simp (disch := omega) only [wrap_succ]) <;> (try simp) <;> (try omega))) ?_
      clear hx hd hx1 hx2 s1 s2 s3 hm hr
      refine s_loop rfl (fun zn zN zenv zAs => ∃ (j : Nat), zn = (acc.length) - j ∧ j ≤ (acc.length) ∧ (AtP x acc j) ∧ zN = 63 ∧ zenv = [(8, iV j), (7, .ptr 2 0), (6, iV ((k + 1 : Nat) : Int)), (5, .own 1 2 0 acc.length), (0, .ptr 0 0)] ∧ zAs = [diceBox d', .row 2 (acc.map Plate.enc), .box [iV x.number, iV x.letter]]) (acc.length) ⟨[some 0, some 1, some 2], [], _, _, _, (by (simp only [Weak, go_sem, List.map_append, List.map_set, *] <;> (try simp (disch := omega) only [wrap_succ]) <;> (try simp) <;> (try omega))), 0, (by simp), (by simp), (by exact fun m hm => absurd hm (by omega)), rfl, rfl, rfl⟩ ?_; rintro _ _ _ _ ⟨j, rfl, hj, hJ, rfl, rfl, rfl⟩
      have hmn : min j acc.length = j := by omega
      have hl2 : j + (acc.length - j + 1) = j + 1 + (acc.length - j) := by omega
      have hdl2 : (List.drop j (List.map Plate.enc acc)).length = acc.length - j := by simp
      have htd : List.take (acc.length - j) (List.drop j (List.map Plate.enc acc)) = List.drop j (List.map Plate.enc acc) := List.take_of_length_le (by simp)
      by_cases hj2 : j < acc.length
      · have hj3 : ((j : Int) == (acc.length : Int)) = false := by simp; omega
        have sb := sp_before (acc.getD j default) x
        by_cases hlt : (acc.getD j default).lt x = true
        · rw [hlt] at sb
          repeat' (first | (with_reducible (show runOps ..); first | (refine Qr rfl ?_; try intro K' hK; try simp only [go_sem, *]) | (refine Qi rfl rfl rfl rfl (fun hb K' hK => ?_) (fun hb => ?_) <;> (have hc := hb; try simp only [go_sem] at hc; simp only [go_sem, *]))) | (with_reducible (show Hold ..); first | refine Qh rfl ?_ | refine s_draw rfl Tryz.mixed (by kernel_rfl) ?_ | (refine s_cond rfl ⟨_, rfl, fun hb => ?_, fun hb => ?_⟩ <;> (have hc := hb; try simp only [go_sem] at hc)) | refine s_ret rfl ?_) | (with_reducible (show (∀ _ : AV, _ → _) ∧ _); refine And.intro ?_ ?_; (focus (intro y hy; first | (obtain ⟨z, _, rfl⟩ := List.mem_map.1 (hy); simp [go_sem]; done) | (obtain ⟨z, _, rfl⟩ := List.mem_map.1 (List.mem_of_mem_take hy); simp [go_sem]; done) | (obtain ⟨z, _, rfl⟩ := List.mem_map.1 (List.mem_of_mem_drop hy); simp [go_sem]; done) | (obtain ⟨z, _, rfl⟩ := List.mem_map.1 (List.mem_of_mem_drop (List.mem_of_mem_take hy)); simp [go_sem]; done)))) | (with_reducible (show callA ..); first | (refine call_s (sb) ?_ ?_; (focus (simp only [go_sem, *]; done)); simp only [go_sem, *])) | ((with_reducible refine Qb ?_ ?_); focus kernel_rfl) | ((with_reducible refine And.intro ?_ ?_); focus omega) | (refine contA_of hK ?_; clear hK K'; simp only [go_sem, *]) | (simp only [thenA, inBlockA, go_sem, *]))
          all_goals first | contradiction | skip
          refine ⟨_, (by omega), [some 0, some 1, some 2], [], _, _, _, (by (simp only [Weak, go_sem, List.map_append, List.map_set, *] <;> (try simp (disch := omega) only [wrap_succ]) <;> (try simp) <;> (try omega))), j + 1, rfl, (by omega), (by exact hJ.next hlt), rfl, rfl, rfl⟩
        · rw [Bool.not_eq_true] at hlt
          rw [hlt] at sb
          have hin := insPl_at (by omega) hJ (fun _ => hlt)
          by_cases heq : acc.getD j default = x
          · rw [if_pos ⟨hj2, heq⟩] at hin
            rw [hin] at hnx
            clear hin
            have hne : (decide (acc.getD j default = x)) = true := by simpa using heq
            clear heq
            repeat' (first | (with_reducible (show runOps ..); first | (refine Qr rfl ?_; try intro K' hK; try simp only [go_sem, *]) | (refine Qi rfl rfl rfl rfl (fun hb K' hK => ?_) (fun hb => ?_) <;> (have hc := hb; try simp only [go_sem] at hc; simp only [go_sem, *]))) | (with_reducible (show Hold ..); first | refine Qh rfl ?_ | refine s_draw rfl Tryz.mixed (by kernel_rfl) ?_ | (refine s_cond rfl ⟨_, rfl, fun hb => ?_, fun hb => ?_⟩ <;> (have hc := hb; try simp only [go_sem] at hc)) | refine s_ret rfl ?_) | (with_reducible (show (∀ _ : AV, _ → _) ∧ _); refine And.intro ?_ ?_; (focus (intro y hy; first | (obtain ⟨z, _, rfl⟩ := List.mem_map.1 (hy); simp [go_sem]; done) | (obtain ⟨z, _, rfl⟩ := List.mem_map.1 (List.mem_of_mem_take hy); simp [go_sem]; done) | (obtain ⟨z, _, rfl⟩ := List.mem_map.1 (List.mem_of_mem_drop hy); simp [go_sem]; done) | (obtain ⟨z, _, rfl⟩ := List.mem_map.1 (List.mem_of_mem_drop (List.mem_of_mem_take hy)); simp [go_sem]; done)))) | (with_reducible (show callA ..); first | (refine call_s (sb) ?_ ?_; (focus (simp only [go_sem, *]; done)); simp only [go_sem, *])) | ((with_reducible refine Qb ?_ ?_); focus kernel_rfl) | ((with_reducible refine And.intro ?_ ?_); focus omega) | (refine contA_of hK ?_; clear hK K'; simp only [go_sem, *]) | (simp only [thenA, inBlockA, go_sem, *]))
            all_goals first | contradiction | skip
            refine ⟨_, (by omega), [some 0, some 1], [], _, _, _, (by (simp only [Weak, go_sem, List.map_append, List.map_set, *] <;> (try simp (disch := omega) only [wrap_succ]) <;> (try simp) <;> (try omega))), i + 1, d', acc, rfl, (by omega), (by rw [hk2]; exact hnx), rfl, rfl, rfl⟩
          · rw [if_neg (fun h => heq h.2)] at hin
            rw [hin] at hnx
            clear hin
            have hne : (decide (acc.getD j default = x)) = false := by simpa using heq
            clear heq
            repeat' (first | (with_reducible (show runOps ..); first | (refine Qr rfl ?_; try intro K' hK; try simp only [go_sem, *]) | (refine Qi rfl rfl rfl rfl (fun hb K' hK => ?_) (fun hb => ?_) <;> (have hc := hb; try simp only [go_sem] at hc; simp only [go_sem, *]))) | (with_reducible (show Hold ..); first | refine Qh rfl ?_ | refine s_draw rfl Tryz.mixed (by kernel_rfl) ?_ | (refine s_cond rfl ⟨_, rfl, fun hb => ?_, fun hb => ?_⟩ <;> (have hc := hb; try simp only [go_sem] at hc)) | refine s_ret rfl ?_) | (with_reducible (show (∀ _ : AV, _ → _) ∧ _); refine And.intro ?_ ?_; (focus (intro y hy; first | (obtain ⟨z, _, rfl⟩ := List.mem_map.1 (hy); simp [go_sem]; done) | (obtain ⟨z, _, rfl⟩ := List.mem_map.1 (List.mem_of_mem_take hy); simp [go_sem]; done) | (obtain ⟨z, _, rfl⟩ := List.mem_map.1 (List.mem_of_mem_drop hy); simp [go_sem]; done) | (obtain ⟨z, _, rfl⟩ := List.mem_map.1 (List.mem_of_mem_drop (List.mem_of_mem_take hy)); simp [go_sem]; done)))) | (with_reducible (show callA ..); first | (refine call_s (sb) ?_ ?_; (focus (simp only [go_sem, *]; done)); simp only [go_sem, *])) | ((with_reducible refine Qb ?_ ?_); focus kernel_rfl) | ((with_reducible refine And.intro ?_ ?_); focus omega) | (refine contA_of hK ?_; clear hK K'; simp only [go_sem, *]) | (simp only [thenA, inBlockA, go_sem, *]))
            all_goals first | contradiction | skip
            refine ⟨_, (by omega), [some 0, some 7], [], _, _, _, (by (simp only [Weak, go_sem, List.map_append, List.map_set, *] <;> (try simp (disch := omega) only [wrap_succ]) <;> (try simp) <;> (try omega))), i + 1, d', acc.take j ++ x :: acc.drop j, rfl, (by omega), (by rw [hk2]; exact hnx), rfl, rfl, rfl⟩
      · have hin := insPl_at (x := x) (l := acc) (k := j) (by omega) hJ (fun h => absurd h hj2)
        rw [if_neg (fun h => hj2 h.1)] at hin
        rw [hin] at hnx
        clear hin
        have hj3 : ((j : Int) == (acc.length : Int)) = true := by simp; omega
        repeat' (first | (with_reducible (show runOps ..); first | (refine Qr rfl ?_; try intro K' hK; try simp only [go_sem, *]) | (refine Qi rfl rfl rfl rfl (fun hb K' hK => ?_) (fun hb => ?_) <;> (have hc := hb; try simp only [go_sem] at hc; simp only [go_sem, *]))) | (with_reducible (show Hold ..); first | refine Qh rfl ?_ | refine s_draw rfl Tryz.mixed (by kernel_rfl) ?_ | (refine s_cond rfl ⟨_, rfl, fun hb => ?_, fun hb => ?_⟩ <;> (have hc := hb; try simp only [go_sem] at hc)) | refine s_ret rfl ?_) | (with_reducible (show (∀ _ : AV, _ → _) ∧ _); refine And.intro ?_ ?_; (focus (intro y hy; first | (obtain ⟨z, _, rfl⟩ := List.mem_map.1 (hy); simp [go_sem]; done) | (obtain ⟨z, _, rfl⟩ := List.mem_map.1 (List.mem_of_mem_take hy); simp [go_sem]; done) | (obtain ⟨z, _, rfl⟩ := List.mem_map.1 (List.mem_of_mem_drop hy); simp [go_sem]; done) | (obtain ⟨z, _, rfl⟩ := List.mem_map.1 (List.mem_of_mem_drop (List.mem_of_mem_take hy)); simp [go_sem]; done)))) | ((with_reducible refine Qb ?_ ?_); focus kernel_rfl) | ((with_reducible refine And.intro ?_ ?_); focus omega) | (refine contA_of hK ?_; clear hK K'; simp only [go_sem, *]) | (simp only [thenA, inBlockA, go_sem, *]))
        all_goals first | contradiction | skip
        refine ⟨_, (by omega), [some 0, some 7], [], _, _, _, (by (simp only [Weak, go_sem, List.map_append, List.map_set, *] <;> (try simp (disch := omega) only [wrap_succ]) <;> (try simp) <;> (try omega))), i + 1, d', acc.take j ++ x :: acc.drop j, rfl, (by omega), (by rw [hk2]; exact hnx), rfl, rfl, rfl⟩
  · have hni : n - i = 0 := by omega
    rw [hni] at hP ⊢
    obtain ⟨e, _, _⟩ := hP
    rw [platesN] at e
    cases e
    repeat' (first | (with_reducible (show runOps ..); first | (refine Qr rfl ?_; try intro K' hK; try simp only [go_sem, *]) | (refine Qi rfl rfl rfl rfl (fun hb K' hK => ?_) (fun hb => ?_) <;> (have hc := hb; try simp only [go_sem] at hc; simp only [go_sem, *]))) | (with_reducible (show Hold ..); first | refine Qh rfl ?_ | refine s_draw rfl Tryz.mixed (by kernel_rfl) ?_ | (refine s_cond rfl ⟨_, rfl, fun hb => ?_, fun hb => ?_⟩ <;> (have hc := hb; try simp only [go_sem] at hc)) | refine s_ret rfl ?_) | ((with_reducible refine Qb ?_ ?_); focus kernel_rfl) | ((with_reducible refine And.intro ?_ ?_); focus omega) | (refine contA_of hK ?_; clear hK K'; simp only [go_sem, *]) | (simp only [thenA, inBlockA, go_sem, *]))
    refine ⟨[_], [some 0], [1], ⟨rfl, trivial⟩, ?_⟩
    simp only [go_sem, *]
end Go.Abs

namespace Go.Abs
open Go Go.Proofs
set_option maxRecDepth 10000
set_option maxHeartbeats 4000000
theorem streetN_list (d : Dice) (h : Int) : (streetN d h).2.list = d.list := by unfold streetN; rw [platesOf_list, onceR_list]
theorem streetsN_list (h : Int) : ∀ (n : Nat) (d : Dice) (out : Plan), (streetsN h n d out).2.list = d.list
  | 0, d, out => rfl
  | n + 1, d, out => by rw [streetsN, streetsN_list h n]; exact streetN_list d h
theorem planOf_list (d : Dice) (h : Int) : (planOf d h).2.list = d.list := by unfold planOf; rw [streetsN_list, fromD_list]
def StP (houses : Int) (k : Nat) (dd : Dice) (acc : Plan) (R : Plan × Dice) : Prop := streetsN houses k dd acc = R ∧ dd.list.length ≤ 4294967296 ∧ acc.length + k ≤ 3
theorem StP.next {houses : Int} {dd : Dice} {k : Nat} {acc : Plan} {R : Plan × Dice} (h : StP houses (k + 1) dd acc R) : StP houses k (streetN dd houses).2 (acc ++ [(streetN dd houses).1]) R := by
  obtain ⟨h1, h2, h3⟩ := h
  exact ⟨h1, by rw [streetN_list]; exact h2, by simp; omega⟩
theorem sp_PlanOf (d : Dice) (houses : Int) (h : d.list.length ≤ 4294967296) (hm : houses ≤ 8) :
    Spec Tryz.prog 22 [.ptr 0 0, iV houses] [diceBox d] (encPlan (planOf d houses).1) [diceBox (planOf d houses).2] := by
  have st := sp_From d 1 3 h (by omega) (by omega)
  have hr := fromN_le (lo := 1) (hi := 3) (by omega) d
  obtain ⟨n, hn⟩ : ∃ n : Nat, fromN 1 3 d = n := ⟨(fromN 1 3 d).toNat, by omega⟩
  have h0 : StP houses (n - 0) (fromD 1 3 d) [] (planOf d houses) := by
    unfold planOf
    rw [hn]
    exact ⟨by simp, by rw [fromD_list]; exact h, by simp; omega⟩
  rw [hn] at st hr
  generalize planOf d houses = R at *
  obtain ⟨RL, RD⟩ := R
  clear hn
  generalize fromD 1 3 d = d0 at *
  refine spec_body Tryz.func22 rfl (fun E hE => ?_); simp only [go_sem, Tryz.ntmps22]
  repeat' (first | (with_reducible (show runOps ..); first | (refine Qr rfl ?_; try intro K' hK; try simp only [go_sem, *])) | (with_reducible (show Hold ..); first | refine Qh rfl ?_ | refine s_draw rfl Tryz.mixed (by kernel_rfl) ?_ | (refine s_cond rfl ⟨_, rfl, fun hb => ?_, fun hb => ?_⟩ <;> (have hc := hb; try simp only [go_sem] at hc)) | refine s_ret rfl ?_) | (with_reducible (show callA ..); first | (refine call_of [0] [] (st) (by simp) ?_ ?_ (by simp) (.inl rfl) ?_ ?_ ?_; (focus (simp only [go_sem, *]; done)); (focus (simp only [go_sem, *]; done)); (focus (first | (simp; done) | (simp [go_sem]; done))); (focus (first | (simp; done) | (simp [go_sem]; done))); simp only [go_sem, *])) | ((with_reducible refine Qb ?_ ?_); focus kernel_rfl) | ((with_reducible refine And.intro ?_ ?_); focus omega) | (refine contA_of hK ?_; clear hK K'; simp only [go_sem, *]) | (simp only [thenA, inBlockA, go_sem, *]))
  refine s_loop rfl (fun zn zN zenv zAs => ∃ (i : Nat) (dd : Dice) (acc : Plan), zn = (n) - i ∧ i ≤ (n) ∧ (StP houses (n - i) dd acc (RL, RD)) ∧ zN = 26 ∧ zenv = [(6, iV ((n - i : Nat) : Int)), (5, .ptr 2 0), (4, .ptr 1 0), (1, iV houses), (0, .ptr 0 0)] ∧ zAs = [diceBox dd, .box [nilV], .box [.own 3 1 0 acc.length], .box (acc.map encStreet)]) (n) ⟨[some 0, some 1, some 2, none], [], _, _, _, (by (simp only [Weak, go_sem, List.map_append, List.map_set, *] <;> (try simp (disch := omega) only [wrap_succ]) <;> (try simp) <;> (try omega))), 0, d0, [], (by simp), (by simp), (by exact h0), rfl, rfl, rfl⟩ ?_; rintro _ _ _ _ ⟨i, dd, acc, rfl, hi, hP, rfl, rfl, rfl⟩
  clear h0 st
  by_cases hi2 : i < n
  · obtain ⟨k, hk⟩ : ∃ k, n - i = k + 1 := ⟨n - i - 1, by omega⟩
    have hk2 : n - (i + 1) = k := by omega
    rw [hk] at hP ⊢
    have hnx := hP.next
    have hw1 : IntKind.i64.wrap (((k + 1 : Nat) : Int) - 1) = (k : Int) := by rw [wrap_i64 (by omega) (by omega)]; omega
    have hgt : ((k + 1 : Nat) : Int) > 0 := by omega
    obtain ⟨_, hdl, hal⟩ := hP
    have s2 := sp_Once dd 3 hdl (by omega)
    have hol : (onceR 3 dd).list.length ≤ 4294967296 := by rw [onceR_list]; exact hdl
    unfold streetN at hnx
    generalize onceR 3 dd = d2 at *
    by_cases b : onceT 3 dd = true
    · rw [if_pos b] at hnx
      rw [b] at s2
      clear b
      have s3 := sp_PlatesOf d2 0 hol (by omega)
      generalize platesOf d2 0 = L at *
      obtain ⟨l, d3⟩ := L
      have hnx2 : StP houses k d3 (acc ++ [l]) (RL, RD) := hnx
      clear hnx
      simp only at s3
      repeat' (first | (with_reducible (show runOps ..); first | (refine Qr rfl ?_; try intro K' hK; try simp only [go_sem, *])) | (with_reducible (show Hold ..); first | refine Qh rfl ?_ | refine s_draw rfl Tryz.mixed (by kernel_rfl) ?_ | (refine s_cond rfl ⟨_, rfl, fun hb => ?_, fun hb => ?_⟩ <;> (have hc := hb; try simp only [go_sem] at hc)) | refine s_ret rfl ?_) | (with_reducible (show callA ..); first | (refine call_of [0] [] (s2) (by simp) ?_ ?_ (by simp) (.inl rfl) ?_ ?_ ?_; (focus (simp only [go_sem, *]; done)); (focus (simp only [go_sem, *]; done)); (focus (first | (simp; done) | (simp [go_sem]; done))); (focus (first | (simp; done) | (simp [go_sem]; done))); simp only [go_sem, *]) | (refine call_of [0] [] (s3) (by simp) ?_ ?_ (by simp) (.inl rfl) ?_ ?_ ?_; (focus (simp only [go_sem, *]; done)); (focus (simp only [go_sem, *]; done)); (focus (first | (simp; done) | (simp [go_sem]; done))); (focus (first | (simp; done) | (simp [go_sem]; done))); simp only [go_sem, *])) | ((with_reducible refine Qb ?_ ?_); focus kernel_rfl) | ((with_reducible refine And.intro ?_ ?_); focus omega) | (refine contA_of hK ?_; clear hK K'; simp only [go_sem, *]) | (simp only [thenA, inBlockA, go_sem, *]))
      all_goals first | contradiction | skip
      refine ⟨_, (by omega), [some 0, some 1, some 2, some 5], [], _, _, _, (by (simp only [Weak, go_sem, List.map_append, List.map_set, *] <;> (try simp (disch := omega) only [wrap_succ]) <;> (try simp) <;> (try omega))), i + 1, d3, acc ++ [l], rfl, (by omega), (by rw [hk2]; exact hnx2), rfl, rfl, rfl⟩
    · rw [if_neg b] at hnx
      rw [Bool.not_eq_true] at b
      rw [b] at s2
      clear b
      have s3 := sp_PlatesOf d2 houses hol hm
      generalize platesOf d2 houses = L at *
      obtain ⟨l, d3⟩ := L
      have hnx2 : StP houses k d3 (acc ++ [l]) (RL, RD) := hnx
      clear hnx
      simp only at s3
      repeat' (first | (with_reducible (show runOps ..); first | (refine Qr rfl ?_; try intro K' hK; try simp only [go_sem, *])) | (with_reducible (show Hold ..); first | refine Qh rfl ?_ | refine s_draw rfl Tryz.mixed (by kernel_rfl) ?_ | (refine s_cond rfl ⟨_, rfl, fun hb => ?_, fun hb => ?_⟩ <;> (have hc := hb; try simp only [go_sem] at hc)) | refine s_ret rfl ?_) | (with_reducible (show callA ..); first | (refine call_of [0] [] (s2) (by simp) ?_ ?_ (by simp) (.inl rfl) ?_ ?_ ?_; (focus (simp only [go_sem, *]; done)); (focus (simp only [go_sem, *]; done)); (focus (first | (simp; done) | (simp [go_sem]; done))); (focus (first | (simp; done) | (simp [go_sem]; done))); simp only [go_sem, *]) | (refine call_of [0] [] (s3) (by simp) ?_ ?_ (by simp) (.inl rfl) ?_ ?_ ?_; (focus (simp only [go_sem, *]; done)); (focus (simp only [go_sem, *]; done)); (focus (first | (simp; done) | (simp [go_sem]; done))); (focus (first | (simp; done) | (simp [go_sem]; done))); simp only [go_sem, *])) | ((with_reducible refine Qb ?_ ?_); focus kernel_rfl) | ((with_reducible refine And.intro ?_ ?_); focus omega) | (refine contA_of hK ?_; clear hK K'; simp only [go_sem, *]) | (simp only [thenA, inBlockA, go_sem, *]))
      all_goals first | contradiction | skip
      refine ⟨_, (by omega), [some 0, some 1, some 2, some 5], [], _, _, _, (by (simp only [Weak, go_sem, List.map_append, List.map_set, *] <;> (try simp (disch := omega) only [wrap_succ]) <;> (try simp) <;> (try omega))), i + 1, d3, acc ++ [l], rfl, (by omega), (by rw [hk2]; exact hnx2), rfl, rfl, rfl⟩
  · have hni : n - i = 0 := by omega
    rw [hni] at hP ⊢
    obtain ⟨e, _, _⟩ := hP
    rw [streetsN] at e
    cases e
    repeat' (first | (with_reducible (show runOps ..); first | (refine Qr rfl ?_; try intro K' hK; try simp only [go_sem, *])) | (with_reducible (show Hold ..); first | refine Qh rfl ?_ | refine s_draw rfl Tryz.mixed (by kernel_rfl) ?_ | (refine s_cond rfl ⟨_, rfl, fun hb => ?_, fun hb => ?_⟩ <;> (have hc := hb; try simp only [go_sem] at hc)) | refine s_ret rfl ?_) | ((with_reducible refine Qb ?_ ?_); focus kernel_rfl) | ((with_reducible refine And.intro ?_ ?_); focus omega) | (refine contA_of hK ?_; clear hK K'; simp only [go_sem, *]) | (simp only [thenA, inBlockA, go_sem, *]))
    refine ⟨[.agg [.own 3 1 0 (List.length RL)]], [some 0], [3], ⟨by simp only [resOne, go_sem], trivial⟩, ?_⟩
    simp only [go_sem, *]
    simp
end Go.Abs

namespace Go.Abs
open Go Go.Proofs
set_option maxRecDepth 10000
set_option maxHeartbeats 4000000
theorem somePlate_list (d : Dice) (l : List Plate) : (somePlate d l).2.list = d.list := by
  unfold somePlate
  split
  · exact toD_list _ _
  · split
    · show (fromD 1 9 (onceR 12 d)).list = _
      unfold fromD onceR; rw [toD_list, toD_list]
    · show (toD _ (onceR 12 d)).list = _
      unfold onceR; rw [toD_list, toD_list]
theorem sp_plateOf (d : Dice) (l : List Plate) (h : d.list.length ≤ 4294967296) (hl : l.length ≤ 4294967296) :
    Spec Tryz.prog 86 [.ptr 0 0, encStreet l] [diceBox d] (Plate.enc (somePlate d l).1) [diceBox (somePlate d l).2] := by
  have ho : (onceR 12 d).list.length ≤ 4294967296 := by unfold onceR; rw [toD_list]; exact h
  by_cases q : l.length = 0
  · have s1 := sp_From d 1 9 h (by omega) (by omega)
    have e : somePlate d l = (⟨fromN 1 9 d, 0⟩, fromD 1 9 d) := by unfold somePlate; rw [if_pos q]
    rw [e]
    have q2 : ((l.length : Int) == 0) = true := by rw [beq_iff_eq]; omega
    clear e
    generalize fromN 1 9 d = x1 at *
    generalize fromD 1 9 d = d1 at *
    refine spec_body Tryz.func86 rfl (fun E hE => ?_); simp only [go_sem, Tryz.ntmps86]
    repeat' (first | (with_reducible (show runOps ..); first | (refine Qr rfl ?_; try intro K' hK; try simp only [go_sem, *]) | (refine Qi rfl rfl rfl rfl (fun hb K' hK => ?_) (fun hb => ?_) <;> (have hc := hb; try simp only [go_sem] at hc; simp only [go_sem, *]))) | (with_reducible (show Hold ..); first | refine Qh rfl ?_ | (refine s_cond rfl ⟨_, rfl, fun hb => ?_, fun hb => ?_⟩ <;> (have hc := hb; try simp only [go_sem] at hc)) | refine s_ret rfl ?_) | (with_reducible (show callA ..); first | (refine call_of [0] [] (s1) (by simp) ?_ ?_ (by simp) (.inl rfl) ?_ ?_ ?_; (focus (simp only [go_sem, *]; done)); (focus (simp only [go_sem, *]; done)); (focus (first | (simp; done) | (simp [go_sem]; done))); (focus (first | (simp; done) | (simp [go_sem]; done))); simp only [go_sem, *])) | ((with_reducible refine Qb ?_ ?_); focus kernel_rfl) | ((with_reducible refine And.intro ?_ ?_); focus omega) | (refine contA_of hK ?_; clear hK K'; simp only [go_sem, *]) | (simp only [thenA, inBlockA, go_sem, *]))
    all_goals first | contradiction | skip
    refine ⟨[.agg [iV x1, iV 0]], [some 0], [], ⟨by simp only [resOne, go_sem], trivial⟩, ?_⟩
    simp only [go_sem, *]
  · have q2 : ((l.length : Int) == 0) = false := by rw [beq_eq_false_iff_ne]; omega
    have so := sp_Once d 12 h (by omega)
    have e : somePlate d l = if onceT 12 d = true then (⟨fromN 1 9 (onceR 12 d), 0⟩, fromD 1 9 (onceR 12 d)) else (l.getD (toN (l.length - 1) (onceR 12 d)).toNat default, toD (l.length - 1) (onceR 12 d)) := by unfold somePlate; rw [if_neg q]
    rw [e]
    clear e
    generalize onceR 12 d = d1 at *
    by_cases b : onceT 12 d = true
    · have s1 := sp_From d1 1 9 ho (by omega) (by omega)
      rw [if_pos b]
      rw [b] at so
      clear b
      generalize fromN 1 9 d1 = x1 at *
      generalize fromD 1 9 d1 = d2 at *
      refine spec_body Tryz.func86 rfl (fun E hE => ?_); simp only [go_sem, Tryz.ntmps86]
      repeat' (first | (with_reducible (show runOps ..); first | (refine Qr rfl ?_; try intro K' hK; try simp only [go_sem, *]) | (refine Qi rfl rfl rfl rfl (fun hb K' hK => ?_) (fun hb => ?_) <;> (have hc := hb; try simp only [go_sem] at hc; simp only [go_sem, *]))) | (with_reducible (show Hold ..); first | refine Qh rfl ?_ | (refine s_cond rfl ⟨_, rfl, fun hb => ?_, fun hb => ?_⟩ <;> (have hc := hb; try simp only [go_sem] at hc)) | refine s_ret rfl ?_) | (with_reducible (show callA ..); first | (refine call_of [0] [] (so) (by simp) ?_ ?_ (by simp) (.inl rfl) ?_ ?_ ?_; (focus (simp only [go_sem, *]; done)); (focus (simp only [go_sem, *]; done)); (focus (first | (simp; done) | (simp [go_sem]; done))); (focus (first | (simp; done) | (simp [go_sem]; done))); simp only [go_sem, *]) | (refine call_of [0] [] (s1) (by simp) ?_ ?_ (by simp) (.inl rfl) ?_ ?_ ?_; (focus (simp only [go_sem, *]; done)); (focus (simp only [go_sem, *]; done)); (focus (first | (simp; done) | (simp [go_sem]; done))); (focus (first | (simp; done) | (simp [go_sem]; done))); simp only [go_sem, *])) | ((with_reducible refine Qb ?_ ?_); focus kernel_rfl) | ((with_reducible refine And.intro ?_ ?_); focus omega) | (refine contA_of hK ?_; clear hK K'; simp only [go_sem, *]) | (simp only [thenA, inBlockA, go_sem, *]))
      all_goals first | contradiction | skip
      refine ⟨[.agg [iV x1, iV 0]], [some 0], [], ⟨by simp only [resOne, go_sem], trivial⟩, ?_⟩
      simp only [go_sem, *]
    · rw [if_neg b]
      rw [Bool.not_eq_true] at b
      rw [b] at so
      clear b
      have s1 := sp_To d1 ((l.length : Int) - 1) ho (by omega)
      have hr := toN_le (n := (l.length : Int) - 1) (by omega) d1
      have hw : IntKind.i64.wrap ((l.length : Int) - 1) = (l.length : Int) - 1 := wrap_i64 (by omega) (by omega)
      obtain ⟨k, hk⟩ : ∃ k : Nat, toN ((l.length : Int) - 1) d1 = k := ⟨(toN ((l.length : Int) - 1) d1).toNat, by omega⟩
      rw [hk] at hr s1 ⊢
      have hkl : k < l.length := by omega
      simp only [Int.toNat_natCast]
      clear hk hr
      generalize toD ((l.length : Int) - 1) d1 = d2 at *
      refine spec_body Tryz.func86 rfl (fun E hE => ?_); simp only [go_sem, Tryz.ntmps86]
      repeat' (first | (with_reducible (show runOps ..); first | (refine Qr rfl ?_; try intro K' hK; try simp only [go_sem, *]) | (refine Qi rfl rfl rfl rfl (fun hb K' hK => ?_) (fun hb => ?_) <;> (have hc := hb; try simp only [go_sem] at hc; simp only [go_sem, *]))) | (with_reducible (show Hold ..); first | refine Qh rfl ?_ | (refine s_cond rfl ⟨_, rfl, fun hb => ?_, fun hb => ?_⟩ <;> (have hc := hb; try simp only [go_sem] at hc)) | refine s_ret rfl ?_) | (with_reducible (show callA ..); first | (refine call_of [0] [] (so) (by simp) ?_ ?_ (by simp) (.inl rfl) ?_ ?_ ?_; (focus (simp only [go_sem, *]; done)); (focus (simp only [go_sem, *]; done)); (focus (first | (simp; done) | (simp [go_sem]; done))); (focus (first | (simp; done) | (simp [go_sem]; done))); simp only [go_sem, *]) | (refine call_of [0] [] (s1) (by simp) ?_ ?_ (by simp) (.inl rfl) ?_ ?_ ?_; (focus (simp only [go_sem, *]; done)); (focus (simp only [go_sem, *]; done)); (focus (first | (simp; done) | (simp [go_sem]; done))); (focus (first | (simp; done) | (simp [go_sem]; done))); simp only [go_sem, *])) | ((with_reducible refine Qb ?_ ?_); focus kernel_rfl) | ((with_reducible refine And.intro ?_ ?_); focus omega) | (refine contA_of hK ?_; clear hK K'; simp only [go_sem, *]) | (simp only [thenA, inBlockA, go_sem, *]))
      all_goals first | contradiction | skip
      refine ⟨[(l.getD k default).enc], [some 0], [], ⟨by simp only [resOne, go_sem], trivial⟩, ?_⟩
      simp only [go_sem, *]
end Go.Abs

namespace Go.Abs
open Go Go.Proofs
set_option maxRecDepth 10000
set_option maxHeartbeats 4000000
theorem changeAt_list (d : Dice) (p : Plan) (k s : Int) : (changeAt d p k s).2.list = d.list := by
  unfold changeAt fromD
  split
  · exact toD_list _ _
  · split
    · simp only
      split <;> simp only [somePlate_list, toD_list]
    · split
      · simp only [somePlate_list]
      · rfl
theorem changeOf_list (d : Dice) (p : Plan) : (changeOf d p).2.list = d.list := by
  unfold changeOf fromD; rw [changeAt_list, toD_list, toD_list]
theorem sp_ChangeOf (d : Dice) (p : Plan) (h : d.list.length ≤ 4294967296) (v : Valid p) :
    Spec Tryz.prog 23 [.ptr 0 0, encPlan p] [diceBox d] (Change.enc (changeOf d p).1) [diceBox (changeOf d p).2] := by
  have hp0 := v.ne
  have hp3 := v.len
  have s1 := sp_From d 1 7 h (by omega) (by omega)
  have s2 := sp_To (fromD 1 7 d) ((p.length : Int) - 1) (by unfold fromD; rw [toD_list]; exact h) (by omega)
  have hr1 := fromN_le (lo := 1) (hi := 7) (by omega) d
  have hr2 := toN_le (n := (p.length : Int) - 1) (by omega) (fromD 1 7 d)
  have hl2 : (toD ((p.length : Int) - 1) (fromD 1 7 d)).list.length ≤ 4294967296 := by unfold fromD; rw [toD_list, toD_list]; exact h
  have hw0 : IntKind.i64.wrap ((p.length : Int) - 1) = (p.length : Int) - 1 := wrap_i64 (by omega) (by omega)
  unfold changeOf
  obtain ⟨s, hs⟩ : ∃ s : Nat, toN ((p.length : Int) - 1) (fromD 1 7 d) = s := ⟨(toN ((p.length : Int) - 1) (fromD 1 7 d)).toNat, by omega⟩
  rw [hs] at hr2 s2 ⊢
  clear hs
  generalize toD ((p.length : Int) - 1) (fromD 1 7 d) = d2 at *
  generalize fromD 1 7 d = d1 at *
  generalize fromN 1 7 d = k at *
  have hsl : s < p.length := by omega
  have hrow : (rowAt p (s : Int)).length ≤ 8 := (v.row _).len
  have hgd : List.getD p s default = rowAt p (s : Int) := rfl
  unfold changeAt
  by_cases k4 : k = 4
  · rw [if_pos k4]
    subst k4
    have s3 := sp_From d2 1 2 hl2 (by omega) (by omega)
    have hr3 := fromN_le (lo := 1) (hi := 2) (by omega) d2
    generalize fromN 1 2 d2 = x at *
    generalize fromD 1 2 d2 = d3 at *
    have s4 := sp_Mod ((s : Int) + x) (p.length : Int) (by omega) (by omega)
    have hw1 : IntKind.i64.wrap ((s : Int) + x) = (s : Int) + x := wrap_i64 (by omega) (by omega)
    generalize ((s : Int) + x) % (p.length : Int) = o at *
    refine spec_body Tryz.func23 rfl (fun E hE => ?_); simp only [go_sem, Tryz.ntmps23]
    repeat' (first | (with_reducible (show runOps ..); first | (refine Qr rfl ?_; try intro K' hK; try simp only [go_sem, *])) | (with_reducible (show Hold ..); first | refine Qh rfl ?_ | refine s_draw rfl Tryz.mixed (by kernel_rfl) ?_ | (refine s_cond rfl ⟨_, rfl, fun hb => ?_, fun hb => ?_⟩ <;> (have hc := hb; try simp only [go_sem] at hc)) | refine s_ret rfl ?_) | (with_reducible (show callA ..); first | (refine call_of [0] [] (s1) (by simp) ?_ ?_ (by simp) (.inl rfl) ?_ ?_ ?_; (focus (simp only [go_sem, *]; done)); (focus (simp only [go_sem, *]; done)); (focus (first | (simp; done) | (simp [go_sem]; done))); (focus (first | (simp; done) | (simp [go_sem]; done))); simp only [go_sem, *]) | (refine call_of [0] [] (s2) (by simp) ?_ ?_ (by simp) (.inl rfl) ?_ ?_ ?_; (focus (simp only [go_sem, *]; done)); (focus (simp only [go_sem, *]; done)); (focus (first | (simp; done) | (simp [go_sem]; done))); (focus (first | (simp; done) | (simp [go_sem]; done))); simp only [go_sem, *]) | (refine call_of [0] [] (s3) (by simp) ?_ ?_ (by simp) (.inl rfl) ?_ ?_ ?_; (focus (simp only [go_sem, *]; done)); (focus (simp only [go_sem, *]; done)); (focus (first | (simp; done) | (simp [go_sem]; done))); (focus (first | (simp; done) | (simp [go_sem]; done))); simp only [go_sem, *]) | (refine call_s (s4) ?_ ?_; (focus (simp only [go_sem, *]; done)); simp only [go_sem, *])) | ((with_reducible refine Qb ?_ ?_); focus kernel_rfl) | ((with_reducible refine And.intro ?_ ?_); focus omega) | (refine contA_of hK ?_; clear hK K'; simp only [go_sem, *]) | (simp only [thenA, inBlockA, go_sem, *]))
    all_goals first | contradiction | skip
    refine ⟨[.agg [iV 4, iV s, iV o, iV 0, iV 0, iV 0, iV 0]], [some 0], [], ⟨by simp only [resOne, go_sem], trivial⟩, ?_⟩
    simp only [go_sem, zeroPlate, *]
  rw [if_neg k4]
  have k4' : (k == 4) = false := by rw [beq_eq_false_iff_ne]; exact k4
  by_cases k7 : k = 7
  · rw [if_pos k7]
    subst k7
    have s3 := sp_From d2 1 2 hl2 (by omega) (by omega)
    have hr3 := fromN_le (lo := 1) (hi := 2) (by omega) d2
    have hl3 : (fromD 1 2 d2).list.length ≤ 4294967296 := by unfold fromD; rw [toD_list]; exact hl2
    generalize fromN 1 2 d2 = x at *
    generalize fromD 1 2 d2 = d3 at *
    have s4 := sp_Mod ((s : Int) + x) (p.length : Int) (by omega) (by omega)
    have hw1 : IntKind.i64.wrap ((s : Int) + x) = (s : Int) + x := wrap_i64 (by omega) (by omega)
    generalize ((s : Int) + x) % (p.length : Int) = o at *
    simp only
    have sa := sp_plateOf d3 (rowAt p (s : Int)) hl3 (by omega)
    have hla : (somePlate d3 (rowAt p (s : Int))).2.list.length ≤ 4294967296 := by rw [somePlate_list]; exact hl3
    generalize somePlate d3 (rowAt p (s : Int)) = A at *
    obtain ⟨a, d4⟩ := A
    simp only at sa hla ⊢
    have sb := sp_plateOf d4 (rowAt p (s : Int)) hla (by omega)
    generalize somePlate d4 (rowAt p (s : Int)) = B at *
    obtain ⟨b, d5⟩ := B
    simp only at sb ⊢
    have sc := sp_before b a
    by_cases hlt : b.lt a = true
    · rw [if_pos hlt]
      rw [hlt] at sc
      clear hlt
      refine spec_body Tryz.func23 rfl (fun E hE => ?_); simp only [go_sem, Tryz.ntmps23]
      repeat' (first | (with_reducible (show runOps ..); first | (refine Qr rfl ?_; try intro K' hK; try simp only [go_sem, *])) | (with_reducible (show Hold ..); first | refine Qh rfl ?_ | refine s_draw rfl Tryz.mixed (by kernel_rfl) ?_ | (refine s_cond rfl ⟨_, rfl, fun hb => ?_, fun hb => ?_⟩ <;> (have hc := hb; try simp only [go_sem] at hc)) | refine s_ret rfl ?_) | (with_reducible (show callA ..); first | ((first | refine call_s (s4) ?_ ?_ | refine call_s (sc) ?_ ?_); (focus (simp only [go_sem, *]; done)); simp only [go_sem, *]) | (refine call_of [0] [] (s1) (by simp) ?_ ?_ (by simp) (.inl rfl) ?_ ?_ ?_; (focus (simp only [go_sem, *]; done)); (focus (simp only [go_sem, *]; done)); (focus (first | (simp; done) | (simp [go_sem]; done))); (focus (first | (simp; done) | (simp [go_sem]; done))); simp only [go_sem, *]) | (refine call_of [0] [] (s2) (by simp) ?_ ?_ (by simp) (.inl rfl) ?_ ?_ ?_; (focus (simp only [go_sem, *]; done)); (focus (simp only [go_sem, *]; done)); (focus (first | (simp; done) | (simp [go_sem]; done))); (focus (first | (simp; done) | (simp [go_sem]; done))); simp only [go_sem, *]) | (refine call_of [0] [] (s3) (by simp) ?_ ?_ (by simp) (.inl rfl) ?_ ?_ ?_; (focus (simp only [go_sem, *]; done)); (focus (simp only [go_sem, *]; done)); (focus (first | (simp; done) | (simp [go_sem]; done))); (focus (first | (simp; done) | (simp [go_sem]; done))); simp only [go_sem, *]) | (refine call_of [0] [] (sa) (by simp) ?_ ?_ (by simp) (.inl rfl) ?_ ?_ ?_; (focus (simp only [go_sem, *]; done)); (focus (simp only [go_sem, *]; done)); (focus (first | (simp; done) | (simp [go_sem]; done))); (focus (first | (simp; done) | (simp [go_sem]; done))); simp only [go_sem, *]) | (refine call_of [0] [] (sb) (by simp) ?_ ?_ (by simp) (.inl rfl) ?_ ?_ ?_; (focus (simp only [go_sem, *]; done)); (focus (simp only [go_sem, *]; done)); (focus (first | (simp; done) | (simp [go_sem]; done))); (focus (first | (simp; done) | (simp [go_sem]; done))); simp only [go_sem, *])) | ((with_reducible refine Qb ?_ ?_); focus kernel_rfl) | ((with_reducible refine And.intro ?_ ?_); focus omega) | (refine contA_of hK ?_; clear hK K'; simp only [go_sem, *]) | (simp only [thenA, inBlockA, go_sem, *]))
      all_goals first | contradiction | skip
      refine ⟨[.agg [iV 7, iV s, iV o, iV b.number, iV b.letter, iV a.number, iV a.letter]], [some 0], [], ⟨by simp only [resOne, go_sem], trivial⟩, ?_⟩
      simp only [go_sem, zeroPlate, *]
    · rw [if_neg hlt]
      rw [Bool.not_eq_true] at hlt
      rw [hlt] at sc
      clear hlt
      refine spec_body Tryz.func23 rfl (fun E hE => ?_); simp only [go_sem, Tryz.ntmps23]
      repeat' (first | (with_reducible (show runOps ..); first | (refine Qr rfl ?_; try intro K' hK; try simp only [go_sem, *])) | (with_reducible (show Hold ..); first | refine Qh rfl ?_ | refine s_draw rfl Tryz.mixed (by kernel_rfl) ?_ | (refine s_cond rfl ⟨_, rfl, fun hb => ?_, fun hb => ?_⟩ <;> (have hc := hb; try simp only [go_sem] at hc)) | refine s_ret rfl ?_) | (with_reducible (show callA ..); first | ((first | refine call_s (s4) ?_ ?_ | refine call_s (sc) ?_ ?_); (focus (simp only [go_sem, *]; done)); simp only [go_sem, *]) | (refine call_of [0] [] (s1) (by simp) ?_ ?_ (by simp) (.inl rfl) ?_ ?_ ?_; (focus (simp only [go_sem, *]; done)); (focus (simp only [go_sem, *]; done)); (focus (first | (simp; done) | (simp [go_sem]; done))); (focus (first | (simp; done) | (simp [go_sem]; done))); simp only [go_sem, *]) | (refine call_of [0] [] (s2) (by simp) ?_ ?_ (by simp) (.inl rfl) ?_ ?_ ?_; (focus (simp only [go_sem, *]; done)); (focus (simp only [go_sem, *]; done)); (focus (first | (simp; done) | (simp [go_sem]; done))); (focus (first | (simp; done) | (simp [go_sem]; done))); simp only [go_sem, *]) | (refine call_of [0] [] (s3) (by simp) ?_ ?_ (by simp) (.inl rfl) ?_ ?_ ?_; (focus (simp only [go_sem, *]; done)); (focus (simp only [go_sem, *]; done)); (focus (first | (simp; done) | (simp [go_sem]; done))); (focus (first | (simp; done) | (simp [go_sem]; done))); simp only [go_sem, *]) | (refine call_of [0] [] (sa) (by simp) ?_ ?_ (by simp) (.inl rfl) ?_ ?_ ?_; (focus (simp only [go_sem, *]; done)); (focus (simp only [go_sem, *]; done)); (focus (first | (simp; done) | (simp [go_sem]; done))); (focus (first | (simp; done) | (simp [go_sem]; done))); simp only [go_sem, *]) | (refine call_of [0] [] (sb) (by simp) ?_ ?_ (by simp) (.inl rfl) ?_ ?_ ?_; (focus (simp only [go_sem, *]; done)); (focus (simp only [go_sem, *]; done)); (focus (first | (simp; done) | (simp [go_sem]; done))); (focus (first | (simp; done) | (simp [go_sem]; done))); simp only [go_sem, *])) | ((with_reducible refine Qb ?_ ?_); focus kernel_rfl) | ((with_reducible refine And.intro ?_ ?_); focus omega) | (refine contA_of hK ?_; clear hK K'; simp only [go_sem, *]) | (simp only [thenA, inBlockA, go_sem, *]))
      all_goals first | contradiction | skip
      refine ⟨[.agg [iV 7, iV s, iV o, iV a.number, iV a.letter, iV b.number, iV b.letter]], [some 0], [], ⟨by simp only [resOne, go_sem], trivial⟩, ?_⟩
      simp only [go_sem, zeroPlate, *]
  rw [if_neg k7]
  have k7' : (k == 7) = false := by rw [beq_eq_false_iff_ne]; exact k7
  by_cases k56 : k = 5 ∨ k = 6
  · rw [if_pos k56]
    simp only
    have sa := sp_plateOf d2 (rowAt p (s : Int)) hl2 (by omega)
    generalize somePlate d2 (rowAt p (s : Int)) = A at *
    obtain ⟨a, d4⟩ := A
    simp only at sa ⊢
    rcases k56 with k5 | k6
    · subst k5
      clear k4 k7
      refine spec_body Tryz.func23 rfl (fun E hE => ?_); simp only [go_sem, Tryz.ntmps23]
      repeat' (first | (with_reducible (show runOps ..); first | (refine Qr rfl ?_; try intro K' hK; try simp only [go_sem, *])) | (with_reducible (show Hold ..); first | refine Qh rfl ?_ | refine s_draw rfl Tryz.mixed (by kernel_rfl) ?_ | (refine s_cond rfl ⟨_, rfl, fun hb => ?_, fun hb => ?_⟩ <;> (have hc := hb; try simp only [go_sem] at hc)) | refine s_ret rfl ?_) | (with_reducible (show callA ..); first | (refine call_of [0] [] (s1) (by simp) ?_ ?_ (by simp) (.inl rfl) ?_ ?_ ?_; (focus (simp only [go_sem, *]; done)); (focus (simp only [go_sem, *]; done)); (focus (first | (simp; done) | (simp [go_sem]; done))); (focus (first | (simp; done) | (simp [go_sem]; done))); simp only [go_sem, *]) | (refine call_of [0] [] (s2) (by simp) ?_ ?_ (by simp) (.inl rfl) ?_ ?_ ?_; (focus (simp only [go_sem, *]; done)); (focus (simp only [go_sem, *]; done)); (focus (first | (simp; done) | (simp [go_sem]; done))); (focus (first | (simp; done) | (simp [go_sem]; done))); simp only [go_sem, *]) | (refine call_of [0] [] (sa) (by simp) ?_ ?_ (by simp) (.inl rfl) ?_ ?_ ?_; (focus (simp only [go_sem, *]; done)); (focus (simp only [go_sem, *]; done)); (focus (first | (simp; done) | (simp [go_sem]; done))); (focus (first | (simp; done) | (simp [go_sem]; done))); simp only [go_sem, *])) | ((with_reducible refine Qb ?_ ?_); focus kernel_rfl) | ((with_reducible refine And.intro ?_ ?_); focus omega) | (refine contA_of hK ?_; clear hK K'; simp only [go_sem, *]) | (simp only [thenA, inBlockA, go_sem, *]))
      all_goals first | contradiction | skip
      refine ⟨[.agg [iV 5, iV s, iV 0, iV a.number, iV a.letter, iV 0, iV 0]], [some 0], [], ⟨by simp only [resOne, go_sem], trivial⟩, ?_⟩
      simp only [go_sem, zeroPlate, *]
    · subst k6
      clear k4 k7
      refine spec_body Tryz.func23 rfl (fun E hE => ?_); simp only [go_sem, Tryz.ntmps23]
      repeat' (first | (with_reducible (show runOps ..); first | (refine Qr rfl ?_; try intro K' hK; try simp only [go_sem, *])) | (with_reducible (show Hold ..); first | refine Qh rfl ?_ | refine s_draw rfl Tryz.mixed (by kernel_rfl) ?_ | (refine s_cond rfl ⟨_, rfl, fun hb => ?_, fun hb => ?_⟩ <;> (have hc := hb; try simp only [go_sem] at hc)) | refine s_ret rfl ?_) | (with_reducible (show callA ..); first | (refine call_of [0] [] (s1) (by simp) ?_ ?_ (by simp) (.inl rfl) ?_ ?_ ?_; (focus (simp only [go_sem, *]; done)); (focus (simp only [go_sem, *]; done)); (focus (first | (simp; done) | (simp [go_sem]; done))); (focus (first | (simp; done) | (simp [go_sem]; done))); simp only [go_sem, *]) | (refine call_of [0] [] (s2) (by simp) ?_ ?_ (by simp) (.inl rfl) ?_ ?_ ?_; (focus (simp only [go_sem, *]; done)); (focus (simp only [go_sem, *]; done)); (focus (first | (simp; done) | (simp [go_sem]; done))); (focus (first | (simp; done) | (simp [go_sem]; done))); simp only [go_sem, *]) | (refine call_of [0] [] (sa) (by simp) ?_ ?_ (by simp) (.inl rfl) ?_ ?_ ?_; (focus (simp only [go_sem, *]; done)); (focus (simp only [go_sem, *]; done)); (focus (first | (simp; done) | (simp [go_sem]; done))); (focus (first | (simp; done) | (simp [go_sem]; done))); simp only [go_sem, *])) | ((with_reducible refine Qb ?_ ?_); focus kernel_rfl) | ((with_reducible refine And.intro ?_ ?_); focus omega) | (refine contA_of hK ?_; clear hK K'; simp only [go_sem, *]) | (simp only [thenA, inBlockA, go_sem, *]))
      all_goals first | contradiction | skip
      refine ⟨[.agg [iV 6, iV s, iV 0, iV a.number, iV a.letter, iV 0, iV 0]], [some 0], [], ⟨by simp only [resOne, go_sem], trivial⟩, ?_⟩
      simp only [go_sem, zeroPlate, *]
  · rw [if_neg k56]
    have k5' : (k == 5) = false := by rw [beq_eq_false_iff_ne]; omega
    have k6' : (k == 6) = false := by rw [beq_eq_false_iff_ne]; omega
    clear k4 k7 k56
    refine spec_body Tryz.func23 rfl (fun E hE => ?_); simp only [go_sem, Tryz.ntmps23]
    repeat' (first | (with_reducible (show runOps ..); first | (refine Qr rfl ?_; try intro K' hK; try simp only [go_sem, *])) | (with_reducible (show Hold ..); first | refine Qh rfl ?_ | refine s_draw rfl Tryz.mixed (by kernel_rfl) ?_ | (refine s_cond rfl ⟨_, rfl, fun hb => ?_, fun hb => ?_⟩ <;> (have hc := hb; try simp only [go_sem] at hc)) | refine s_ret rfl ?_) | (with_reducible (show callA ..); first | (refine call_of [0] [] (s1) (by simp) ?_ ?_ (by simp) (.inl rfl) ?_ ?_ ?_; (focus (simp only [go_sem, *]; done)); (focus (simp only [go_sem, *]; done)); (focus (first | (simp; done) | (simp [go_sem]; done))); (focus (first | (simp; done) | (simp [go_sem]; done))); simp only [go_sem, *]) | (refine call_of [0] [] (s2) (by simp) ?_ ?_ (by simp) (.inl rfl) ?_ ?_ ?_; (focus (simp only [go_sem, *]; done)); (focus (simp only [go_sem, *]; done)); (focus (first | (simp; done) | (simp [go_sem]; done))); (focus (first | (simp; done) | (simp [go_sem]; done))); simp only [go_sem, *])) | ((with_reducible refine Qb ?_ ?_); focus kernel_rfl) | ((with_reducible refine And.intro ?_ ?_); focus omega) | (refine contA_of hK ?_; clear hK K'; simp only [go_sem, *]) | (simp only [thenA, inBlockA, go_sem, *]))
    all_goals first | contradiction | skip
    refine ⟨[.agg [iV k, iV s, iV 0, iV 0, iV 0, iV 0, iV 0]], [some 0], [], ⟨by simp only [resOne, go_sem], trivial⟩, ?_⟩
    simp only [go_sem, zeroPlate, *]
end Go.Abs

namespace Go.Abs
open Go Go.Proofs
set_option maxRecDepth 10000
set_option maxHeartbeats 4000000
def AtH (x : House) (acc : List House) (j : Nat) : Prop := ∀ m, m < j → (acc.getD m default).lt x = true
theorem AtH.next {x : House} {acc : List House} {j : Nat} (h : AtH x acc j) (hx : (acc.getD j default).lt x = true) : AtH x acc (j + 1) := fun m hm => by
  rcases Nat.lt_succ_iff_lt_or_eq.1 hm with h1 | rfl
  · exact h m h1
  · exact hx
def SoP (l : List House) (i : Nat) (acc R : List House) : Prop := (l.drop i).foldl (fun out x => insH x out) acc = R ∧ acc.length ≤ i
theorem SoP.next {l : List House} {i : Nat} {acc R : List House} (h : SoP l i acc R) (hi : i < l.length) : SoP l (i + 1) (insH (l.getD i default) acc) R := by
  obtain ⟨h1, h2⟩ := h
  rw [drop_cons hi, List.foldl_cons] at h1
  exact ⟨h1, by have := insH_len (x := l.getD i default) (l := acc); omega⟩
theorem sp_rSorted (l : List House) (hl : l.length ≤ 4294967296) : Spec Tryz.prog 64 [.list (l.map House.enc)] [] (.list ((sortH l).map House.enc)) [] := by
  have h0 : SoP l 0 [] (sortH l) := ⟨rfl, by simp⟩
  generalize sortH l = R at *
  refine spec_body Tryz.func64 rfl (fun E hE => ?_); simp only [go_sem, Tryz.ntmps64]
  repeat' (first | (with_reducible (show runOps ..); first | (refine Qr rfl ?_; try intro K' hK; try simp only [go_sem, *]) | (refine Qi rfl rfl rfl rfl (fun hb K' hK => ?_) (fun hb => ?_) <;> (have hc := hb; try simp only [go_sem] at hc; simp only [go_sem, *]))) | (with_reducible (show Hold ..); first | refine Qh rfl ?_ | refine s_draw rfl Tryz.mixed (by kernel_rfl) ?_ | (refine s_cond rfl ⟨_, rfl, fun hb => ?_, fun hb => ?_⟩ <;> (have hc := hb; try simp only [go_sem] at hc)) | refine s_ret rfl ?_) | ((with_reducible refine Qb ?_ ?_); focus kernel_rfl) | ((with_reducible refine And.intro ?_ ?_); focus omega) | (refine contA_of hK ?_; clear hK K'; simp only [go_sem, *]) | (simp only [thenA, inBlockA, go_sem, *]))
  refine s_loop rfl (fun zn zN zenv zAs => ∃ (i : Nat) (acc : List House), zn = (l.length) - i ∧ i ≤ (l.length) ∧ (SoP l i acc R) ∧ zN = 60 ∧ zenv = [(4, iV i), (3, .own 0 3 0 acc.length), (0, .list (l.map House.enc))] ∧ zAs = [.row 3 (acc.map House.enc)]) (l.length) ⟨[none], [], _, _, _, (by (simp only [Weak, go_sem, List.map_append, List.map_set, *] <;> (try simp (disch := omega) only [wrap_succ]) <;> (try simp) <;> (try omega))), 0, [], (by simp), (by simp), (by exact h0), rfl, rfl, rfl⟩ ?_; rintro _ _ _ _ ⟨i, acc, rfl, hi, hP, rfl, rfl, rfl⟩
  clear h0
  by_cases hi2 : i < l.length
  · have hnx := hP.next hi2
    have hal := hP.2
    clear hP
    repeat' (first | (with_reducible (show runOps ..); first | (refine Qr rfl ?_; try intro K' hK; try simp only [go_sem, *]) | (refine Qi rfl rfl rfl rfl (fun hb K' hK => ?_) (fun hb => ?_) <;> (have hc := hb; try simp only [go_sem] at hc; simp only [go_sem, *]))) | (with_reducible (show Hold ..); first | refine Qh rfl ?_ | refine s_draw rfl Tryz.mixed (by kernel_rfl) ?_ | (refine s_cond rfl ⟨_, rfl, fun hb => ?_, fun hb => ?_⟩ <;> (have hc := hb; try simp only [go_sem] at hc)) | refine s_ret rfl ?_) | ((with_reducible refine Qb ?_ ?_); focus kernel_rfl) | ((with_reducible refine And.intro ?_ ?_); focus omega) | (refine contA_of hK ?_; clear hK K'; simp only [go_sem, *]) | (simp only [thenA, inBlockA, go_sem, *]))
    generalize hx : l.getD i default = x at *
    have hxl : ∀ d, (l.map House.enc).getD i d = x.enc := fun d => by rw [← hx]; exact getD_map_lt hi2
    refine s_loop rfl (fun zn zN zenv zAs => ∃ (j : Nat), zn = (acc.length) - j ∧ j ≤ (acc.length) ∧ (AtH x acc j) ∧ zN = 60 ∧ zenv = [(5, iV j), (4, iV i), (3, .own 0 3 0 acc.length), (0, .list (l.map House.enc))] ∧ zAs = [.row 3 (acc.map House.enc)]) (acc.length) ⟨[some 0], [], _, _, _, (by (simp only [Weak, go_sem, List.map_append, List.map_set, *] <;> (try simp (disch := omega) only [wrap_succ]) <;> (try simp) <;> (try omega))), 0, (by simp), (by simp), (by exact fun m hm => absurd hm (by omega)), rfl, rfl, rfl⟩ ?_; rintro _ _ _ _ ⟨j, rfl, hj, hJ, rfl, rfl, rfl⟩
    have hmn : min j acc.length = j := by omega
    have hl2 : j + (acc.length - j + 1) = j + 1 + (acc.length - j) := by omega
    have hdl2 : (List.drop j (List.map House.enc acc)).length = acc.length - j := by simp
    have htd : List.take (acc.length - j) (List.drop j (List.map House.enc acc)) = List.drop j (List.map House.enc acc) := List.take_of_length_le (by simp)
    by_cases hj2 : j < acc.length
    · have sb := sp_Ahead (acc.getD j default) x
      by_cases hlt : (acc.getD j default).lt x = true
      · rw [hlt] at sb
        repeat' (first | (with_reducible (show runOps ..); first | (refine Qr rfl ?_; try intro K' hK; try simp only [go_sem, *]) | (refine Qi rfl rfl rfl rfl (fun hb K' hK => ?_) (fun hb => ?_) <;> (have hc := hb; try simp only [go_sem] at hc; simp only [go_sem, *]))) | (with_reducible (show Hold ..); first | refine Qh rfl ?_ | refine s_draw rfl Tryz.mixed (by kernel_rfl) ?_ | (refine s_cond rfl ⟨_, rfl, fun hb => ?_, fun hb => ?_⟩ <;> (have hc := hb; try simp only [go_sem] at hc)) | refine s_ret rfl ?_) | (with_reducible (show callA ..); first | (refine call_s (sb) ?_ ?_; (focus (simp only [go_sem, *]; done)); simp only [go_sem, *])) | ((with_reducible refine Qb ?_ ?_); focus kernel_rfl) | ((with_reducible refine And.intro ?_ ?_); focus omega) | (refine contA_of hK ?_; clear hK K'; simp only [go_sem, *]) | (simp only [thenA, inBlockA, go_sem, *]))
        all_goals first | contradiction | skip
        refine ⟨_, (by omega), [some 0], [], _, _, _, (by (simp only [Weak, go_sem, List.map_append, List.map_set, *] <;> (try simp (disch := omega) only [wrap_succ]) <;> (try simp) <;> (try omega))), j + 1, rfl, (by omega), (by exact hJ.next hlt), rfl, rfl, rfl⟩
      · rw [Bool.not_eq_true] at hlt
        rw [hlt] at sb
        have hin := insH_at (by omega) hJ (fun _ => hlt)
        by_cases heq : acc.getD j default = x
        · rw [if_pos ⟨hj2, heq⟩] at hin
          rw [hin] at hnx
          clear hin
          have hne : (decide (acc.getD j default = x)) = true := by simpa using heq
          clear heq
          repeat' (first | (with_reducible (show runOps ..); first | (refine Qr rfl ?_; try intro K' hK; try simp only [go_sem, *]) | (refine Qi rfl rfl rfl rfl (fun hb K' hK => ?_) (fun hb => ?_) <;> (have hc := hb; try simp only [go_sem] at hc; simp only [go_sem, *]))) | (with_reducible (show Hold ..); first | refine Qh rfl ?_ | refine s_draw rfl Tryz.mixed (by kernel_rfl) ?_ | (refine s_cond rfl ⟨_, rfl, fun hb => ?_, fun hb => ?_⟩ <;> (have hc := hb; try simp only [go_sem] at hc)) | refine s_ret rfl ?_) | (with_reducible (show (∀ _ : AV, _ → _) ∧ _); refine And.intro ?_ ?_; (focus (intro y hy; first | (obtain ⟨z, _, rfl⟩ := List.mem_map.1 (hy); simp [go_sem]; done) | (obtain ⟨z, _, rfl⟩ := List.mem_map.1 (List.mem_of_mem_take hy); simp [go_sem]; done) | (obtain ⟨z, _, rfl⟩ := List.mem_map.1 (List.mem_of_mem_drop hy); simp [go_sem]; done) | (obtain ⟨z, _, rfl⟩ := List.mem_map.1 (List.mem_of_mem_drop (List.mem_of_mem_take hy)); simp [go_sem]; done)))) | (with_reducible (show callA ..); first | (refine call_s (sb) ?_ ?_; (focus (simp only [go_sem, *]; done)); simp only [go_sem, *])) | ((with_reducible refine Qb ?_ ?_); focus kernel_rfl) | ((with_reducible refine And.intro ?_ ?_); focus omega) | (refine contA_of hK ?_; clear hK K'; simp only [go_sem, *]) | (simp only [thenA, inBlockA, go_sem, *]))
          all_goals first | contradiction | skip
          refine ⟨_, (by omega), [some 0], [], _, _, _, (by (simp only [Weak, go_sem, List.map_append, List.map_set, *] <;> (try simp (disch := omega) only [wrap_succ]) <;> (try simp) <;> (try omega))), i + 1, acc, rfl, (by omega), (by exact hnx), rfl, rfl, rfl⟩
        · rw [if_neg (fun h => heq h.2)] at hin
          rw [hin] at hnx
          clear hin
          have hne : (decide (acc.getD j default = x)) = false := by simpa using heq
          clear heq
          repeat' (first | (with_reducible (show runOps ..); first | (refine Qr rfl ?_; try intro K' hK; try simp only [go_sem, *]) | (refine Qi rfl rfl rfl rfl (fun hb K' hK => ?_) (fun hb => ?_) <;> (have hc := hb; try simp only [go_sem] at hc; simp only [go_sem, *]))) | (with_reducible (show Hold ..); first | refine Qh rfl ?_ | refine s_draw rfl Tryz.mixed (by kernel_rfl) ?_ | (refine s_cond rfl ⟨_, rfl, fun hb => ?_, fun hb => ?_⟩ <;> (have hc := hb; try simp only [go_sem] at hc)) | refine s_ret rfl ?_) | (with_reducible (show (∀ _ : AV, _ → _) ∧ _); refine And.intro ?_ ?_; (focus (intro y hy; first | (obtain ⟨z, _, rfl⟩ := List.mem_map.1 (hy); simp [go_sem]; done) | (obtain ⟨z, _, rfl⟩ := List.mem_map.1 (List.mem_of_mem_take hy); simp [go_sem]; done) | (obtain ⟨z, _, rfl⟩ := List.mem_map.1 (List.mem_of_mem_drop hy); simp [go_sem]; done) | (obtain ⟨z, _, rfl⟩ := List.mem_map.1 (List.mem_of_mem_drop (List.mem_of_mem_take hy)); simp [go_sem]; done)))) | (with_reducible (show callA ..); first | (refine call_s (sb) ?_ ?_; (focus (simp only [go_sem, *]; done)); simp only [go_sem, *])) | ((with_reducible refine Qb ?_ ?_); focus kernel_rfl) | ((with_reducible refine And.intro ?_ ?_); focus omega) | (refine contA_of hK ?_; clear hK K'; simp only [go_sem, *]) | (simp only [thenA, inBlockA, go_sem, *]))
          all_goals first | contradiction | skip
          refine ⟨_, (by omega), [some 5], [], _, _, _, (by (simp only [Weak, go_sem, List.map_append, List.map_set, *] <;> (try simp (disch := omega) only [wrap_succ]) <;> (try simp) <;> (try omega))), i + 1, acc.take j ++ x :: acc.drop j, rfl, (by omega), (by exact hnx), rfl, rfl, rfl⟩
    · have hin := insH_at (x := x) (l := acc) (k := j) (by omega) hJ (fun h => absurd h hj2)
      rw [if_neg (fun h => hj2 h.1)] at hin
      rw [hin] at hnx
      clear hin
      repeat' (first | (with_reducible (show runOps ..); first | (refine Qr rfl ?_; try intro K' hK; try simp only [go_sem, *]) | (refine Qi rfl rfl rfl rfl (fun hb K' hK => ?_) (fun hb => ?_) <;> (have hc := hb; try simp only [go_sem] at hc; simp only [go_sem, *]))) | (with_reducible (show Hold ..); first | refine Qh rfl ?_ | refine s_draw rfl Tryz.mixed (by kernel_rfl) ?_ | (refine s_cond rfl ⟨_, rfl, fun hb => ?_, fun hb => ?_⟩ <;> (have hc := hb; try simp only [go_sem] at hc)) | refine s_ret rfl ?_) | (with_reducible (show (∀ _ : AV, _ → _) ∧ _); refine And.intro ?_ ?_; (focus (intro y hy; first | (obtain ⟨z, _, rfl⟩ := List.mem_map.1 (hy); simp [go_sem]; done) | (obtain ⟨z, _, rfl⟩ := List.mem_map.1 (List.mem_of_mem_take hy); simp [go_sem]; done) | (obtain ⟨z, _, rfl⟩ := List.mem_map.1 (List.mem_of_mem_drop hy); simp [go_sem]; done) | (obtain ⟨z, _, rfl⟩ := List.mem_map.1 (List.mem_of_mem_drop (List.mem_of_mem_take hy)); simp [go_sem]; done)))) | ((with_reducible refine Qb ?_ ?_); focus kernel_rfl) | ((with_reducible refine And.intro ?_ ?_); focus omega) | (refine contA_of hK ?_; clear hK K'; simp only [go_sem, *]) | (simp only [thenA, inBlockA, go_sem, *]))
      all_goals first | contradiction | skip
      refine ⟨_, (by omega), [some 5], [], _, _, _, (by (simp only [Weak, go_sem, List.map_append, List.map_set, *] <;> (try simp (disch := omega) only [wrap_succ]) <;> (try simp) <;> (try omega))), i + 1, acc.take j ++ x :: acc.drop j, rfl, (by omega), (by exact hnx), rfl, rfl, rfl⟩
  · obtain ⟨h1, h2⟩ := hP
    rw [drop_end (by omega)] at h1
    have h3 : acc = R := h1
    subst h3
    clear h1 h2
    repeat' (first | (with_reducible (show runOps ..); first | (refine Qr rfl ?_; try intro K' hK; try simp only [go_sem, *]) | (refine Qi rfl rfl rfl rfl (fun hb K' hK => ?_) (fun hb => ?_) <;> (have hc := hb; try simp only [go_sem] at hc; simp only [go_sem, *]))) | (with_reducible (show Hold ..); first | refine Qh rfl ?_ | refine s_draw rfl Tryz.mixed (by kernel_rfl) ?_ | (refine s_cond rfl ⟨_, rfl, fun hb => ?_, fun hb => ?_⟩ <;> (have hc := hb; try simp only [go_sem] at hc)) | refine s_ret rfl ?_) | ((with_reducible refine Qb ?_ ?_); focus kernel_rfl) | ((with_reducible refine And.intro ?_ ?_); focus omega) | (refine contA_of hK ?_; clear hK K'; simp only [go_sem, *]) | (simp only [thenA, inBlockA, go_sem, *]))
    refine ⟨[_], [], [0], ⟨rfl, trivial⟩, ?_⟩
    simp only [go_sem, *]
end Go.Abs

namespace Go.Abs
open Go Go.Proofs
set_option maxRecDepth 10000
set_option maxHeartbeats 4000000
def bkt (L : List House) (i s : Nat) : List Plate := ((L.take i).filter (fun h => h.street == (s : Int))).map House.plate
theorem bkt_in {L : List House} {i s : Nat} (h : i < L.length) (e : (L.getD i default).street = (s : Int)) : bkt L (i + 1) s = bkt L i s ++ [(L.getD i default).plate] := by
  have q : ((L.getD i default).street == (s : Int)) = true := by rw [beq_iff_eq]; exact e
  unfold bkt
  rw [take_succ_getD h, List.filter_append, List.map_append, List.filter_cons, if_pos q]; rfl
theorem bkt_out {L : List House} {i s : Nat} (h : i < L.length) (e : (L.getD i default).street ≠ (s : Int)) : bkt L (i + 1) s = bkt L i s := by
  have q : ¬ ((L.getD i default).street == (s : Int)) = true := by rw [beq_iff_eq]; exact e
  unfold bkt
  rw [take_succ_getD h, List.filter_append, List.map_append, List.filter_cons, if_neg q]; simp
theorem bkt_len (L : List House) (i s : Nat) : (bkt L i s).length ≤ L.length := by
  unfold bkt; rw [List.length_map]
  exact Nat.le_trans (List.length_filter_le _ _) (by simp; omega)
theorem bkt_end {L : List House} {i s : Nat} (h : L.length ≤ i) : bkt L i s = (L.filter (fun h => h.street == (s : Int))).map House.plate := by
  unfold bkt; rw [List.take_of_length_le h]
theorem sp_rLaid1 (l : List House) (hst : ∀ z, z ∈ l → 0 ≤ z.street ∧ z.street < 1) (hl : l.length ≤ 4294967296) : Spec Tryz.prog 127 [.list (l.map House.enc), iV 1] [] (encPlan (laid l 1)) [] := by
  have rz : List.replicate 1 (AV.raw (Value.slice none 0 0)) = [AV.raw (Value.slice none 0 0)] := rfl
  have hv : IntKind.i64.wrap 1 = (1 : Int) := wrap_i64 (by omega) (by omega)
  have ss := sp_rSorted l hl
  have hsl : (sortH l).length ≤ l.length := by have := foldH_len l []; simpa [sortH] using this
  have hsm : ∀ z, z ∈ sortH l → 0 ≤ z.street ∧ z.street < 1 := fun z hz => hst z (mem_sortH.1 hz)
  have he : laid l 1 = [((sortH l).filter (fun h => h.street == ((0 : Nat) : Int))).map House.plate] := by simp [laid, List.range_succ]
  rw [he]
  clear he hst
  generalize sortH l = L at *
  have hlb := fun i s => bkt_len L i s
  have z0 : bkt L 0 0 = [] := rfl
  have z1 : bkt L 0 1 = [] := rfl
  have z2 : bkt L 0 2 = [] := rfl
  refine spec_body Tryz.func127 rfl (fun E hE => ?_); simp only [go_sem, Tryz.ntmps127]
  repeat' (first | (with_reducible (show runOps ..); first | (refine Qr rfl ?_; try intro K' hK; try simp only [go_sem, *])) | (with_reducible (show Hold ..); first | refine Qh rfl ?_ | refine s_draw rfl Tryz.mixed (by kernel_rfl) ?_ | (refine s_cond rfl ⟨_, rfl, fun hb => ?_, fun hb => ?_⟩ <;> (have hc := hb; try simp only [go_sem] at hc)) | refine s_ret rfl ?_) | (with_reducible (show callA ..); first | (refine call_s (ss) ?_ ?_; (focus (simp only [go_sem, *]; done)); simp only [go_sem, *])) | ((with_reducible refine Qb ?_ ?_); focus kernel_rfl) | ((with_reducible refine And.intro ?_ ?_); focus omega) | (refine contA_of hK ?_; clear hK K'; simp only [go_sem, *]) | (simp only [thenA, inBlockA, go_sem, *]))
  refine s_loop rfl (fun zn zN zenv zAs => ∃ (i : Nat), zn = (L.length) - i ∧ i ≤ (L.length) ∧ (NoP i) ∧ zN = 43 ∧ zenv = [(6, iV i), (5, .ptr 1 0), (4, .ptr 0 0), (0, .list (L.map House.enc))] ∧ zAs = [.box [nilV], .box [.own 2 1 0 1], .box [.own 3 2 0 (bkt L i 0).length], .row 2 ((bkt L i 0).map Plate.enc)]) (L.length) ⟨[some 0, some 2, some 1, none], [], _, _, _, (by (simp only [Weak, go_sem, List.map_append, List.map_set, *] <;> (try simp (disch := omega) only [wrap_succ]) <;> (try simp) <;> (try omega))), 0, (by simp), (by simp), (by trivial), rfl, rfl, rfl⟩ ?_; rintro _ _ _ _ ⟨i, rfl, hi, hP, rfl, rfl, rfl⟩
  have hb0 := hlb i 0
  clear hlb z0 z1 z2
  by_cases hi2 : i < L.length
  · have hz := hsm _ (getD_mem hi2)
    rcases (by omega : (L.getD i default).street = 0) with hs0
    · have e0 := bkt_in (s := 0) hi2 (by rw [hs0]; rfl)
      repeat' (first | (with_reducible (show runOps ..); first | (refine Qr rfl ?_; try intro K' hK; try simp only [go_sem, *])) | (with_reducible (show Hold ..); first | refine Qh rfl ?_ | refine s_draw rfl Tryz.mixed (by kernel_rfl) ?_ | (refine s_cond rfl ⟨_, rfl, fun hb => ?_, fun hb => ?_⟩ <;> (have hc := hb; try simp only [go_sem] at hc)) | refine s_ret rfl ?_) | (with_reducible (show (∀ _ : AV, _ → _) ∧ _); refine And.intro ?_ ?_; (focus (intro y hy; first | (obtain ⟨z, _, rfl⟩ := List.mem_map.1 (hy); simp [go_sem]; done) | (obtain ⟨z, _, rfl⟩ := List.mem_map.1 (List.mem_of_mem_take hy); simp [go_sem]; done) | (obtain ⟨z, _, rfl⟩ := List.mem_map.1 (List.mem_of_mem_drop hy); simp [go_sem]; done) | (obtain ⟨z, _, rfl⟩ := List.mem_map.1 (List.mem_of_mem_drop (List.mem_of_mem_take hy)); simp [go_sem]; done)))) | ((with_reducible refine Qb ?_ ?_); focus kernel_rfl) | ((with_reducible refine And.intro ?_ ?_); focus omega) | (refine contA_of hK ?_; clear hK K'; simp only [go_sem, *]) | (simp only [thenA, inBlockA, go_sem, *]))
      all_goals first | contradiction | skip
      refine ⟨_, (by omega), [some 0, some 1, some 2, some 5], [], _, _, _, (by (simp only [Weak, go_sem, List.map_append, List.map_set, *] <;> (try simp (disch := omega) only [wrap_succ]) <;> (try simp) <;> (try omega))), i + 1, rfl, (by omega), (by trivial), rfl, rfl, rfl⟩
  · have e0 := bkt_end (L := L) (i := i) (s := 0) (by omega)
    repeat' (first | (with_reducible (show runOps ..); first | (refine Qr rfl ?_; try intro K' hK; try simp only [go_sem, *])) | (with_reducible (show Hold ..); first | refine Qh rfl ?_ | refine s_draw rfl Tryz.mixed (by kernel_rfl) ?_ | (refine s_cond rfl ⟨_, rfl, fun hb => ?_, fun hb => ?_⟩ <;> (have hc := hb; try simp only [go_sem] at hc)) | refine s_ret rfl ?_) | ((with_reducible refine Qb ?_ ?_); focus kernel_rfl) | ((with_reducible refine And.intro ?_ ?_); focus omega) | (refine contA_of hK ?_; clear hK K'; simp only [go_sem, *]) | (simp only [thenA, inBlockA, go_sem, *]))
    refine ⟨[.agg [.own 2 1 0 1]], [], [2, 3], ⟨by simp only [resOne, go_sem], trivial⟩, ?_⟩
    simp only [go_sem, *]
    try simp [List.take_of_length_le]
theorem sp_rLaid2 (l : List House) (hst : ∀ z, z ∈ l → 0 ≤ z.street ∧ z.street < 2) (hl : l.length ≤ 4294967296) : Spec Tryz.prog 127 [.list (l.map House.enc), iV 2] [] (encPlan (laid l 2)) [] := by
  have rz : List.replicate 2 (AV.raw (Value.slice none 0 0)) = [AV.raw (Value.slice none 0 0), AV.raw (Value.slice none 0 0)] := rfl
  have hv : IntKind.i64.wrap 2 = (2 : Int) := wrap_i64 (by omega) (by omega)
  have ss := sp_rSorted l hl
  have hsl : (sortH l).length ≤ l.length := by have := foldH_len l []; simpa [sortH] using this
  have hsm : ∀ z, z ∈ sortH l → 0 ≤ z.street ∧ z.street < 2 := fun z hz => hst z (mem_sortH.1 hz)
  have he : laid l 2 = [((sortH l).filter (fun h => h.street == ((0 : Nat) : Int))).map House.plate, ((sortH l).filter (fun h => h.street == ((1 : Nat) : Int))).map House.plate] := by simp [laid, List.range_succ]
  rw [he]
  clear he hst
  generalize sortH l = L at *
  have hlb := fun i s => bkt_len L i s
  have z0 : bkt L 0 0 = [] := rfl
  have z1 : bkt L 0 1 = [] := rfl
  have z2 : bkt L 0 2 = [] := rfl
  refine spec_body Tryz.func127 rfl (fun E hE => ?_); simp only [go_sem, Tryz.ntmps127]
  repeat' (first | (with_reducible (show runOps ..); first | (refine Qr rfl ?_; try intro K' hK; try simp only [go_sem, *])) | (with_reducible (show Hold ..); first | refine Qh rfl ?_ | refine s_draw rfl Tryz.mixed (by kernel_rfl) ?_ | (refine s_cond rfl ⟨_, rfl, fun hb => ?_, fun hb => ?_⟩ <;> (have hc := hb; try simp only [go_sem] at hc)) | refine s_ret rfl ?_) | (with_reducible (show callA ..); first | (refine call_s (ss) ?_ ?_; (focus (simp only [go_sem, *]; done)); simp only [go_sem, *])) | ((with_reducible refine Qb ?_ ?_); focus kernel_rfl) | ((with_reducible refine And.intro ?_ ?_); focus omega) | (refine contA_of hK ?_; clear hK K'; simp only [go_sem, *]) | (simp only [thenA, inBlockA, go_sem, *]))
  refine s_loop rfl (fun zn zN zenv zAs => ∃ (i : Nat), zn = (L.length) - i ∧ i ≤ (L.length) ∧ (NoP i) ∧ zN = 43 ∧ zenv = [(6, iV i), (5, .ptr 1 0), (4, .ptr 0 0), (0, .list (L.map House.enc))] ∧ zAs = [.box [nilV], .box [.own 2 1 0 2], .box [.own 3 2 0 (bkt L i 0).length, .own 4 2 0 (bkt L i 1).length], .row 2 ((bkt L i 0).map Plate.enc), .row 2 ((bkt L i 1).map Plate.enc)]) (L.length) ⟨[some 0, some 2, some 1, none, none], [], _, _, _, (by (simp only [Weak, go_sem, List.map_append, List.map_set, *] <;> (try simp (disch := omega) only [wrap_succ]) <;> (try simp) <;> (try omega))), 0, (by simp), (by simp), (by trivial), rfl, rfl, rfl⟩ ?_; rintro _ _ _ _ ⟨i, rfl, hi, hP, rfl, rfl, rfl⟩
  have hb0 := hlb i 0
  have hb1 := hlb i 1
  clear hlb z0 z1 z2
  by_cases hi2 : i < L.length
  · have hz := hsm _ (getD_mem hi2)
    rcases (by omega : (L.getD i default).street = 0 ∨ (L.getD i default).street = 1) with hs0 | hs0
    · have e0 := bkt_in (s := 0) hi2 (by rw [hs0]; rfl)
      have e1 := bkt_out (s := 1) hi2 (by rw [hs0]; decide)
      repeat' (first | (with_reducible (show runOps ..); first | (refine Qr rfl ?_; try intro K' hK; try simp only [go_sem, *])) | (with_reducible (show Hold ..); first | refine Qh rfl ?_ | refine s_draw rfl Tryz.mixed (by kernel_rfl) ?_ | (refine s_cond rfl ⟨_, rfl, fun hb => ?_, fun hb => ?_⟩ <;> (have hc := hb; try simp only [go_sem] at hc)) | refine s_ret rfl ?_) | (with_reducible (show (∀ _ : AV, _ → _) ∧ _); refine And.intro ?_ ?_; (focus (intro y hy; first | (obtain ⟨z, _, rfl⟩ := List.mem_map.1 (hy); simp [go_sem]; done) | (obtain ⟨z, _, rfl⟩ := List.mem_map.1 (List.mem_of_mem_take hy); simp [go_sem]; done) | (obtain ⟨z, _, rfl⟩ := List.mem_map.1 (List.mem_of_mem_drop hy); simp [go_sem]; done) | (obtain ⟨z, _, rfl⟩ := List.mem_map.1 (List.mem_of_mem_drop (List.mem_of_mem_take hy)); simp [go_sem]; done)))) | ((with_reducible refine Qb ?_ ?_); focus kernel_rfl) | ((with_reducible refine And.intro ?_ ?_); focus omega) | (refine contA_of hK ?_; clear hK K'; simp only [go_sem, *]) | (simp only [thenA, inBlockA, go_sem, *]))
      all_goals first | contradiction | skip
      refine ⟨_, (by omega), [some 0, some 1, some 2, some 6, some 4], [], _, _, _, (by (simp only [Weak, go_sem, List.map_append, List.map_set, *] <;> (try simp (disch := omega) only [wrap_succ]) <;> (try simp) <;> (try omega))), i + 1, rfl, (by omega), (by trivial), rfl, rfl, rfl⟩
    · have e0 := bkt_out (s := 0) hi2 (by rw [hs0]; decide)
      have e1 := bkt_in (s := 1) hi2 (by rw [hs0]; rfl)
      repeat' (first | (with_reducible (show runOps ..); first | (refine Qr rfl ?_; try intro K' hK; try simp only [go_sem, *])) | (with_reducible (show Hold ..); first | refine Qh rfl ?_ | refine s_draw rfl Tryz.mixed (by kernel_rfl) ?_ | (refine s_cond rfl ⟨_, rfl, fun hb => ?_, fun hb => ?_⟩ <;> (have hc := hb; try simp only [go_sem] at hc)) | refine s_ret rfl ?_) | (with_reducible (show (∀ _ : AV, _ → _) ∧ _); refine And.intro ?_ ?_; (focus (intro y hy; first | (obtain ⟨z, _, rfl⟩ := List.mem_map.1 (hy); simp [go_sem]; done) | (obtain ⟨z, _, rfl⟩ := List.mem_map.1 (List.mem_of_mem_take hy); simp [go_sem]; done) | (obtain ⟨z, _, rfl⟩ := List.mem_map.1 (List.mem_of_mem_drop hy); simp [go_sem]; done) | (obtain ⟨z, _, rfl⟩ := List.mem_map.1 (List.mem_of_mem_drop (List.mem_of_mem_take hy)); simp [go_sem]; done)))) | ((with_reducible refine Qb ?_ ?_); focus kernel_rfl) | ((with_reducible refine And.intro ?_ ?_); focus omega) | (refine contA_of hK ?_; clear hK K'; simp only [go_sem, *]) | (simp only [thenA, inBlockA, go_sem, *]))
      all_goals first | contradiction | skip
      refine ⟨_, (by omega), [some 0, some 1, some 2, some 3, some 6], [], _, _, _, (by (simp only [Weak, go_sem, List.map_append, List.map_set, *] <;> (try simp (disch := omega) only [wrap_succ]) <;> (try simp) <;> (try omega))), i + 1, rfl, (by omega), (by trivial), rfl, rfl, rfl⟩
  · have e0 := bkt_end (L := L) (i := i) (s := 0) (by omega)
    have e1 := bkt_end (L := L) (i := i) (s := 1) (by omega)
    repeat' (first | (with_reducible (show runOps ..); first | (refine Qr rfl ?_; try intro K' hK; try simp only [go_sem, *])) | (with_reducible (show Hold ..); first | refine Qh rfl ?_ | refine s_draw rfl Tryz.mixed (by kernel_rfl) ?_ | (refine s_cond rfl ⟨_, rfl, fun hb => ?_, fun hb => ?_⟩ <;> (have hc := hb; try simp only [go_sem] at hc)) | refine s_ret rfl ?_) | ((with_reducible refine Qb ?_ ?_); focus kernel_rfl) | ((with_reducible refine And.intro ?_ ?_); focus omega) | (refine contA_of hK ?_; clear hK K'; simp only [go_sem, *]) | (simp only [thenA, inBlockA, go_sem, *]))
    refine ⟨[.agg [.own 2 1 0 2]], [], [2, 3, 4], ⟨by simp only [resOne, go_sem], trivial⟩, ?_⟩
    simp only [go_sem, *]
    try simp [List.take_of_length_le]
theorem sp_rLaid3 (l : List House) (hst : ∀ z, z ∈ l → 0 ≤ z.street ∧ z.street < 3) (hl : l.length ≤ 4294967296) : Spec Tryz.prog 127 [.list (l.map House.enc), iV 3] [] (encPlan (laid l 3)) [] := by
  have rz : List.replicate 3 (AV.raw (Value.slice none 0 0)) = [AV.raw (Value.slice none 0 0), AV.raw (Value.slice none 0 0), AV.raw (Value.slice none 0 0)] := rfl
  have hv : IntKind.i64.wrap 3 = (3 : Int) := wrap_i64 (by omega) (by omega)
  have ss := sp_rSorted l hl
  have hsl : (sortH l).length ≤ l.length := by have := foldH_len l []; simpa [sortH] using this
  have hsm : ∀ z, z ∈ sortH l → 0 ≤ z.street ∧ z.street < 3 := fun z hz => hst z (mem_sortH.1 hz)
  have he : laid l 3 = [((sortH l).filter (fun h => h.street == ((0 : Nat) : Int))).map House.plate, ((sortH l).filter (fun h => h.street == ((1 : Nat) : Int))).map House.plate, ((sortH l).filter (fun h => h.street == ((2 : Nat) : Int))).map House.plate] := by simp [laid, List.range_succ]
  rw [he]
  clear he hst
  generalize sortH l = L at *
  have hlb := fun i s => bkt_len L i s
  have z0 : bkt L 0 0 = [] := rfl
  have z1 : bkt L 0 1 = [] := rfl
  have z2 : bkt L 0 2 = [] := rfl
  refine spec_body Tryz.func127 rfl (fun E hE => ?_); simp only [go_sem, Tryz.ntmps127]
  repeat' (first | (with_reducible (show runOps ..); first | (refine Qr rfl ?_; try intro K' hK; try simp only [go_sem, *])) | (with_reducible (show Hold ..); first | refine Qh rfl ?_ | refine s_draw rfl Tryz.mixed (by kernel_rfl) ?_ | (refine s_cond rfl ⟨_, rfl, fun hb => ?_, fun hb => ?_⟩ <;> (have hc := hb; try simp only [go_sem] at hc)) | refine s_ret rfl ?_) | (with_reducible (show callA ..); first | (refine call_s (ss) ?_ ?_; (focus (simp only [go_sem, *]; done)); simp only [go_sem, *])) | ((with_reducible refine Qb ?_ ?_); focus kernel_rfl) | ((with_reducible refine And.intro ?_ ?_); focus omega) | (refine contA_of hK ?_; clear hK K'; simp only [go_sem, *]) | (simp only [thenA, inBlockA, go_sem, *]))
  refine s_loop rfl (fun zn zN zenv zAs => ∃ (i : Nat), zn = (L.length) - i ∧ i ≤ (L.length) ∧ (NoP i) ∧ zN = 43 ∧ zenv = [(6, iV i), (5, .ptr 1 0), (4, .ptr 0 0), (0, .list (L.map House.enc))] ∧ zAs = [.box [nilV], .box [.own 2 1 0 3], .box [.own 3 2 0 (bkt L i 0).length, .own 4 2 0 (bkt L i 1).length, .own 5 2 0 (bkt L i 2).length], .row 2 ((bkt L i 0).map Plate.enc), .row 2 ((bkt L i 1).map Plate.enc), .row 2 ((bkt L i 2).map Plate.enc)]) (L.length) ⟨[some 0, some 2, some 1, none, none, none], [], _, _, _, (by (simp only [Weak, go_sem, List.map_append, List.map_set, *] <;> (try simp (disch := omega) only [wrap_succ]) <;> (try simp) <;> (try omega))), 0, (by simp), (by simp), (by trivial), rfl, rfl, rfl⟩ ?_; rintro _ _ _ _ ⟨i, rfl, hi, hP, rfl, rfl, rfl⟩
  have hb0 := hlb i 0
  have hb1 := hlb i 1
  have hb2 := hlb i 2
  clear hlb z0 z1 z2
  by_cases hi2 : i < L.length
  · have hz := hsm _ (getD_mem hi2)
    rcases (by omega : (L.getD i default).street = 0 ∨ (L.getD i default).street = 1 ∨ (L.getD i default).street = 2) with hs0 | hs0 | hs0
    · have e0 := bkt_in (s := 0) hi2 (by rw [hs0]; rfl)
      have e1 := bkt_out (s := 1) hi2 (by rw [hs0]; decide)
      have e2 := bkt_out (s := 2) hi2 (by rw [hs0]; decide)
      repeat' (first | (with_reducible (show runOps ..); first | (refine Qr rfl ?_; try intro K' hK; try simp only [go_sem, *])) | (with_reducible (show Hold ..); first | refine Qh rfl ?_ | refine s_draw rfl Tryz.mixed (by kernel_rfl) ?_ | (refine s_cond rfl ⟨_, rfl, fun hb => ?_, fun hb => ?_⟩ <;> (have hc := hb; try simp only [go_sem] at hc)) | refine s_ret rfl ?_) | (with_reducible (show (∀ _ : AV, _ → _) ∧ _); refine And.intro ?_ ?_; (focus (intro y hy; first | (obtain ⟨z, _, rfl⟩ := List.mem_map.1 (hy); simp [go_sem]; done) | (obtain ⟨z, _, rfl⟩ := List.mem_map.1 (List.mem_of_mem_take hy); simp [go_sem]; done) | (obtain ⟨z, _, rfl⟩ := List.mem_map.1 (List.mem_of_mem_drop hy); simp [go_sem]; done) | (obtain ⟨z, _, rfl⟩ := List.mem_map.1 (List.mem_of_mem_drop (List.mem_of_mem_take hy)); simp [go_sem]; done)))) | ((with_reducible refine Qb ?_ ?_); focus kernel_rfl) | ((with_reducible refine And.intro ?_ ?_); focus omega) | (refine contA_of hK ?_; clear hK K'; simp only [go_sem, *]) | (simp only [thenA, inBlockA, go_sem, *]))
      all_goals first | contradiction | skip
      refine ⟨_, (by omega), [some 0, some 1, some 2, some 7, some 4, some 5], [], _, _, _, (by (simp only [Weak, go_sem, List.map_append, List.map_set, *] <;> (try simp (disch := omega) only [wrap_succ]) <;> (try simp) <;> (try omega))), i + 1, rfl, (by omega), (by trivial), rfl, rfl, rfl⟩
    · have e0 := bkt_out (s := 0) hi2 (by rw [hs0]; decide)
      have e1 := bkt_in (s := 1) hi2 (by rw [hs0]; rfl)
      have e2 := bkt_out (s := 2) hi2 (by rw [hs0]; decide)
      repeat' (first | (with_reducible (show runOps ..); first | (refine Qr rfl ?_; try intro K' hK; try simp only [go_sem, *])) | (with_reducible (show Hold ..); first | refine Qh rfl ?_ | refine s_draw rfl Tryz.mixed (by kernel_rfl) ?_ | (refine s_cond rfl ⟨_, rfl, fun hb => ?_, fun hb => ?_⟩ <;> (have hc := hb; try simp only [go_sem] at hc)) | refine s_ret rfl ?_) | (with_reducible (show (∀ _ : AV, _ → _) ∧ _); refine And.intro ?_ ?_; (focus (intro y hy; first | (obtain ⟨z, _, rfl⟩ := List.mem_map.1 (hy); simp [go_sem]; done) | (obtain ⟨z, _, rfl⟩ := List.mem_map.1 (List.mem_of_mem_take hy); simp [go_sem]; done) | (obtain ⟨z, _, rfl⟩ := List.mem_map.1 (List.mem_of_mem_drop hy); simp [go_sem]; done) | (obtain ⟨z, _, rfl⟩ := List.mem_map.1 (List.mem_of_mem_drop (List.mem_of_mem_take hy)); simp [go_sem]; done)))) | ((with_reducible refine Qb ?_ ?_); focus kernel_rfl) | ((with_reducible refine And.intro ?_ ?_); focus omega) | (refine contA_of hK ?_; clear hK K'; simp only [go_sem, *]) | (simp only [thenA, inBlockA, go_sem, *]))
      all_goals first | contradiction | skip
      refine ⟨_, (by omega), [some 0, some 1, some 2, some 3, some 7, some 5], [], _, _, _, (by (simp only [Weak, go_sem, List.map_append, List.map_set, *] <;> (try simp (disch := omega) only [wrap_succ]) <;> (try simp) <;> (try omega))), i + 1, rfl, (by omega), (by trivial), rfl, rfl, rfl⟩
    · have e0 := bkt_out (s := 0) hi2 (by rw [hs0]; decide)
      have e1 := bkt_out (s := 1) hi2 (by rw [hs0]; decide)
      have e2 := bkt_in (s := 2) hi2 (by rw [hs0]; rfl)
      repeat' (first | (with_reducible (show runOps ..); first | (refine Qr rfl ?_; try intro K' hK; try simp only [go_sem, *])) | (with_reducible (show Hold ..); first | refine Qh rfl ?_ | refine s_draw rfl Tryz.mixed (by kernel_rfl) ?_ | (refine s_cond rfl ⟨_, rfl, fun hb => ?_, fun hb => ?_⟩ <;> (have hc := hb; try simp only [go_sem] at hc)) | refine s_ret rfl ?_) | (with_reducible (show (∀ _ : AV, _ → _) ∧ _); refine And.intro ?_ ?_; (focus (intro y hy; first | (obtain ⟨z, _, rfl⟩ := List.mem_map.1 (hy); simp [go_sem]; done) | (obtain ⟨z, _, rfl⟩ := List.mem_map.1 (List.mem_of_mem_take hy); simp [go_sem]; done) | (obtain ⟨z, _, rfl⟩ := List.mem_map.1 (List.mem_of_mem_drop hy); simp [go_sem]; done) | (obtain ⟨z, _, rfl⟩ := List.mem_map.1 (List.mem_of_mem_drop (List.mem_of_mem_take hy)); simp [go_sem]; done)))) | ((with_reducible refine Qb ?_ ?_); focus kernel_rfl) | ((with_reducible refine And.intro ?_ ?_); focus omega) | (refine contA_of hK ?_; clear hK K'; simp only [go_sem, *]) | (simp only [thenA, inBlockA, go_sem, *]))
      all_goals first | contradiction | skip
      refine ⟨_, (by omega), [some 0, some 1, some 2, some 3, some 4, some 7], [], _, _, _, (by (simp only [Weak, go_sem, List.map_append, List.map_set, *] <;> (try simp (disch := omega) only [wrap_succ]) <;> (try simp) <;> (try omega))), i + 1, rfl, (by omega), (by trivial), rfl, rfl, rfl⟩
  · have e0 := bkt_end (L := L) (i := i) (s := 0) (by omega)
    have e1 := bkt_end (L := L) (i := i) (s := 1) (by omega)
    have e2 := bkt_end (L := L) (i := i) (s := 2) (by omega)
    repeat' (first | (with_reducible (show runOps ..); first | (refine Qr rfl ?_; try intro K' hK; try simp only [go_sem, *])) | (with_reducible (show Hold ..); first | refine Qh rfl ?_ | refine s_draw rfl Tryz.mixed (by kernel_rfl) ?_ | (refine s_cond rfl ⟨_, rfl, fun hb => ?_, fun hb => ?_⟩ <;> (have hc := hb; try simp only [go_sem] at hc)) | refine s_ret rfl ?_) | ((with_reducible refine Qb ?_ ?_); focus kernel_rfl) | ((with_reducible refine And.intro ?_ ?_); focus omega) | (refine contA_of hK ?_; clear hK K'; simp only [go_sem, *]) | (simp only [thenA, inBlockA, go_sem, *]))
    refine ⟨[.agg [.own 2 1 0 3]], [], [2, 3, 4, 5], ⟨by simp only [resOne, go_sem], trivial⟩, ?_⟩
    simp only [go_sem, *]
    try simp [List.take_of_length_le]
end Go.Abs

namespace Go.Abs
open Go Go.Proofs
set_option maxRecDepth 10000
set_option maxHeartbeats 4000000
theorem named_kind (p : Plan) (c : Change) (hp : p.length ≤ 4294967296) (h1 : betw c.kind 1 7 = false) : Spec Tryz.prog 132 [encPlan p, c.enc] [] (.tup [iV 8, .agg [iV c.kind, iV c.street, iV 0, iV 0, iV 0, iV 0, iV 0]]) [] := by
  have hw : IntKind.i64.wrap ((p.length : Int) - 1) = (p.length : Int) - 1 := wrap_i64 (by omega) (by omega)
  have s1 := sp_within c.kind 1 7
  rw [h1] at s1
  refine spec_body Tryz.func132 rfl (fun E hE => ?_); simp only [go_sem, Tryz.ntmps132]
  repeat' (first | (with_reducible (show runOps ..); first | (refine Qr rfl ?_; try intro K' hK; try simp only [go_sem, *])) | (with_reducible (show Hold ..); first | refine Qh rfl ?_ | refine s_draw rfl Tryz.mixed (by kernel_rfl) ?_ | (refine s_cond rfl ⟨_, rfl, fun hb => ?_, fun hb => ?_⟩ <;> (have hc := hb; try simp only [go_sem] at hc)) | refine s_ret rfl ?_) | (with_reducible (show callA ..); first | (refine call_s (s1) ?_ ?_; (focus (simp only [go_sem, *]; done)); simp only [go_sem, *])) | ((with_reducible refine Qb ?_ ?_); focus kernel_rfl) | ((with_reducible refine And.intro ?_ ?_); focus omega) | (refine contA_of hK ?_; clear hK K'; simp only [go_sem, *]) | (simp only [thenA, inBlockA, go_sem, *]))
  all_goals first | contradiction | skip
  refine ⟨[iV 8, .agg [iV c.kind, iV c.street, iV 0, iV 0, iV 0, iV 0, iV 0]], [], [], ⟨rfl, by simp only [resOne, go_sem], trivial⟩, ?_⟩
  simp only [go_sem, *]
theorem named_street (p : Plan) (c : Change) (hp : p.length ≤ 4294967296) (h1 : betw c.kind 1 7 = true) (h2 : betw c.street 0 ((p.length : Int) - 1) = false) : Spec Tryz.prog 132 [encPlan p, c.enc] [] (.tup [iV 3, .agg [iV c.kind, iV c.street, iV 0, iV 0, iV 0, iV 0, iV 0]]) [] := by
  have hw : IntKind.i64.wrap ((p.length : Int) - 1) = (p.length : Int) - 1 := wrap_i64 (by omega) (by omega)
  have s1 := sp_within c.kind 1 7
  rw [h1] at s1
  have s2 := sp_within c.street 0 ((p.length : Int) - 1)
  rw [h2] at s2
  refine spec_body Tryz.func132 rfl (fun E hE => ?_); simp only [go_sem, Tryz.ntmps132]
  repeat' (first | (with_reducible (show runOps ..); first | (refine Qr rfl ?_; try intro K' hK; try simp only [go_sem, *])) | (with_reducible (show Hold ..); first | refine Qh rfl ?_ | refine s_draw rfl Tryz.mixed (by kernel_rfl) ?_ | (refine s_cond rfl ⟨_, rfl, fun hb => ?_, fun hb => ?_⟩ <;> (have hc := hb; try simp only [go_sem] at hc)) | refine s_ret rfl ?_) | (with_reducible (show callA ..); first | ((first | refine call_s (s1) ?_ ?_ | refine call_s (s2) ?_ ?_); (focus (simp only [go_sem, *]; done)); simp only [go_sem, *])) | ((with_reducible refine Qb ?_ ?_); focus kernel_rfl) | ((with_reducible refine And.intro ?_ ?_); focus omega) | (refine contA_of hK ?_; clear hK K'; simp only [go_sem, *]) | (simp only [thenA, inBlockA, go_sem, *]))
  all_goals first | contradiction | skip
  refine ⟨[iV 3, .agg [iV c.kind, iV c.street, iV 0, iV 0, iV 0, iV 0, iV 0]], [], [], ⟨rfl, by simp only [resOne, go_sem], trivial⟩, ?_⟩
  simp only [go_sem, *]
theorem named_out4 (p : Plan) (c : Change) (hp : p.length ≤ 4294967296) (h1 : betw c.kind 1 7 = true) (h2 : betw c.street 0 ((p.length : Int) - 1) = true) (k4 : (c.kind == 4) = true) (k5 : (c.kind == 5) = false) (k6 : (c.kind == 6) = false) (k7 : (c.kind == 7) = false) (h3 : betw c.other 0 ((p.length : Int) - 1) = false) : Spec Tryz.prog 132 [encPlan p, c.enc] [] (.tup [iV 3, .agg [iV c.kind, iV c.street, iV c.other, iV 0, iV 0, iV 0, iV 0]]) [] := by
  have hw : IntKind.i64.wrap ((p.length : Int) - 1) = (p.length : Int) - 1 := wrap_i64 (by omega) (by omega)
  have s1 := sp_within c.kind 1 7
  rw [h1] at s1
  have s2 := sp_within c.street 0 ((p.length : Int) - 1)
  rw [h2] at s2
  have s3 := sp_within c.other 0 ((p.length : Int) - 1)
  rw [h3] at s3
  refine spec_body Tryz.func132 rfl (fun E hE => ?_); simp only [go_sem, Tryz.ntmps132]
  repeat' (first | (with_reducible (show runOps ..); first | (refine Qr rfl ?_; try intro K' hK; try simp only [go_sem, *])) | (with_reducible (show Hold ..); first | refine Qh rfl ?_ | refine s_draw rfl Tryz.mixed (by kernel_rfl) ?_ | (refine s_cond rfl ⟨_, rfl, fun hb => ?_, fun hb => ?_⟩ <;> (have hc := hb; try simp only [go_sem] at hc)) | refine s_ret rfl ?_) | (with_reducible (show callA ..); first | ((first | refine call_s (s1) ?_ ?_ | refine call_s (s2) ?_ ?_ | refine call_s (s3) ?_ ?_); (focus (simp only [go_sem, *]; done)); simp only [go_sem, *])) | ((with_reducible refine Qb ?_ ?_); focus kernel_rfl) | ((with_reducible refine And.intro ?_ ?_); focus omega) | (refine contA_of hK ?_; clear hK K'; simp only [go_sem, *]) | (simp only [thenA, inBlockA, go_sem, *]))
  all_goals first | contradiction | skip
  refine ⟨[iV 3, .agg [iV c.kind, iV c.street, iV c.other, iV 0, iV 0, iV 0, iV 0]], [], [], ⟨rfl, by simp only [resOne, go_sem], trivial⟩, ?_⟩
  simp only [go_sem, *]
theorem named_same4 (p : Plan) (c : Change) (hp : p.length ≤ 4294967296) (h1 : betw c.kind 1 7 = true) (h2 : betw c.street 0 ((p.length : Int) - 1) = true) (k4 : (c.kind == 4) = true) (k5 : (c.kind == 5) = false) (k6 : (c.kind == 6) = false) (k7 : (c.kind == 7) = false) (h3 : betw c.other 0 ((p.length : Int) - 1) = true) (h4 : (c.other == c.street) = true) : Spec Tryz.prog 132 [encPlan p, c.enc] [] (.tup [iV 4, .agg [iV c.kind, iV c.street, iV c.other, iV 0, iV 0, iV 0, iV 0]]) [] := by
  have hw : IntKind.i64.wrap ((p.length : Int) - 1) = (p.length : Int) - 1 := wrap_i64 (by omega) (by omega)
  have s1 := sp_within c.kind 1 7
  rw [h1] at s1
  have s2 := sp_within c.street 0 ((p.length : Int) - 1)
  rw [h2] at s2
  have s3 := sp_within c.other 0 ((p.length : Int) - 1)
  rw [h3] at s3
  refine spec_body Tryz.func132 rfl (fun E hE => ?_); simp only [go_sem, Tryz.ntmps132]
  repeat' (first | (with_reducible (show runOps ..); first | (refine Qr rfl ?_; try intro K' hK; try simp only [go_sem, *])) | (with_reducible (show Hold ..); first | refine Qh rfl ?_ | refine s_draw rfl Tryz.mixed (by kernel_rfl) ?_ | (refine s_cond rfl ⟨_, rfl, fun hb => ?_, fun hb => ?_⟩ <;> (have hc := hb; try simp only [go_sem] at hc)) | refine s_ret rfl ?_) | (with_reducible (show callA ..); first | ((first | refine call_s (s1) ?_ ?_ | refine call_s (s2) ?_ ?_ | refine call_s (s3) ?_ ?_); (focus (simp only [go_sem, *]; done)); simp only [go_sem, *])) | ((with_reducible refine Qb ?_ ?_); focus kernel_rfl) | ((with_reducible refine And.intro ?_ ?_); focus omega) | (refine contA_of hK ?_; clear hK K'; simp only [go_sem, *]) | (simp only [thenA, inBlockA, go_sem, *]))
  all_goals first | contradiction | skip
  refine ⟨[iV 4, .agg [iV c.kind, iV c.street, iV c.other, iV 0, iV 0, iV 0, iV 0]], [], [], ⟨rfl, by simp only [resOne, go_sem], trivial⟩, ?_⟩
  simp only [go_sem, *]
theorem named_out7 (p : Plan) (c : Change) (hp : p.length ≤ 4294967296) (h1 : betw c.kind 1 7 = true) (h2 : betw c.street 0 ((p.length : Int) - 1) = true) (k4 : (c.kind == 4) = false) (k5 : (c.kind == 5) = false) (k6 : (c.kind == 6) = false) (k7 : (c.kind == 7) = true) (h3 : betw c.other 0 ((p.length : Int) - 1) = false) : Spec Tryz.prog 132 [encPlan p, c.enc] [] (.tup [iV 3, .agg [iV c.kind, iV c.street, iV c.other, iV 0, iV 0, iV 0, iV 0]]) [] := by
  have hw : IntKind.i64.wrap ((p.length : Int) - 1) = (p.length : Int) - 1 := wrap_i64 (by omega) (by omega)
  have s1 := sp_within c.kind 1 7
  rw [h1] at s1
  have s2 := sp_within c.street 0 ((p.length : Int) - 1)
  rw [h2] at s2
  have s3 := sp_within c.other 0 ((p.length : Int) - 1)
  rw [h3] at s3
  refine spec_body Tryz.func132 rfl (fun E hE => ?_); simp only [go_sem, Tryz.ntmps132]
  repeat' (first | (with_reducible (show runOps ..); first | (refine Qr rfl ?_; try intro K' hK; try simp only [go_sem, *])) | (with_reducible (show Hold ..); first | refine Qh rfl ?_ | refine s_draw rfl Tryz.mixed (by kernel_rfl) ?_ | (refine s_cond rfl ⟨_, rfl, fun hb => ?_, fun hb => ?_⟩ <;> (have hc := hb; try simp only [go_sem] at hc)) | refine s_ret rfl ?_) | (with_reducible (show callA ..); first | ((first | refine call_s (s1) ?_ ?_ | refine call_s (s2) ?_ ?_ | refine call_s (s3) ?_ ?_); (focus (simp only [go_sem, *]; done)); simp only [go_sem, *])) | ((with_reducible refine Qb ?_ ?_); focus kernel_rfl) | ((with_reducible refine And.intro ?_ ?_); focus omega) | (refine contA_of hK ?_; clear hK K'; simp only [go_sem, *]) | (simp only [thenA, inBlockA, go_sem, *]))
  all_goals first | contradiction | skip
  refine ⟨[iV 3, .agg [iV c.kind, iV c.street, iV c.other, iV 0, iV 0, iV 0, iV 0]], [], [], ⟨rfl, by simp only [resOne, go_sem], trivial⟩, ?_⟩
  simp only [go_sem, *]
theorem named_same7 (p : Plan) (c : Change) (hp : p.length ≤ 4294967296) (h1 : betw c.kind 1 7 = true) (h2 : betw c.street 0 ((p.length : Int) - 1) = true) (k4 : (c.kind == 4) = false) (k5 : (c.kind == 5) = false) (k6 : (c.kind == 6) = false) (k7 : (c.kind == 7) = true) (h3 : betw c.other 0 ((p.length : Int) - 1) = true) (h4 : (c.other == c.street) = true) : Spec Tryz.prog 132 [encPlan p, c.enc] [] (.tup [iV 4, .agg [iV c.kind, iV c.street, iV c.other, iV 0, iV 0, iV 0, iV 0]]) [] := by
  have hw : IntKind.i64.wrap ((p.length : Int) - 1) = (p.length : Int) - 1 := wrap_i64 (by omega) (by omega)
  have s1 := sp_within c.kind 1 7
  rw [h1] at s1
  have s2 := sp_within c.street 0 ((p.length : Int) - 1)
  rw [h2] at s2
  have s3 := sp_within c.other 0 ((p.length : Int) - 1)
  rw [h3] at s3
  refine spec_body Tryz.func132 rfl (fun E hE => ?_); simp only [go_sem, Tryz.ntmps132]
  repeat' (first | (with_reducible (show runOps ..); first | (refine Qr rfl ?_; try intro K' hK; try simp only [go_sem, *])) | (with_reducible (show Hold ..); first | refine Qh rfl ?_ | refine s_draw rfl Tryz.mixed (by kernel_rfl) ?_ | (refine s_cond rfl ⟨_, rfl, fun hb => ?_, fun hb => ?_⟩ <;> (have hc := hb; try simp only [go_sem] at hc)) | refine s_ret rfl ?_) | (with_reducible (show callA ..); first | ((first | refine call_s (s1) ?_ ?_ | refine call_s (s2) ?_ ?_ | refine call_s (s3) ?_ ?_); (focus (simp only [go_sem, *]; done)); simp only [go_sem, *])) | ((with_reducible refine Qb ?_ ?_); focus kernel_rfl) | ((with_reducible refine And.intro ?_ ?_); focus omega) | (refine contA_of hK ?_; clear hK K'; simp only [go_sem, *]) | (simp only [thenA, inBlockA, go_sem, *]))
  all_goals first | contradiction | skip
  refine ⟨[iV 4, .agg [iV c.kind, iV c.street, iV c.other, iV 0, iV 0, iV 0, iV 0]], [], [], ⟨rfl, by simp only [resOne, go_sem], trivial⟩, ?_⟩
  simp only [go_sem, *]
theorem named_ok4 (p : Plan) (c : Change) (hp : p.length ≤ 4294967296) (h1 : betw c.kind 1 7 = true) (h2 : betw c.street 0 ((p.length : Int) - 1) = true) (k4 : (c.kind == 4) = true) (k5 : (c.kind == 5) = false) (k6 : (c.kind == 6) = false) (k7 : (c.kind == 7) = false) (h3 : betw c.other 0 ((p.length : Int) - 1) = true) (h4 : (c.other == c.street) = false) : Spec Tryz.prog 132 [encPlan p, c.enc] [] (.tup [iV 0, .agg [iV c.kind, iV c.street, iV c.other, iV 0, iV 0, iV 0, iV 0]]) [] := by
  have hw : IntKind.i64.wrap ((p.length : Int) - 1) = (p.length : Int) - 1 := wrap_i64 (by omega) (by omega)
  have s1 := sp_within c.kind 1 7
  rw [h1] at s1
  have s2 := sp_within c.street 0 ((p.length : Int) - 1)
  rw [h2] at s2
  have s3 := sp_within c.other 0 ((p.length : Int) - 1)
  rw [h3] at s3
  refine spec_body Tryz.func132 rfl (fun E hE => ?_); simp only [go_sem, Tryz.ntmps132]
  repeat' (first | (with_reducible (show runOps ..); first | (refine Qr rfl ?_; try intro K' hK; try simp only [go_sem, *])) | (with_reducible (show Hold ..); first | refine Qh rfl ?_ | refine s_draw rfl Tryz.mixed (by kernel_rfl) ?_ | (refine s_cond rfl ⟨_, rfl, fun hb => ?_, fun hb => ?_⟩ <;> (have hc := hb; try simp only [go_sem] at hc)) | refine s_ret rfl ?_) | (with_reducible (show callA ..); first | ((first | refine call_s (s1) ?_ ?_ | refine call_s (s2) ?_ ?_ | refine call_s (s3) ?_ ?_); (focus (simp only [go_sem, *]; done)); simp only [go_sem, *])) | ((with_reducible refine Qb ?_ ?_); focus kernel_rfl) | ((with_reducible refine And.intro ?_ ?_); focus omega) | (refine contA_of hK ?_; clear hK K'; simp only [go_sem, *]) | (simp only [thenA, inBlockA, go_sem, *]))
  all_goals first | contradiction | skip
  refine ⟨[iV 0, .agg [iV c.kind, iV c.street, iV c.other, iV 0, iV 0, iV 0, iV 0]], [], [], ⟨rfl, by simp only [resOne, go_sem], trivial⟩, ?_⟩
  simp only [go_sem, *]
theorem named_ok7 (p : Plan) (c : Change) (hp : p.length ≤ 4294967296) (h1 : betw c.kind 1 7 = true) (h2 : betw c.street 0 ((p.length : Int) - 1) = true) (k4 : (c.kind == 4) = false) (k5 : (c.kind == 5) = false) (k6 : (c.kind == 6) = false) (k7 : (c.kind == 7) = true) (h3 : betw c.other 0 ((p.length : Int) - 1) = true) (h4 : (c.other == c.street) = false) : Spec Tryz.prog 132 [encPlan p, c.enc] [] (.tup [iV 0, .agg [iV c.kind, iV c.street, iV c.other, iV c.src.number, iV c.src.letter, iV c.dst.number, iV c.dst.letter]]) [] := by
  have hw : IntKind.i64.wrap ((p.length : Int) - 1) = (p.length : Int) - 1 := wrap_i64 (by omega) (by omega)
  have s1 := sp_within c.kind 1 7
  rw [h1] at s1
  have s2 := sp_within c.street 0 ((p.length : Int) - 1)
  rw [h2] at s2
  have s3 := sp_within c.other 0 ((p.length : Int) - 1)
  rw [h3] at s3
  refine spec_body Tryz.func132 rfl (fun E hE => ?_); simp only [go_sem, Tryz.ntmps132]
  repeat' (first | (with_reducible (show runOps ..); first | (refine Qr rfl ?_; try intro K' hK; try simp only [go_sem, *])) | (with_reducible (show Hold ..); first | refine Qh rfl ?_ | refine s_draw rfl Tryz.mixed (by kernel_rfl) ?_ | (refine s_cond rfl ⟨_, rfl, fun hb => ?_, fun hb => ?_⟩ <;> (have hc := hb; try simp only [go_sem] at hc)) | refine s_ret rfl ?_) | (with_reducible (show callA ..); first | ((first | refine call_s (s1) ?_ ?_ | refine call_s (s2) ?_ ?_ | refine call_s (s3) ?_ ?_); (focus (simp only [go_sem, *]; done)); simp only [go_sem, *])) | ((with_reducible refine Qb ?_ ?_); focus kernel_rfl) | ((with_reducible refine And.intro ?_ ?_); focus omega) | (refine contA_of hK ?_; clear hK K'; simp only [go_sem, *]) | (simp only [thenA, inBlockA, go_sem, *]))
  all_goals first | contradiction | skip
  refine ⟨[iV 0, .agg [iV c.kind, iV c.street, iV c.other, iV c.src.number, iV c.src.letter, iV c.dst.number, iV c.dst.letter]], [], [], ⟨rfl, by simp only [resOne, go_sem], trivial⟩, ?_⟩
  simp only [go_sem, *]
theorem named_ok5 (p : Plan) (c : Change) (hp : p.length ≤ 4294967296) (h1 : betw c.kind 1 7 = true) (h2 : betw c.street 0 ((p.length : Int) - 1) = true) (k4 : (c.kind == 4) = false) (k5 : (c.kind == 5) = true) (k6 : (c.kind == 6) = false) (k7 : (c.kind == 7) = false) : Spec Tryz.prog 132 [encPlan p, c.enc] [] (.tup [iV 0, .agg [iV c.kind, iV c.street, iV 0, iV c.src.number, iV c.src.letter, iV 0, iV 0]]) [] := by
  have hw : IntKind.i64.wrap ((p.length : Int) - 1) = (p.length : Int) - 1 := wrap_i64 (by omega) (by omega)
  have s1 := sp_within c.kind 1 7
  rw [h1] at s1
  have s2 := sp_within c.street 0 ((p.length : Int) - 1)
  rw [h2] at s2
  refine spec_body Tryz.func132 rfl (fun E hE => ?_); simp only [go_sem, Tryz.ntmps132]
  repeat' (first | (with_reducible (show runOps ..); first | (refine Qr rfl ?_; try intro K' hK; try simp only [go_sem, *])) | (with_reducible (show Hold ..); first | refine Qh rfl ?_ | refine s_draw rfl Tryz.mixed (by kernel_rfl) ?_ | (refine s_cond rfl ⟨_, rfl, fun hb => ?_, fun hb => ?_⟩ <;> (have hc := hb; try simp only [go_sem] at hc)) | refine s_ret rfl ?_) | (with_reducible (show callA ..); first | ((first | refine call_s (s1) ?_ ?_ | refine call_s (s2) ?_ ?_); (focus (simp only [go_sem, *]; done)); simp only [go_sem, *])) | ((with_reducible refine Qb ?_ ?_); focus kernel_rfl) | ((with_reducible refine And.intro ?_ ?_); focus omega) | (refine contA_of hK ?_; clear hK K'; simp only [go_sem, *]) | (simp only [thenA, inBlockA, go_sem, *]))
  all_goals first | contradiction | skip
  refine ⟨[iV 0, .agg [iV c.kind, iV c.street, iV 0, iV c.src.number, iV c.src.letter, iV 0, iV 0]], [], [], ⟨rfl, by simp only [resOne, go_sem], trivial⟩, ?_⟩
  simp only [go_sem, *]
theorem named_ok6 (p : Plan) (c : Change) (hp : p.length ≤ 4294967296) (h1 : betw c.kind 1 7 = true) (h2 : betw c.street 0 ((p.length : Int) - 1) = true) (k4 : (c.kind == 4) = false) (k5 : (c.kind == 5) = false) (k6 : (c.kind == 6) = true) (k7 : (c.kind == 7) = false) : Spec Tryz.prog 132 [encPlan p, c.enc] [] (.tup [iV 0, .agg [iV c.kind, iV c.street, iV 0, iV c.src.number, iV c.src.letter, iV 0, iV 0]]) [] := by
  have hw : IntKind.i64.wrap ((p.length : Int) - 1) = (p.length : Int) - 1 := wrap_i64 (by omega) (by omega)
  have s1 := sp_within c.kind 1 7
  rw [h1] at s1
  have s2 := sp_within c.street 0 ((p.length : Int) - 1)
  rw [h2] at s2
  refine spec_body Tryz.func132 rfl (fun E hE => ?_); simp only [go_sem, Tryz.ntmps132]
  repeat' (first | (with_reducible (show runOps ..); first | (refine Qr rfl ?_; try intro K' hK; try simp only [go_sem, *])) | (with_reducible (show Hold ..); first | refine Qh rfl ?_ | refine s_draw rfl Tryz.mixed (by kernel_rfl) ?_ | (refine s_cond rfl ⟨_, rfl, fun hb => ?_, fun hb => ?_⟩ <;> (have hc := hb; try simp only [go_sem] at hc)) | refine s_ret rfl ?_) | (with_reducible (show callA ..); first | ((first | refine call_s (s1) ?_ ?_ | refine call_s (s2) ?_ ?_); (focus (simp only [go_sem, *]; done)); simp only [go_sem, *])) | ((with_reducible refine Qb ?_ ?_); focus kernel_rfl) | ((with_reducible refine And.intro ?_ ?_); focus omega) | (refine contA_of hK ?_; clear hK K'; simp only [go_sem, *]) | (simp only [thenA, inBlockA, go_sem, *]))
  all_goals first | contradiction | skip
  refine ⟨[iV 0, .agg [iV c.kind, iV c.street, iV 0, iV c.src.number, iV c.src.letter, iV 0, iV 0]], [], [], ⟨rfl, by simp only [resOne, go_sem], trivial⟩, ?_⟩
  simp only [go_sem, *]
theorem named_ok (p : Plan) (c : Change) (hp : p.length ≤ 4294967296) (h1 : betw c.kind 1 7 = true) (h2 : betw c.street 0 ((p.length : Int) - 1) = true) (k4 : (c.kind == 4) = false) (k5 : (c.kind == 5) = false) (k6 : (c.kind == 6) = false) (k7 : (c.kind == 7) = false) : Spec Tryz.prog 132 [encPlan p, c.enc] [] (.tup [iV 0, .agg [iV c.kind, iV c.street, iV 0, iV 0, iV 0, iV 0, iV 0]]) [] := by
  have hw : IntKind.i64.wrap ((p.length : Int) - 1) = (p.length : Int) - 1 := wrap_i64 (by omega) (by omega)
  have s1 := sp_within c.kind 1 7
  rw [h1] at s1
  have s2 := sp_within c.street 0 ((p.length : Int) - 1)
  rw [h2] at s2
  refine spec_body Tryz.func132 rfl (fun E hE => ?_); simp only [go_sem, Tryz.ntmps132]
  repeat' (first | (with_reducible (show runOps ..); first | (refine Qr rfl ?_; try intro K' hK; try simp only [go_sem, *])) | (with_reducible (show Hold ..); first | refine Qh rfl ?_ | refine s_draw rfl Tryz.mixed (by kernel_rfl) ?_ | (refine s_cond rfl ⟨_, rfl, fun hb => ?_, fun hb => ?_⟩ <;> (have hc := hb; try simp only [go_sem] at hc)) | refine s_ret rfl ?_) | (with_reducible (show callA ..); first | ((first | refine call_s (s1) ?_ ?_ | refine call_s (s2) ?_ ?_); (focus (simp only [go_sem, *]; done)); simp only [go_sem, *])) | ((with_reducible refine Qb ?_ ?_); focus kernel_rfl) | ((with_reducible refine And.intro ?_ ?_); focus omega) | (refine contA_of hK ?_; clear hK K'; simp only [go_sem, *]) | (simp only [thenA, inBlockA, go_sem, *]))
  all_goals first | contradiction | skip
  refine ⟨[iV 0, .agg [iV c.kind, iV c.street, iV 0, iV 0, iV 0, iV 0, iV 0]], [], [], ⟨rfl, by simp only [resOne, go_sem], trivial⟩, ?_⟩
  simp only [go_sem, *]
def namedErr (p : Plan) (c : Change) : Int :=
  if betw c.kind 1 7 = false then 8
  else if betw c.street 0 (p.length - 1) = false then 3
  else if (c.kind = 4 ∨ c.kind = 7) ∧ betw c.other 0 (p.length - 1) = false then 3
  else if (c.kind = 4 ∨ c.kind = 7) ∧ c.other = c.street then 4 else 0
def namedX (c : Change) : Change := ⟨c.kind, c.street, if c.kind = 4 ∨ c.kind = 7 then c.other else 0, if 5 ≤ c.kind then c.src else zeroPlate, if c.kind = 7 then c.dst else zeroPlate⟩
theorem can_named (p : Plan) (c : Change) : can p c = if namedErr p c = 0 then (if c = namedX c then fitsE p c else 1) else namedErr p c := by
  unfold can namedErr
  by_cases h1 : betw c.kind 1 7 = false
  · rw [if_pos h1, if_pos h1, if_neg (by decide)]
  rw [if_neg h1, if_neg h1]
  by_cases h2 : betw c.street 0 (p.length - 1) = false
  · rw [if_pos h2, if_pos h2, if_neg (by decide)]
  rw [if_neg h2, if_neg h2]
  by_cases h3 : (c.kind = 4 ∨ c.kind = 7) ∧ betw c.other 0 (p.length - 1) = false
  · rw [if_pos h3, if_pos h3, if_neg (by decide)]
  rw [if_neg h3, if_neg h3]
  by_cases h4 : (c.kind = 4 ∨ c.kind = 7) ∧ c.other = c.street
  · rw [if_pos h4, if_pos h4, if_neg (by decide)]
  rw [if_neg h4, if_neg h4, if_pos rfl]
  by_cases h5 : (¬ (c.kind = 4 ∨ c.kind = 7) ∧ c.other ≠ 0) ∨ (¬ 5 ≤ c.kind ∧ c.src ≠ zeroPlate) ∨ (¬ c.kind = 7 ∧ c.dst ≠ zeroPlate)
  · rw [if_pos h5, if_neg]
    intro e
    rw [Change.eq_iff] at e
    obtain ⟨_, _, e1, e2, e3⟩ := e
    simp only [namedX] at e1 e2 e3
    rcases h5 with ⟨a, b⟩ | ⟨a, b⟩ | ⟨a, b⟩
    · rw [if_neg a] at e1; exact b e1
    · rw [if_neg a] at e2; exact b e2
    · rw [if_neg a] at e3; exact b e3
  · rw [if_neg h5, if_pos]
    rw [Change.eq_iff]
    refine ⟨rfl, rfl, ?_, ?_, ?_⟩
    · simp only [namedX]
      split
      · rfl
      · rename_i a; exact Classical.byContradiction fun b => h5 (.inl ⟨a, b⟩)
    · simp only [namedX]
      split
      · rfl
      · rename_i a; exact Classical.byContradiction fun b => h5 (.inr (.inl ⟨a, b⟩))
    · simp only [namedX]
      split
      · rfl
      · rename_i a; exact Classical.byContradiction fun b => h5 (.inr (.inr ⟨a, b⟩))
theorem sp_named (p : Plan) (c : Change) (hp : p.length ≤ 4294967296) : ∃ x : Change, (namedErr p c = 0 → x = namedX c) ∧ Spec Tryz.prog 132 [encPlan p, c.enc] [] (.tup [iV (namedErr p c), x.enc]) [] := by
  have bt : ∀ {b : Bool}, ¬ b = false → b = true := fun h => by simpa using h
  have nk : ∀ n : Int, ¬ c.kind = n → (c.kind == n) = false := fun n h => by rw [beq_eq_false_iff_ne]; exact h
  have yk : ∀ n : Int, c.kind = n → (c.kind == n) = true := fun n h => by rw [beq_iff_eq]; exact h
  by_cases h1 : betw c.kind 1 7 = false
  · have e : namedErr p c = 8 := by unfold namedErr; rw [if_pos h1]
    rw [e]
    exact ⟨⟨c.kind, c.street, 0, zeroPlate, zeroPlate⟩, fun h => by omega, named_kind p c hp h1⟩
  by_cases h2 : betw c.street 0 (p.length - 1) = false
  · have e : namedErr p c = 3 := by unfold namedErr; rw [if_neg h1, if_pos h2]
    rw [e]
    exact ⟨⟨c.kind, c.street, 0, zeroPlate, zeroPlate⟩, fun h => by omega, named_street p c hp (bt h1) h2⟩
  have b1 := bt h1
  have b2 := bt h2
  by_cases k47 : c.kind = 4 ∨ c.kind = 7
  · by_cases h3 : betw c.other 0 (p.length - 1) = false
    · have e : namedErr p c = 3 := by unfold namedErr; rw [if_neg h1, if_neg h2, if_pos ⟨k47, h3⟩]
      rw [e]
      refine ⟨⟨c.kind, c.street, c.other, zeroPlate, zeroPlate⟩, fun h => by omega, ?_⟩
      rcases k47 with k | k
      · exact named_out4 p c hp b1 b2 (yk 4 k) (nk 5 (by omega)) (nk 6 (by omega)) (nk 7 (by omega)) h3
      · exact named_out7 p c hp b1 b2 (nk 4 (by omega)) (nk 5 (by omega)) (nk 6 (by omega)) (yk 7 k) h3
    · have b3 := bt h3
      by_cases h4 : c.other = c.street
      · have e : namedErr p c = 4 := by unfold namedErr; rw [if_neg h1, if_neg h2, if_neg (fun h => h3 h.2), if_pos ⟨k47, h4⟩]
        have s4 : (c.other == c.street) = true := by rw [beq_iff_eq]; exact h4
        rw [e]
        refine ⟨⟨c.kind, c.street, c.other, zeroPlate, zeroPlate⟩, fun h => by omega, ?_⟩
        rcases k47 with k | k
        · exact named_same4 p c hp b1 b2 (yk 4 k) (nk 5 (by omega)) (nk 6 (by omega)) (nk 7 (by omega)) b3 s4
        · exact named_same7 p c hp b1 b2 (nk 4 (by omega)) (nk 5 (by omega)) (nk 6 (by omega)) (yk 7 k) b3 s4
      · have e : namedErr p c = 0 := by unfold namedErr; rw [if_neg h1, if_neg h2, if_neg (fun h => h3 h.2), if_neg (fun h => h4 h.2)]
        have s4 : (c.other == c.street) = false := by rw [beq_eq_false_iff_ne]; exact h4
        rw [e]
        rcases k47 with k | k
        · refine ⟨⟨c.kind, c.street, c.other, zeroPlate, zeroPlate⟩, fun _ => ?_, named_ok4 p c hp b1 b2 (yk 4 k) (nk 5 (by omega)) (nk 6 (by omega)) (nk 7 (by omega)) b3 s4⟩
          unfold namedX; simp [k]
        · refine ⟨⟨c.kind, c.street, c.other, c.src, c.dst⟩, fun _ => ?_, named_ok7 p c hp b1 b2 (nk 4 (by omega)) (nk 5 (by omega)) (nk 6 (by omega)) (yk 7 k) b3 s4⟩
          unfold namedX; simp [k]
  · have e : namedErr p c = 0 := by unfold namedErr; rw [if_neg h1, if_neg h2, if_neg (fun h => k47 h.1), if_neg (fun h => k47 h.1)]
    rw [e]
    by_cases k5 : c.kind = 5
    · refine ⟨⟨c.kind, c.street, 0, c.src, zeroPlate⟩, fun _ => ?_, named_ok5 p c hp b1 b2 (nk 4 (by omega)) (yk 5 k5) (nk 6 (by omega)) (nk 7 (by omega))⟩
      unfold namedX; simp [k5]
    · by_cases k6 : c.kind = 6
      · refine ⟨⟨c.kind, c.street, 0, c.src, zeroPlate⟩, fun _ => ?_, named_ok6 p c hp b1 b2 (nk 4 (by omega)) (nk 5 k5) (yk 6 k6) (nk 7 (by omega))⟩
        unfold namedX; simp [k6]
      · have hk := betw_iff.1 b1
        refine ⟨⟨c.kind, c.street, 0, zeroPlate, zeroPlate⟩, fun _ => ?_, named_ok p c hp b1 b2 (nk 4 (by omega)) (nk 5 k5) (nk 6 k6) (nk 7 (by omega))⟩
        unfold namedX
        rw [if_neg k47, if_neg (by omega), if_neg (by omega)]
end Go.Abs

