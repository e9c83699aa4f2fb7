/-
  WHAT THE PROOF STANDS ON, PART 6: contracts of the program's functions and the logic that they are proved in. No condition.
-/
import Derived.Test.YtcbpjojhfgadlaaGreatDoorQZJ5
set_option maxRecDepth 100000
set_option maxHeartbeats 4000000
set_option linter.unusedVariables false
set_option linter.unusedSimpArgs false
set_option linter.unusedSectionVars false
namespace Go.Abs
open Go Go.Proofs Tryz
attribute [local irreducible] q8 Hold y4
attribute [go_sem] Nat.le_refl
section
variable {H : Nat → AObj} {m : List (Option Nat)} {ex : List Nat} {α : Type}
@[go_sem, simp] theorem zKZ (f : α → List AV) (l : List α) (i : Nat) (ys zs : List AV) : XpL H m ex (List.take i (List.map (fun t => AV.list (f t)) l) ++ [AV.list ys]) (List.take i (List.map (fun t => AV.list (f t)) l) ++ [AV.list zs]) ↔ ys = zs := by
 rw [N6 _ (fun z hz => by
  obtain ⟨t, _, rfl⟩ := List.mem_map.1 (List.mem_of_mem_take hz)
  simp only [XpF])]
 simp only [XpF]
@[go_sem, simp] theorem zKW (f : α → List AV) (l : List α) (ys zs : List AV) : XpL H m ex (List.map (fun t => AV.list (f t)) l ++ [AV.list ys]) (List.map (fun t => AV.list (f t)) l ++ [AV.list zs]) ↔ ys = zs := by
 rw [N6 _ (fun z hz => by
  obtain ⟨t, _, rfl⟩ := List.mem_map.1 hz
  simp only [XpF])]
 simp only [XpF]
end
theorem zIr (s : Story) (h : j5 s = 0) : zNV prog 30 [s.enc] [] (.tup [.list ((D2 s).map l6), iV 0]) [] := by
 have o := E8 h
 have hl := J6 o.steps (fun w hw => (o.ways w hw).2.1)
 have sa := zAt s h
 unfold D2
 generalize s0 s = l at *
 refine z9 func30 rfl (fun E hE => ?_); simp only [go_sem, ntmps30]
 repeat' (first | (refine Qr rfl ?_; try intro _ hK; try simp only [go_sem, *]) | refine Qh rfl ?_ | (refine Qc rfl rfl ?_ ?_ <;> (intro hb; have hc := hb; try simp only [go_sem] at hc)) | refine z6 rfl ?_ | (refine u3 (sa) ?_; simp only [go_sem, *]) | ((with_reducible apply And.intro); focus omega) | (refine z5 hK ?_; clear hK; simp only [go_sem, *]) | simp only [z3, z4, go_sem, *])
 all_goals try contradiction
 refine v5 rfl (l.length) (fun i => NoP i) 32 (fun i => [(21, iV i), (20, iV l.length), (19, .list (l.map (Truth.enc s.first))), (7, .own 0 1 0 i)]) (fun i => [.box ((l.take i).map fun t => l6 t.ways)]) [none] [] (by trivial) ?_; intro i hi hP
 by_cases hi2 : i < l.length
 ·have e := b9 (l := l) (i := i) hi2
  repeat' (first | (refine Qr rfl ?_; try intro _ hK; try simp only [go_sem, *]) | refine Qh rfl ?_ | (refine Qc rfl rfl ?_ ?_ <;> (intro hb; have hc := hb; try simp only [go_sem] at hc)) | refine z6 rfl ?_ | ((with_reducible apply And.intro); focus omega) | (refine z5 hK ?_; clear hK; simp only [go_sem, *]) | simp only [z3, z4, go_sem, *])
  exact v4 (i' := i + 1) [some 3] [] (by trivial)
 ·have e : l.take i = l := List.take_of_length_le (by omega)
  repeat' (first | (refine Qr rfl ?_; try intro _ hK; try simp only [go_sem, *]) | refine Qh rfl ?_ | (refine Qc rfl rfl ?_ ?_ <;> (intro hb; have hc := hb; try simp only [go_sem] at hc)) | refine z6 rfl ?_ | ((with_reducible apply And.intro); focus omega) | (refine z5 hK ?_; clear hK; simp only [go_sem, *]) | simp only [z3, z4, go_sem, *])
  refine ⟨[_, _], [], [0], ⟨rfl, rfl, trivial⟩, ?_⟩
  simp only [go_sem, *]
  exact ⟨by omega, fun x hx => by obtain ⟨_, _, rfl⟩ := List.mem_map.1 hx; rfl, .inl (by simp [Function.comp_def])⟩
theorem zIs (s : Story) (h : House) (he : N3 s h = 0) (hn : (S4 s h).Nodup) (h12 : (S4 s h).length ≤ 12) :
  zNV prog 35 [s.enc, h.enc] [] (.tup [.list ((zA0 s h).map House.enc), iV 0]) [] := by
 have hs : j5 s = 0 := by
  unfold N3 at he
  split at he <;> assumption
 have hh : h ∈ q6 s.first := by
  unfold N3 at he
  rw [if_pos hs] at he
  by_cases q : h ∈ q6 s.first
  ·exact q
  ·rw [if_neg q] at he; omega
 have hne : s0 s ≠ [] := by
  unfold N3 at he
  rw [if_pos hs, if_pos hh] at he
  intro e
  rw [if_pos e] at he; omega
 have o := E8 hs
 have hl := J6 o.steps (fun w hw => (o.ways w hw).2.1)
 have ht := zDc o.first
 have sa := zAt s hs
 have sc := zAn (q6 s.first) h (by have := o.first.count; omega)
 have e0 : decide (h ∈ q6 s.first) = true := by simpa using hh
 rw [e0] at sc
 have ss := zDI (S4 s h) hn h12
 have hw := o.first.wf
 have hwf := hw _ hh
 have h3 := o.steps
 have hsm : ∀ t, t ∈ s0 s → (t.now h).length ≤ 8 := fun t hm => (ht t hm).small h3 hh
 unfold zA0
 have hwl : ([] : List House) ++ ((s0 s).drop 0).flatMap (fun t => t.now h) = S4 s h := rfl
 generalize S4 s h = W at *
 generalize s0 s = l at *
 have hl0 : ((l.length : Int) == 0) = false := by
  have : 0 < l.length := List.length_pos_iff.2 hne
  simp; omega
 clear he e0 ht hne
 refine z9 func35 rfl (fun E hE => ?_); simp only [go_sem, ntmps35]
 repeat' (first | (refine Qr rfl ?_; try intro _ hK; try simp only [go_sem, *]) | refine Qh rfl ?_ | refine Qd rfl (by kernel_rfl) ?_ | (refine Qc rfl rfl ?_ ?_ <;> (intro hb; have hc := hb; try simp only [go_sem] at hc)) | refine z6 rfl ?_ | (refine Qb ?_ ?_; focus kernel_rfl) | (refine u3 (sa) ?_; simp only [go_sem, *]) | (refine z8 (sc) ?_; simp only [go_sem, *]) | ((with_reducible apply And.intro); focus omega) | (refine z5 hK ?_; clear hK; simp only [go_sem, *]) | simp only [z3, z4, go_sem, *])
 all_goals try contradiction
 refine v9 rfl (l.length) (fun i (acc : List House) => acc ++ (l.drop i).flatMap (fun t => t.now h) = W) 46 (fun i acc => [(33, iV i), (32, iV l.length), (31, .list (l.map (Truth.enc s.first))), (9, .own 1 3 0 acc.length), (3, .ptr 0 0)]) (fun i acc => [.box [iV h.street, iV h.plate.number, iV h.plate.letter], .row 3 (acc.map House.enc)]) [some 1, none] [] ([]) (by exact hwl) ?_; intro i acc hi hP
 clear hwl
 have hql := congrArg List.length hP
 simp only [List.length_append] at hql
 by_cases hi2 : i < l.length
 ·have hti := hsm _ (w5 hi2)
  rw [v3 hi2, List.flatMap_cons] at hP
  repeat' (first | (refine Qr rfl ?_; try intro _ hK; try simp only [go_sem, *]) | refine Qh rfl ?_ | refine Qd rfl (by kernel_rfl) ?_ | (refine Qc rfl rfl ?_ ?_ <;> (intro hb; have hc := hb; try simp only [go_sem] at hc)) | refine z6 rfl ?_ | (refine Qb ?_ ?_; focus kernel_rfl) | ((with_reducible apply And.intro); focus omega) | (refine z5 hK ?_; clear hK; simp only [go_sem, *]) | simp only [z3, z4, go_sem, *])
  refine W5 (h := h) (hs := q6 s.first) (F := zNY (l.getD i default).now) hw hwf ?_
  rw [if_pos hh, zNY]
  repeat' (first | (refine Qr rfl ?_; try intro _ hK; try simp only [go_sem, *]) | refine Qh rfl ?_ | refine Qd rfl (by kernel_rfl) ?_ | (refine Qc rfl rfl ?_ ?_ <;> (intro hb; have hc := hb; try simp only [go_sem] at hc)) | refine z6 rfl ?_ | (refine Qb ?_ ?_; focus kernel_rfl) | ((with_reducible apply And.intro); focus omega) | (refine z5 hK ?_; clear hK; simp only [go_sem, *]) | simp only [z3, z4, go_sem, *])
  refine ⟨fun y hy => ?_, fun y hy => ?_, by omega, ?_⟩
  ·obtain ⟨z, _, rfl⟩ := List.mem_map.1 hy
   simp [go_sem]
  ·obtain ⟨z, _, rfl⟩ := List.mem_map.1 hy
   simp [go_sem]
  ·repeat' (first | (refine Qr rfl ?_; try intro _ hK; try simp only [go_sem, *]) | refine Qh rfl ?_ | refine Qd rfl (by kernel_rfl) ?_ | (refine Qc rfl rfl ?_ ?_ <;> (intro hb; have hc := hb; try simp only [go_sem] at hc)) | refine z6 rfl ?_ | (refine Qb ?_ ?_; focus kernel_rfl) | ((with_reducible apply And.intro); focus omega) | (refine z5 hK ?_; clear hK; simp only [go_sem, *]) | simp only [z3, z4, go_sem, *])
   exact x9 (i' := i + 1) [some 0, some 3] [] (acc ++ (l.getD i default).now h) (by rw [← hP]; simp)
 ·rw [u0 (by omega), List.flatMap_nil, List.append_nil] at hP
  subst hP
  clear hql
  repeat' (first | (refine Qr rfl ?_; try intro _ hK; try simp only [go_sem, *]) | refine Qh rfl ?_ | refine Qd rfl (by kernel_rfl) ?_ | (refine Qc rfl rfl ?_ ?_ <;> (intro hb; have hc := hb; try simp only [go_sem] at hc)) | refine z6 rfl ?_ | (refine Qb ?_ ?_; focus kernel_rfl) | ((with_reducible apply And.intro); focus omega) | (refine z5 hK ?_; clear hK; simp only [go_sem, *]) | simp only [z3, z4, go_sem, *])
  (refine o3 (ss) (by simp only [go_sem, *]; done) rfl (by simp only [go_sem]; done) (by simp) (by simp) ?_; simp only [go_sem, w6, *])
  repeat' (first | (refine Qr rfl ?_; try intro _ hK; try simp only [go_sem, *]) | refine Qh rfl ?_ | refine Qd rfl (by kernel_rfl) ?_ | (refine Qc rfl rfl ?_ ?_ <;> (intro hb; have hc := hb; try simp only [go_sem] at hc)) | refine z6 rfl ?_ | (refine Qb ?_ ?_; focus kernel_rfl) | ((with_reducible apply And.intro); focus omega) | (refine z5 hK ?_; clear hK; simp only [go_sem, *]) | simp only [z3, z4, go_sem, *])
  (refine ⟨[_, _], [], [], ⟨rfl, rfl, trivial⟩, ?_⟩; simp only [go_sem, *])
  trace_state
def zOS : Option (House × Nat) → AV → Prop
 | some (h, n), R => R = .tup [h.enc, iV n, iV 0]
 | none, R => R = .tup [(⟨0, ⟨0, 0⟩⟩ : House).enc, iV 0, iV 11]
theorem zIW (s : Story) (h : j5 s = 0) (R : AV) (hR : zOS (I5 s) R) :
  zNV prog 39 [s.enc] [] R [] := by
 have o := E8 h
 have v := o.first
 have hct := v.count
 have h3 := o.steps
 have hl := J6 h3 (fun w hw => (o.ways w hw).2.1)
 have ht := zDc v
 have sa := zAt s h
 have hsm : ∀ t, t ∈ s0 s → ∀ x, x ∈ q6 s.first → (t.now x).length ≤ 1000 := fun t hm x hx => by have := (ht t hm).small h3 hx; omega
 unfold I5 U8 at hR
 generalize s0 s = l at *
 clear ht
 have hgs : ∀ x, x ∈ (q6 s.first).map (o4 l) → x ≤ 1000 := fun x hx => by
  obtain ⟨y, _, rfl⟩ := List.mem_map.1 hx
  have := zBr l y; omega
 have sl := zJG ((q6 s.first).map (o4 l)) (by simp; omega) hgs
 refine z9 func39 rfl (fun E hE => ?_); simp only [go_sem, ntmps39]
 repeat' (first | (refine Qr rfl ?_; try intro _ hK; try simp only [go_sem, *]) | (refine Qi rfl rfl rfl rfl ?_ ?_ <;> (intro hb; (try intro _ hK); have hc := hb; try simp only [go_sem] at hc; simp only [go_sem, *])) | refine Qh rfl ?_ | refine Qd rfl (by kernel_rfl) ?_ | (refine Qc rfl rfl ?_ ?_ <;> (intro hb; have hc := hb; try simp only [go_sem] at hc)) | refine z6 rfl ?_ | (refine Qb ?_ ?_; focus kernel_rfl) | (refine u3 (sa) ?_; simp only [go_sem, *]) | ((with_reducible apply And.intro); focus omega) | (refine z5 hK ?_; clear hK; simp only [go_sem, *]) | simp only [z3, z4, go_sem, *])
 all_goals try contradiction
 refine v5 rfl ((q6 s.first).length) (fun i => NoP i) 67 (fun i => [(26, iV i), (25, iV (q6 s.first).length), (24, .list ((q6 s.first).map House.enc)), (7, .own 2 1 0 i), (6, .list (l.map (Truth.enc s.first))), (5, .ptr 1 0), (2, .ptr 0 0)]) (fun i => [.box [iV 0, iV 0, iV 0], o5 s, .row 1 (((q6 s.first).take i).map fun x => iV (o4 l x : Nat))]) [some 1, some 2, none] [] (by trivial) ?_; intro i hi hP
 by_cases hi2 : i < (q6 s.first).length
 ·have e := b9 (l := q6 s.first) (i := i) hi2
  have hm := w5 hi2
  have sg := zI5 s.first l ((q6 s.first).getD i default) v hm (by omega) (fun t ht => hsm t ht _ hm)
  repeat' (first | (refine Qr rfl ?_; try intro _ hK; try simp only [go_sem, *]) | (refine Qi rfl rfl rfl rfl ?_ ?_ <;> (intro hb; (try intro _ hK); have hc := hb; try simp only [go_sem] at hc; simp only [go_sem, *])) | refine Qh rfl ?_ | refine Qd rfl (by kernel_rfl) ?_ | (refine Qc rfl rfl ?_ ?_ <;> (intro hb; have hc := hb; try simp only [go_sem] at hc)) | refine z6 rfl ?_ | (refine Qb ?_ ?_; focus kernel_rfl) | (refine z8 (sg) ?_; simp only [go_sem, *]) | ((with_reducible apply And.intro); focus omega) | (refine z5 hK ?_; clear hK; simp only [go_sem, *]) | simp only [z3, z4, go_sem, *])
  exact v4 (i' := i + 1) [some 0, some 1, some 5] [] (by trivial)
 ·have e : (q6 s.first).take i = q6 s.first := List.take_of_length_le (by omega)
  have e2 : (q6 s.first).length ≤ i := by omega
  have hlr := zGs (g := (q6 s.first).map (o4 l))
  obtain ⟨a, ha⟩ : ∃ a, a = c5 ((q6 s.first).map (o4 l)) := ⟨_, rfl⟩
  have hneg : (q6 s.first).length = 0 → a < 0 := fun h => by
   rw [ha, List.eq_nil_of_length_eq_zero h]; show c5 [] < 0; decide
  rw [← ha] at sl hlr hR
  simp only [List.length_map] at hlr
  clear ha
  repeat' (first | (refine Qr rfl ?_; try intro _ hK; try simp only [go_sem, *]) | (refine Qi rfl rfl rfl rfl ?_ ?_ <;> (intro hb; (try intro _ hK); have hc := hb; try simp only [go_sem] at hc; simp only [go_sem, *])) | refine Qh rfl ?_ | refine Qd rfl (by kernel_rfl) ?_ | (refine Qc rfl rfl ?_ ?_ <;> (intro hb; have hc := hb; try simp only [go_sem] at hc)) | refine z6 rfl ?_ | (refine Qb ?_ ?_; focus kernel_rfl) | ((with_reducible apply And.intro); focus omega) | (refine z5 hK ?_; clear hK; simp only [go_sem, *]) | simp only [z3, z4, go_sem, *])
  refine C7 [2] sl ?_ (.raw _) ?_
  ·simp only [go_sem, *]
   simp [Function.comp_def, List.take_of_length_le, e2]
  simp only [go_sem, *]
  by_cases hl0 : l.length = 0
  ·rw [if_pos (.inl hl0)] at hR
   have hl1 : ((l.length : Int) == 0) = true := by simpa using hl0
   clear hneg hlr
   have hR2 := hR
   unfold zOS at hR2
   clear hR
   subst hR2
   repeat' (first | (refine Qr rfl ?_; try intro _ hK; try simp only [go_sem, *]) | (refine Qi rfl rfl rfl rfl ?_ ?_ <;> (intro hb; (try intro _ hK); have hc := hb; try simp only [go_sem] at hc; simp only [go_sem, *])) | refine Qh rfl ?_ | refine Qd rfl (by kernel_rfl) ?_ | (refine Qc rfl rfl ?_ ?_ <;> (intro hb; have hc := hb; try simp only [go_sem] at hc)) | refine z6 rfl ?_ | (refine Qb ?_ ?_; focus kernel_rfl) | ((with_reducible apply And.intro); focus omega) | (refine z5 hK ?_; clear hK; simp only [go_sem, *]) | simp only [z3, z4, go_sem, *])
   refine ⟨[.agg [iV 0, iV 0, iV 0], iV 0, iV 11], [], [], ⟨(by simp only [x7, go_sem]), rfl, rfl, trivial⟩, ?_⟩; simp only [go_sem, *]
  have hl1 : ((l.length : Int) == 0) = false := by simpa using hl0
  by_cases ha0 : a < 0
  ·rw [if_pos (.inr (.inl ha0))] at hR
   clear hneg hlr
   have hR2 := hR
   unfold zOS at hR2
   clear hR
   subst hR2
   repeat' (first | (refine Qr rfl ?_; try intro _ hK; try simp only [go_sem, *]) | (refine Qi rfl rfl rfl rfl ?_ ?_ <;> (intro hb; (try intro _ hK); have hc := hb; try simp only [go_sem] at hc; simp only [go_sem, *])) | refine Qh rfl ?_ | refine Qd rfl (by kernel_rfl) ?_ | (refine Qc rfl rfl ?_ ?_ <;> (intro hb; have hc := hb; try simp only [go_sem] at hc)) | refine z6 rfl ?_ | (refine Qb ?_ ?_; focus kernel_rfl) | ((with_reducible apply And.intro); focus omega) | (refine z5 hK ?_; clear hK; simp only [go_sem, *]) | simp only [z3, z4, go_sem, *])
   all_goals first | contradiction | omega | skip
   refine ⟨[.agg [iV 0, iV 0, iV 0], iV 0, iV 11], [], [], ⟨(by simp only [x7, go_sem]), rfl, rfl, trivial⟩, ?_⟩; simp only [go_sem, *]
  ·obtain ⟨k, rfl⟩ : ∃ k : Nat, a = (k : Int) := ⟨a.toNat, by omega⟩
   have hk : k < (q6 s.first).length := by
    have : 0 < (q6 s.first).length := by
     rcases Nat.eq_zero_or_pos (q6 s.first).length with h | h
     ·exact absurd (hneg h) ha0
     ·exact h
    have := hlr this
    omega
   have hgk : ((q6 s.first).map (o4 l)).getD (k : Int).toNat 0 = o4 l ((q6 s.first).getD k default) := by
    simp [List.getD, hk]
   rw [hgk] at hR
   clear hneg hlr hgk
   have hki : k < i := by omega
   by_cases hg : o4 l ((q6 s.first).getD k default) = l.length
   ·rw [if_pos (.inr (.inr hg))] at hR
    have hgi : (((o4 l ((q6 s.first).getD k default) : Nat) : Int) == (l.length : Int)) = true := by rw [beq_iff_eq]; omega
    clear hg
    have hR2 := hR
    unfold zOS at hR2
    clear hR
    subst hR2
    repeat' (first | (refine Qr rfl ?_; try intro _ hK; try simp only [go_sem, *]) | (refine Qi rfl rfl rfl rfl ?_ ?_ <;> (intro hb; (try intro _ hK); have hc := hb; try simp only [go_sem] at hc; simp only [go_sem, *])) | refine Qh rfl ?_ | refine Qd rfl (by kernel_rfl) ?_ | (refine Qc rfl rfl ?_ ?_ <;> (intro hb; have hc := hb; try simp only [go_sem] at hc)) | refine z6 rfl ?_ | (refine Qb ?_ ?_; focus kernel_rfl) | ((with_reducible apply And.intro); focus omega) | (refine z5 hK ?_; clear hK; simp only [go_sem, *]) | simp only [z3, z4, go_sem, *])
    all_goals first | contradiction | omega | skip
    refine ⟨[.agg [iV 0, iV 0, iV 0], iV 0, iV 11], [], [], ⟨(by simp only [x7, go_sem]), rfl, rfl, trivial⟩, ?_⟩; simp only [go_sem, *]
   ·rw [if_neg (by rintro (h | h | h) <;> omega)] at hR
    have hgi : (((o4 l ((q6 s.first).getD k default) : Nat) : Int) == (l.length : Int)) = false := by rw [beq_eq_false_iff_ne]; omega
    clear hg
    have hR2 := hR
    unfold zOS at hR2
    clear hR
    simp only [Int.toNat_natCast] at hR2
    subst hR2
    repeat' (first | (refine Qr rfl ?_; try intro _ hK; try simp only [go_sem, *]) | (refine Qi rfl rfl rfl rfl ?_ ?_ <;> (intro hb; (try intro _ hK); have hc := hb; try simp only [go_sem] at hc; simp only [go_sem, *])) | refine Qh rfl ?_ | refine Qd rfl (by kernel_rfl) ?_ | (refine Qc rfl rfl ?_ ?_ <;> (intro hb; have hc := hb; try simp only [go_sem] at hc)) | refine z6 rfl ?_ | (refine Qb ?_ ?_; focus kernel_rfl) | ((with_reducible apply And.intro); focus omega) | (refine z5 hK ?_; clear hK; simp only [go_sem, *]) | simp only [z3, z4, go_sem, *])
    all_goals first | contradiction | omega | skip
    refine ⟨[((q6 s.first).getD k default).enc, iV (o4 l ((q6 s.first).getD k default) : Nat), iV 0], [], [], ⟨(by simp only [x7, go_sem]), rfl, rfl, trivial⟩, ?_⟩; simp only [go_sem, *]
end Go.Abs

namespace Go.Abs
open Go Go.Proofs Tryz
attribute [local irreducible] q8 Hold y4
attribute [go_sem] p6 Nat.le_refl Nat.sub_zero Int.reduceGT Nat.reduceGT Int.reduceGE
@[go_sem ↓] theorem zLr (a b : Int) (K : Cont) : zOI .xor .u64 a b K = K (uV (a8 a b)) [] [] := rfl
@[go_sem ↓] theorem zND (a b : Int) (K : Cont) : T7 .shl .u64 a b K = (0 ≤ b ∧ K (uV (K9 a b.toNat)) [] []) := rfl
@[go_sem ↓] theorem zNE (a b : Int) (K : Cont) : T7 .shr .u64 a b K = (0 ≤ b ∧ K (uV (j4 a b.toNat)) [] []) := rfl
@[go_sem] theorem zLB (s : Int) : a8 s (K9 s 13) = zOb s := rfl
@[go_sem] theorem zLC (s : Int) : a8 s (j4 s 7) = zOc s := rfl
@[go_sem] theorem zLD (s : Int) : a8 s (K9 s 17) = zOd s := rfl
@[go_sem] theorem zLE (s : Int) : zOd (zOc (zOb s)) = L9 s := rfl
@[go_sem] theorem zLF (n : Int) : IntKind.u64.wrap (a8 n (j4 n 30) * 10723151780598845931) = zOU n := rfl
theorem zJM (d : Dice) (h : d.list.length ≤ 4294967296) : zNV prog 100 [.ptr 0 0] [p6 d] (uV (zN1 d)) [p6 (zNz d)] := by
 have e2 : (zNz d).list = d.list := rfl
 have e4 : (zNz d).seed = zN7 d := rfl
 have e6 : zN1 d = a8 (zOU (zN7 d)) (j4 (zOU (zN7 d)) 31) := rfl
 by_cases q : d.at_ < d.list.length
 ·have q2 : ((d.at_ : Int) < (d.list.length : Int)) := by omega
  have e1 : zN7 d = IntKind.u64.wrap (L9 d.seed + IntKind.u64.wrap (IntKind.u64.wrap (d.list.getD d.at_ default) * 13787848793156543929)) := by unfold zN7; rw [if_pos q]
  have e3 : (zNz d).at_ = d.at_ + 1 := by unfold zNz; simp only; rw [if_pos q]
  have e5 : IntKind.i64.wrap ((d.at_ : Int) + 1) = ((d.at_ + 1 : Nat) : Int) := y8 (by omega)
  generalize zNz d = d' at *
  refine z9 func100 rfl (fun E hE => ?_); simp only [go_sem, ntmps100]
  repeat' (first | (refine Qr rfl ?_; try intro _ hK; try simp only [go_sem, *]) | refine Qh rfl ?_ | refine Qd rfl (by kernel_rfl) ?_ | (refine Qc rfl rfl ?_ ?_ <;> (intro hb; have hc := hb; try simp only [go_sem] at hc)) | refine z6 rfl ?_ | (refine Qb ?_ ?_; focus kernel_rfl) | ((with_reducible apply And.intro); focus omega) | (refine z5 hK ?_; clear hK; simp only [go_sem, *]) | simp only [z3, z4, go_sem, *])
  all_goals first | contradiction | omega | skip
  refine ⟨[_], [some 0], [], ⟨rfl, trivial⟩, ?_⟩
  simp only [go_sem, *]
 ·have q2 : ¬ ((d.at_ : Int) < (d.list.length : Int)) := by omega
  have e1 : zN7 d = L9 d.seed := by unfold zN7; rw [if_neg q]
  have e3 : (zNz d).at_ = d.at_ := by unfold zNz; simp only; rw [if_neg q]
  generalize zNz d = d' at *
  refine z9 func100 rfl (fun E hE => ?_); simp only [go_sem, ntmps100]
  repeat' (first | (refine Qr rfl ?_; try intro _ hK; try simp only [go_sem, *]) | refine Qh rfl ?_ | refine Qd rfl (by kernel_rfl) ?_ | (refine Qc rfl rfl ?_ ?_ <;> (intro hb; have hc := hb; try simp only [go_sem] at hc)) | refine z6 rfl ?_ | (refine Qb ?_ ?_; focus kernel_rfl) | ((with_reducible apply And.intro); focus omega) | (refine z5 hK ?_; clear hK; simp only [go_sem, *]) | simp only [z3, z4, go_sem, *])
  all_goals first | contradiction | omega | skip
  refine ⟨[_], [some 0], [], ⟨rfl, trivial⟩, ?_⟩
  simp only [go_sem, *]
theorem D0 (n : Int) (d : Dice) : (toD n d).list = d.list := by unfold toD; split <;> rfl
theorem zAq (d : Dice) (n : Int) (h : d.list.length ≤ 4294967296) (hn : n ≤ 4294967296) : zNV prog 71 [.ptr 0 0, iV n] [p6 d] (iV (toN n d)) [p6 (toD n d)] := by
 by_cases q : n < 1
 ·have e1 : toN n d = 0 := by unfold toN; rw [if_pos q]
  have e2 : toD n d = d := by unfold toD; rw [if_pos q]
  refine z9 func71 rfl (fun E hE => ?_); simp only [go_sem, ntmps71]
  repeat' (first | (refine Qr rfl ?_; try intro _ hK; try simp only [go_sem, *]) | refine Qh rfl ?_ | (refine Qc rfl rfl ?_ ?_ <;> (intro hb; have hc := hb; try simp only [go_sem] at hc)) | refine z6 rfl ?_ | ((with_reducible apply And.intro); focus omega) | (refine z5 hK ?_; clear hK; simp only [go_sem, *]) | simp only [z3, z4, go_sem, *])
  all_goals first | contradiction | omega | skip
  refine ⟨[_], [some 0], [], ⟨rfl, trivial⟩, ?_⟩
  simp only [go_sem, *]
 ·have e1 : toN n d = (j4 (zN1 d) 16).tmod (n + 1) := by unfold toN; rw [if_neg q]
  have e2 : toD n d = zNz d := by unfold toD; rw [if_neg q]
  have hr := D1 n d
  rw [e1] at hr
  have e3 : IntKind.i64.wrap (n + 1) = n + 1 := wrap_i64 (by omega) (by omega)
  have e4 : IntKind.u64.wrap (n + 1) = n + 1 := by rw [IntKind.wrap_u64]; omega
  have e5 : IntKind.i64.wrap ((j4 (zN1 d) 16).tmod (n + 1)) = (j4 (zN1 d) 16).tmod (n + 1) := wrap_i64 (by omega) (by omega)
  have e6 : ¬ n + 1 = 0 := by omega
  have sr := zJM d h
  generalize zN1 d = r at *
  generalize zNz d = d' at *
  clear hr
  refine z9 func71 rfl (fun E hE => ?_); simp only [go_sem, ntmps71]
  repeat' (first | (refine Qr rfl ?_; try intro _ hK; try simp only [go_sem, *]) | refine Qh rfl ?_ | (refine Qc rfl rfl ?_ ?_ <;> (intro hb; have hc := hb; try simp only [go_sem] at hc)) | refine z6 rfl ?_ | (refine l5 [0] (sr) ?_; simp only [go_sem, *]) | ((with_reducible apply And.intro); focus omega) | (refine z5 hK ?_; clear hK; simp only [go_sem, *]) | simp only [z3, z4, go_sem, *])
  all_goals first | contradiction | omega | skip
  refine ⟨[_], [some 0], [], ⟨rfl, trivial⟩, ?_⟩
  simp only [go_sem, *]
theorem zAp (d : Dice) (lo hi : Int) (h : d.list.length ≤ 4294967296) (hl : 0 ≤ lo ∧ lo ≤ hi) (hh : hi ≤ 4294967296) : zNV prog 43 [.ptr 0 0, iV lo, iV hi] [p6 d] (iV (s9 lo hi d)) [p6 (u9 lo hi d)] := by
 have st := zAq d (hi - lo) h (by omega)
 have hf := M8 hl.2 d
 have e1 : IntKind.i64.wrap (hi - lo) = hi - lo := wrap_i64 (by omega) (by omega)
 have e2 : IntKind.i64.wrap (lo + toN (hi - lo) d) = s9 lo hi d := by
  have : lo + toN (hi - lo) d = s9 lo hi d := rfl
  rw [this]; exact wrap_i64 (by omega) (by omega)
 have e3 : u9 lo hi d = toD (hi - lo) d := rfl
 rw [e3]
 generalize s9 lo hi d = r at *
 clear e3 hf hl
 refine z9 func43 rfl (fun E hE => ?_); simp only [go_sem, ntmps43]
 repeat' (first | (refine Qr rfl ?_; try intro _ hK; try simp only [go_sem, *]) | refine Qh rfl ?_ | (refine Qc rfl rfl ?_ ?_ <;> (intro hb; have hc := hb; try simp only [go_sem] at hc)) | refine z6 rfl ?_ | (refine l5 [0] (st) ?_; simp only [go_sem, *]) | ((with_reducible apply And.intro); focus omega) | (refine z5 hK ?_; clear hK; simp only [go_sem, *]) | simp only [z3, z4, go_sem, *])
 refine ⟨[_], [some 0], [], ⟨rfl, trivial⟩, ?_⟩
 simp only [go_sem, *]
theorem zC5 (d : Dice) (k : Int) (h : d.list.length ≤ 4294967296) (hk : 0 ≤ k ∧ k ≤ 4294967296) : zNV prog 44 [.ptr 0 0, iV k] [p6 d] (bV (W9 k d)) [p6 (j3 k d)] := by
 have st := zAq d (k - 1) h (by omega)
 have e1 : IntKind.i64.wrap (k - 1) = k - 1 := wrap_i64 (by omega) (by omega)
 have e2 : W9 k d = (toN (k - 1) d == 0) := rfl
 have e3 : j3 k d = toD (k - 1) d := rfl
 rw [e3, e2]
 clear e2 e3 hk
 refine z9 func44 rfl (fun E hE => ?_); simp only [go_sem, ntmps44]
 repeat' (first | (refine Qr rfl ?_; try intro _ hK; try simp only [go_sem, *]) | refine Qh rfl ?_ | (refine Qc rfl rfl ?_ ?_ <;> (intro hb; have hc := hb; try simp only [go_sem] at hc)) | refine z6 rfl ?_ | (refine l5 [0] (st) ?_; simp only [go_sem, *]) | ((with_reducible apply And.intro); focus omega) | (refine z5 hK ?_; clear hK; simp only [go_sem, *]) | simp only [z3, z4, go_sem, *])
 refine ⟨[_], [some 0], [], ⟨rfl, trivial⟩, ?_⟩
 simp only [go_sem, *]
def K1 (l : List Int) : Dice := ⟨l, 0, 11400714819323198485⟩
theorem zIo (l : List Int) : zNV prog 9 [l6 l] [] (.ptr 0 0) [p6 (K1 l)] := by
 refine z9 func9 rfl (fun E hE => ?_); simp only [go_sem, ntmps9]
 repeat' (first | (refine Qr rfl ?_; try intro _ hK; try simp only [go_sem, *]) | refine Qh rfl ?_ | (refine Qc rfl rfl ?_ ?_ <;> (intro hb; have hc := hb; try simp only [go_sem] at hc)) | refine z6 rfl ?_ | ((with_reducible apply And.intro); focus omega) | (refine z5 hK ?_; clear hK; simp only [go_sem, *]) | simp only [z3, z4, go_sem, *])
 refine ⟨[_], [some 0], [], ⟨rfl, trivial⟩, ?_⟩
 simp only [go_sem, K1, *]
end Go.Abs

namespace Go.Abs
open Go Go.Proofs Tryz
attribute [local irreducible] q8 Hold y4
theorem M7 (a b : Int) (d : Dice) : (u9 a b d).list = d.list := D0 _ _
theorem K4 (k : Int) (d : Dice) : (j3 k d).list = d.list := D0 _ _
theorem zCc (d : Dice) : (Z5 d).2.list = d.list := by
 unfold Z5 O1
 split
 ·simp only [M7, K4]
 ·simp only [M7, K4]
theorem zCf : ∀ (n : Nat) (d : Dice) (out : List Plate), (V1 n d out).2.list = d.list
 | 0, d, out => rfl
 | n + 1, d, out => by rw [V1, zCf n]; exact zCc d
theorem zHl (d : Dice) (m : Int) : (c7 d m).2.list = d.list := by unfold c7; rw [zCf, D0]
def PlP (most : Int) (d : Dice) (k : Nat) (dd : Dice) (acc : List Plate) (R : List Plate × Dice) : Prop := V1 k dd acc = R ∧ dd.list.length ≤ 4294967296 ∧ acc.length + k ≤ 8
theorem PlP.next {most : Int} {d dd : Dice} {k : Nat} {acc : List Plate} {R : List Plate × Dice} (h : PlP most d (k + 1) dd acc R) : PlP most d k (Z5 dd).2 (o8 (Z5 dd).1 acc) R := by
 obtain ⟨h1, h2, h3⟩ := h
 have := zAD (x := (Z5 dd).1) (l := acc)
 exact ⟨h1, by rw [zCc]; exact h2, by omega⟩
def AtP (x : Plate) (acc : List Plate) (j : Nat) : Prop := ∀ m, m < j → (acc.getD m default).lt x = true
theorem AtP.next {x : Plate} {acc : List Plate} {j : Nat} (h : AtP x acc j) (hx : (acc.getD j default).lt x = true) : AtP x acc (j + 1) := fun m hm => by
 rcases Nat.lt_succ_iff_lt_or_eq.1 hm with h1 | rfl
 ·exact h m h1
 ·exact hx
theorem zC7 (d : Dice) (most : Int) (h : d.list.length ≤ 4294967296) (hm : most ≤ 8) :
  zNV prog 45 [.ptr 0 0, iV most] [p6 d] (.list ((c7 d most).1.map Plate.enc)) [p6 (c7 d most).2] := by
 have st := zAq d most h (by omega)
 have hr := D1 most d
 obtain ⟨n, hn⟩ : ∃ n : Nat, toN most d = n := ⟨(toN most d).toNat, by omega⟩
 have h0 : PlP most d (n - 0) (toD most d) [] (c7 d most) := by
  unfold c7
  rw [hn]
  exact ⟨by simp, by rw [D0]; exact h, by simp; omega⟩
 rw [hn] at st hr
 generalize c7 d most = R at *
 obtain ⟨RL, RD⟩ := R
 clear hn
 generalize toD most d = d0 at *
 refine z9 func45 rfl (fun E hE => ?_); simp only [go_sem, ntmps45]
 repeat' (first | (refine Qr rfl ?_; try intro _ hK; try simp only [go_sem, *]) | (refine Qi rfl rfl rfl rfl ?_ ?_ <;> (intro hb; (try intro _ hK); have hc := hb; try simp only [go_sem] at hc; simp only [go_sem, *])) | refine Qh rfl ?_ | refine Qd rfl (by kernel_rfl) ?_ | (refine Qc rfl rfl ?_ ?_ <;> (intro hb; have hc := hb; try simp only [go_sem] at hc)) | refine z6 rfl ?_ | (refine Qb ?_ ?_; focus kernel_rfl) | (refine l5 [0] (st) ?_; simp only [go_sem, *]) | ((with_reducible apply And.intro); focus omega) | (refine z5 hK ?_; clear hK; simp only [go_sem, *]) | simp only [z3, z4, go_sem, *])
 refine zAQ rfl (n) (fun i (dd : Dice) (acc : List Plate) => PlP most d (n - i) dd acc (RL, RD)) 63 (fun i dd acc => [(6, iV ((n - i : Nat) : Int)), (5, .own 1 2 0 acc.length), (0, .ptr 0 0)]) (fun i dd acc => [p6 dd, .row 2 (acc.map Plate.enc)]) [some 0, none] [] (d0) ([]) (by exact h0) ?_; intro i dd acc hi hP
 clear h0 st
 by_cases hi2 : i < n
 ·obtain ⟨k, hk⟩ : ∃ k, n - i = k + 1 := ⟨n - i - 1, by omega⟩
  have hk2 : n - (i + 1) = k := by omega
  rw [hk] at hP ⊢
  have hnx := hP.next
  have hw1 : IntKind.i64.wrap (((k + 1 : Nat) : Int) - 1) = (k : Int) := by rw [wrap_i64 (by omega) (by omega)]; omega
  have hgt : ((k + 1 : Nat) : Int) > 0 := by omega
  obtain ⟨_, hdl, hal⟩ := hP
  have s1 := zAp dd 1 9 hdl (by omega) (by omega)
  have s2 := zC5 (u9 1 9 dd) 4 (by rw [M7]; exact hdl) (by omega)
  have s3 := zAp (j3 4 (u9 1 9 dd)) 1 2 (by rw [K4, M7]; exact hdl) (by omega) (by omega)
  unfold Z5 at hnx
  generalize s9 1 9 dd = x1 at *
  generalize u9 1 9 dd = d1 at *
  generalize j3 4 d1 = d2 at *
  generalize s9 1 2 d2 = x2 at *
  generalize u9 1 2 d2 = d3 at *
  obtain ⟨⟨x, d'⟩, hxd⟩ : ∃ xd, xd = O1 x1 (W9 4 d1) x2 d3 d2 := ⟨_, rfl⟩
  rw [← hxd] at hnx
  generalize W9 4 d1 = b at *
  have hxq : b = true ∧ x = ⟨x1, x2⟩ ∧ d' = d3 ∨ b = false ∧ x = ⟨x1, 0⟩ ∧ d' = d2 := by
   unfold O1 at hxd
   cases b
   ·right; simpa using hxd
   ·left; simpa using hxd
  clear hxd
  rcases hxq with ⟨rfl, hx, hd⟩ | ⟨rfl, hx, hd⟩
  all_goals repeat' (first | (refine Qr rfl ?_; try intro _ hK; try simp only [go_sem, *]) | (refine Qi rfl rfl rfl rfl ?_ ?_ <;> (intro hb; (try intro _ hK); have hc := hb; try simp only [go_sem] at hc; simp only [go_sem, *])) | refine Qh rfl ?_ | refine Qd rfl (by kernel_rfl) ?_ | (refine Qc rfl rfl ?_ ?_ <;> (intro hb; have hc := hb; try simp only [go_sem] at hc)) | refine z6 rfl ?_ | (refine Qb ?_ ?_; focus kernel_rfl) | (refine x8 [0] [] (s1) (by simp) ?_ ?_ (by simp) (.inl rfl) ?_ ?_ ?_; (iterate 2 (focus (simp only [go_sem, *]; done))); (iterate 2 (focus (first | (simp; done) | (simp [go_sem]; done)))); simp only [go_sem, *]) | (refine x8 [0] [] (s2) (by simp) ?_ ?_ (by simp) (.inl rfl) ?_ ?_ ?_; (iterate 2 (focus (simp only [go_sem, *]; done))); (iterate 2 (focus (first | (simp; done) | (simp [go_sem]; done)))); simp only [go_sem, *]) | (refine x8 [0] [] (s3) (by simp) ?_ ?_ (by simp) (.inl rfl) ?_ ?_ ?_; (iterate 2 (focus (simp only [go_sem, *]; done))); (iterate 2 (focus (first | (simp; done) | (simp [go_sem]; done)))); simp only [go_sem, *]) | ((with_reducible apply And.intro); focus omega) | (refine z5 hK ?_; clear hK; simp only [go_sem, *]) | simp only [z3, z4, go_sem, *])
  all_goals try contradiction
  all_goals
   have hx1 := congrArg Plate.number hx
   have hx2 := congrArg Plate.letter hx
   simp only at hx1 hx2
   refine H8 (N := 63) (env := [(8, iV 0), (7, .ptr 2 0), (6, iV ((k + 1 : Nat) : Int)), (5, .own 1 2 0 acc.length), (0, .ptr 0 0)]) (As := [p6 d', .row 2 (acc.map Plate.enc), .box [iV x.number, iV x.letter]]) [some 0, some 1, some 2] [] (by (simp only [Weak, go_sem, List.map_append, List.map_set, *] <;> (try simp (disch := omega) only [y8]) <;> (try simp) <;> (try omega))) ?_
   clear hx hd hx1 hx2 s1 s2 s3 hm hr
   refine v5 rfl (acc.length) (fun j => AtP x acc j) 63 (fun j => [(8, iV j), (7, .ptr 2 0), (6, iV ((k + 1 : Nat) : Int)), (5, .own 1 2 0 acc.length), (0, .ptr 0 0)]) (fun j => [p6 d', .row 2 (acc.map Plate.enc), .box [iV x.number, iV x.letter]]) [some 0, some 1, some 2] [] (by exact fun m hm => absurd hm (by omega)) ?_; intro j hj hJ
   have hmn : min j acc.length = j := by omega
   have hl2 : j + (acc.length - j + 1) = j + 1 + (acc.length - j) := by omega
   have hdl2 : (List.drop j (List.map Plate.enc acc)).length = acc.length - j := by simp
   have htd : List.take (acc.length - j) (List.drop j (List.map Plate.enc acc)) = List.drop j (List.map Plate.enc acc) := List.take_of_length_le (by simp)
   by_cases hj2 : j < acc.length
   ·have hj3 : ((j : Int) == (acc.length : Int)) = false := by simp; omega
    have sb := zIw (acc.getD j default) x
    by_cases hlt : (acc.getD j default).lt x = true
    ·rw [hlt] at sb
     repeat' (first | (refine Qr rfl ?_; try intro _ hK; try simp only [go_sem, *]) | (refine Qi rfl rfl rfl rfl ?_ ?_ <;> (intro hb; (try intro _ hK); have hc := hb; try simp only [go_sem] at hc; simp only [go_sem, *])) | refine Qh rfl ?_ | refine Qd rfl (by kernel_rfl) ?_ | (refine Qc rfl rfl ?_ ?_ <;> (intro hb; have hc := hb; try simp only [go_sem] at hc)) | refine z6 rfl ?_ | (with_reducible (show (∀ _ : AV, _ → _) ∧ _); refine And.intro ?_ ?_; (focus (intro y hy; first | (obtain ⟨z, _, rfl⟩ := List.mem_map.1 (hy); simp [go_sem]; done) | (obtain ⟨z, _, rfl⟩ := List.mem_map.1 (List.mem_of_mem_take hy); simp [go_sem]; done) | (obtain ⟨z, _, rfl⟩ := List.mem_map.1 (List.mem_of_mem_drop hy); simp [go_sem]; done) | (obtain ⟨z, _, rfl⟩ := List.mem_map.1 (List.mem_of_mem_drop (List.mem_of_mem_take hy)); simp [go_sem]; done)))) | (refine Qb ?_ ?_; focus kernel_rfl) | (refine z8 (sb) ?_; simp only [go_sem, *]) | ((with_reducible apply And.intro); focus omega) | (refine z5 hK ?_; clear hK; simp only [go_sem, *]) | simp only [z3, z4, go_sem, *])
     all_goals try contradiction
     exact v4 (i' := j + 1) [some 0, some 1, some 2] [] (by exact hJ.next hlt)
    ·rw [Bool.not_eq_true] at hlt
     rw [hlt] at sb
     have hin := zAC (by omega) hJ (fun _ => hlt)
     by_cases heq : acc.getD j default = x
     ·rw [if_pos ⟨hj2, heq⟩] at hin
      rw [hin] at hnx
      clear hin
      have hne : (decide (acc.getD j default = x)) = true := by simpa using heq
      clear heq
      repeat' (first | (refine Qr rfl ?_; try intro _ hK; try simp only [go_sem, *]) | (refine Qi rfl rfl rfl rfl ?_ ?_ <;> (intro hb; (try intro _ hK); have hc := hb; try simp only [go_sem] at hc; simp only [go_sem, *])) | refine Qh rfl ?_ | refine Qd rfl (by kernel_rfl) ?_ | (refine Qc rfl rfl ?_ ?_ <;> (intro hb; have hc := hb; try simp only [go_sem] at hc)) | refine z6 rfl ?_ | (with_reducible (show (∀ _ : AV, _ → _) ∧ _); refine And.intro ?_ ?_; (focus (intro y hy; first | (obtain ⟨z, _, rfl⟩ := List.mem_map.1 (hy); simp [go_sem]; done) | (obtain ⟨z, _, rfl⟩ := List.mem_map.1 (List.mem_of_mem_take hy); simp [go_sem]; done) | (obtain ⟨z, _, rfl⟩ := List.mem_map.1 (List.mem_of_mem_drop hy); simp [go_sem]; done) | (obtain ⟨z, _, rfl⟩ := List.mem_map.1 (List.mem_of_mem_drop (List.mem_of_mem_take hy)); simp [go_sem]; done)))) | (refine Qb ?_ ?_; focus kernel_rfl) | (refine z8 (sb) ?_; simp only [go_sem, *]) | ((with_reducible apply And.intro); focus omega) | (refine z5 hK ?_; clear hK; simp only [go_sem, *]) | simp only [z3, z4, go_sem, *])
      all_goals try contradiction
      exact T3 (i' := i + 1) [some 0, some 1] [] (d') (acc) (by rw [hk2]; exact hnx)
     ·rw [if_neg (fun h => heq h.2)] at hin
      rw [hin] at hnx
      clear hin
      have hne : (decide (acc.getD j default = x)) = false := by simpa using heq
      clear heq
      repeat' (first | (refine Qr rfl ?_; try intro _ hK; try simp only [go_sem, *]) | (refine Qi rfl rfl rfl rfl ?_ ?_ <;> (intro hb; (try intro _ hK); have hc := hb; try simp only [go_sem] at hc; simp only [go_sem, *])) | refine Qh rfl ?_ | refine Qd rfl (by kernel_rfl) ?_ | (refine Qc rfl rfl ?_ ?_ <;> (intro hb; have hc := hb; try simp only [go_sem] at hc)) | refine z6 rfl ?_ | (with_reducible (show (∀ _ : AV, _ → _) ∧ _); refine And.intro ?_ ?_; (focus (intro y hy; first | (obtain ⟨z, _, rfl⟩ := List.mem_map.1 (hy); simp [go_sem]; done) | (obtain ⟨z, _, rfl⟩ := List.mem_map.1 (List.mem_of_mem_take hy); simp [go_sem]; done) | (obtain ⟨z, _, rfl⟩ := List.mem_map.1 (List.mem_of_mem_drop hy); simp [go_sem]; done) | (obtain ⟨z, _, rfl⟩ := List.mem_map.1 (List.mem_of_mem_drop (List.mem_of_mem_take hy)); simp [go_sem]; done)))) | (refine Qb ?_ ?_; focus kernel_rfl) | (refine z8 (sb) ?_; simp only [go_sem, *]) | ((with_reducible apply And.intro); focus omega) | (refine z5 hK ?_; clear hK; simp only [go_sem, *]) | simp only [z3, z4, go_sem, *])
      all_goals try contradiction
      exact T3 (i' := i + 1) [some 0, some 7] [] (d') (acc.take j ++ x :: acc.drop j) (by rw [hk2]; exact hnx)
   ·have hin := zAC (x := x) (l := acc) (k := j) (by omega) hJ (fun h => absurd h hj2)
    rw [if_neg (fun h => hj2 h.1)] at hin
    rw [hin] at hnx
    clear hin
    have hj3 : ((j : Int) == (acc.length : Int)) = true := by simp; omega
    repeat' (first | (refine Qr rfl ?_; try intro _ hK; try simp only [go_sem, *]) | (refine Qi rfl rfl rfl rfl ?_ ?_ <;> (intro hb; (try intro _ hK); have hc := hb; try simp only [go_sem] at hc; simp only [go_sem, *])) | refine Qh rfl ?_ | refine Qd rfl (by kernel_rfl) ?_ | (refine Qc rfl rfl ?_ ?_ <;> (intro hb; have hc := hb; try simp only [go_sem] at hc)) | refine z6 rfl ?_ | (with_reducible (show (∀ _ : AV, _ → _) ∧ _); refine And.intro ?_ ?_; (focus (intro y hy; first | (obtain ⟨z, _, rfl⟩ := List.mem_map.1 (hy); simp [go_sem]; done) | (obtain ⟨z, _, rfl⟩ := List.mem_map.1 (List.mem_of_mem_take hy); simp [go_sem]; done) | (obtain ⟨z, _, rfl⟩ := List.mem_map.1 (List.mem_of_mem_drop hy); simp [go_sem]; done) | (obtain ⟨z, _, rfl⟩ := List.mem_map.1 (List.mem_of_mem_drop (List.mem_of_mem_take hy)); simp [go_sem]; done)))) | (refine Qb ?_ ?_; focus kernel_rfl) | ((with_reducible apply And.intro); focus omega) | (refine z5 hK ?_; clear hK; simp only [go_sem, *]) | simp only [z3, z4, go_sem, *])
    all_goals try contradiction
    exact T3 (i' := i + 1) [some 0, some 7] [] (d') (acc.take j ++ x :: acc.drop j) (by rw [hk2]; exact hnx)
 ·have hni : n - i = 0 := by omega
  rw [hni] at hP ⊢
  obtain ⟨e, _, _⟩ := hP
  rw [V1] at e
  cases e
  repeat' (first | (refine Qr rfl ?_; try intro _ hK; try simp only [go_sem, *]) | (refine Qi rfl rfl rfl rfl ?_ ?_ <;> (intro hb; (try intro _ hK); have hc := hb; try simp only [go_sem] at hc; simp only [go_sem, *])) | refine Qh rfl ?_ | refine Qd rfl (by kernel_rfl) ?_ | (refine Qc rfl rfl ?_ ?_ <;> (intro hb; have hc := hb; try simp only [go_sem] at hc)) | refine z6 rfl ?_ | (refine Qb ?_ ?_; focus kernel_rfl) | ((with_reducible apply And.intro); focus omega) | (refine z5 hK ?_; clear hK; simp only [go_sem, *]) | simp only [z3, z4, go_sem, *])
  refine ⟨[_], [some 0], [1], ⟨rfl, trivial⟩, ?_⟩
  simp only [go_sem, *]
end Go.Abs

namespace Go.Abs
open Go Go.Proofs Tryz
attribute [local irreducible] q8 Hold y4
theorem zJf (d : Dice) (h : Int) : (f8 d h).2.list = d.list := by unfold f8; rw [zHl, K4]
def StP (houses : Int) (k : Nat) (dd : Dice) (acc : zNU) (R : zNU × Dice) : Prop := Y6 houses k dd acc = R ∧ dd.list.length ≤ 4294967296 ∧ acc.length + k ≤ 3
theorem StP.next {houses : Int} {dd : Dice} {k : Nat} {acc : zNU} {R : zNU × Dice} (h : StP houses (k + 1) dd acc R) : StP houses k (f8 dd houses).2 (acc ++ [(f8 dd houses).1]) R := by
 obtain ⟨h1, h2, h3⟩ := h
 exact ⟨h1, by rw [zJf]; exact h2, by simp; omega⟩
theorem zIp (d : Dice) (houses : Int) (h : d.list.length ≤ 4294967296) (hm : houses ≤ 8) :
  zNV prog 8 [.ptr 0 0, iV houses] [p6 d] (y3 (V0 d houses).1) [p6 (V0 d houses).2] := by
 have st := zAp d 1 3 h (by omega) (by omega)
 have hr := M8 (lo := 1) (hi := 3) (by omega) d
 obtain ⟨n, hn⟩ : ∃ n : Nat, s9 1 3 d = n := ⟨(s9 1 3 d).toNat, by omega⟩
 have h0 : StP houses (n - 0) (u9 1 3 d) [] (V0 d houses) := by
  unfold V0
  rw [hn]
  exact ⟨by simp, by rw [M7]; exact h, by simp; omega⟩
 rw [hn] at st hr
 generalize V0 d houses = R at *
 obtain ⟨RL, RD⟩ := R
 clear hn
 generalize u9 1 3 d = d0 at *
 refine z9 func8 rfl (fun E hE => ?_); simp only [go_sem, ntmps8]
 repeat' (first | (refine Qr rfl ?_; try intro _ hK; try simp only [go_sem, *]) | refine Qh rfl ?_ | refine Qd rfl (by kernel_rfl) ?_ | (refine Qc rfl rfl ?_ ?_ <;> (intro hb; have hc := hb; try simp only [go_sem] at hc)) | refine z6 rfl ?_ | (refine Qb ?_ ?_; focus kernel_rfl) | (refine l5 [0] (st) ?_; simp only [go_sem, *]) | ((with_reducible apply And.intro); focus omega) | (refine z5 hK ?_; clear hK; simp only [go_sem, *]) | simp only [z3, z4, go_sem, *])
 refine zAQ rfl (n) (fun i (dd : Dice) (acc : zNU) => StP houses (n - i) dd acc (RL, RD)) 26 (fun i dd acc => [(6, iV ((n - i : Nat) : Int)), (5, .ptr 2 0), (4, .ptr 1 0), (1, iV houses), (0, .ptr 0 0)]) (fun i dd acc => [p6 dd, .box [zNs], .box [.own 3 1 0 acc.length], .box (acc.map q9)]) [some 0, some 1, some 2, none] [] (d0) ([]) (by exact h0) ?_; intro i dd acc hi hP
 clear h0 st
 by_cases hi2 : i < n
 ·obtain ⟨k, hk⟩ : ∃ k, n - i = k + 1 := ⟨n - i - 1, by omega⟩
  have hk2 : n - (i + 1) = k := by omega
  rw [hk] at hP ⊢
  have hnx := hP.next
  have hw1 : IntKind.i64.wrap (((k + 1 : Nat) : Int) - 1) = (k : Int) := by rw [wrap_i64 (by omega) (by omega)]; omega
  have hgt : ((k + 1 : Nat) : Int) > 0 := by omega
  obtain ⟨_, hdl, hal⟩ := hP
  have s2 := zC5 dd 3 hdl (by omega)
  have hol : (j3 3 dd).list.length ≤ 4294967296 := by rw [K4]; exact hdl
  unfold f8 at hnx
  generalize j3 3 dd = d2 at *
  by_cases b : W9 3 dd = true
  ·rw [if_pos b] at hnx
   rw [b] at s2
   clear b
   have s3 := zC7 d2 0 hol (by omega)
   generalize c7 d2 0 = L at *
   obtain ⟨l, d3⟩ := L
   have hnx2 : StP houses k d3 (acc ++ [l]) (RL, RD) := hnx
   clear hnx
   simp only at s3
   repeat' (first | (refine Qr rfl ?_; try intro _ hK; try simp only [go_sem, *]) | refine Qh rfl ?_ | refine Qd rfl (by kernel_rfl) ?_ | (refine Qc rfl rfl ?_ ?_ <;> (intro hb; have hc := hb; try simp only [go_sem] at hc)) | refine z6 rfl ?_ | (refine Qb ?_ ?_; focus kernel_rfl) | (refine x8 [0] [] (s2) (by simp) ?_ ?_ (by simp) (.inl rfl) ?_ ?_ ?_; (iterate 2 (focus (simp only [go_sem, *]; done))); (iterate 2 (focus (first | (simp; done) | (simp [go_sem]; done)))); simp only [go_sem, *]) | (refine x8 [0] [] (s3) (by simp) ?_ ?_ (by simp) (.inl rfl) ?_ ?_ ?_; (iterate 2 (focus (simp only [go_sem, *]; done))); (iterate 2 (focus (first | (simp; done) | (simp [go_sem]; done)))); simp only [go_sem, *]) | ((with_reducible apply And.intro); focus omega) | (refine z5 hK ?_; clear hK; simp only [go_sem, *]) | simp only [z3, z4, go_sem, *])
   all_goals try contradiction
   exact T3 (i' := i + 1) [some 0, some 1, some 2, some 5] [] (d3) (acc ++ [l]) (by rw [hk2]; exact hnx2)
  ·rw [if_neg b] at hnx
   rw [Bool.not_eq_true] at b
   rw [b] at s2
   clear b
   have s3 := zC7 d2 houses hol hm
   generalize c7 d2 houses = L at *
   obtain ⟨l, d3⟩ := L
   have hnx2 : StP houses k d3 (acc ++ [l]) (RL, RD) := hnx
   clear hnx
   simp only at s3
   repeat' (first | (refine Qr rfl ?_; try intro _ hK; try simp only [go_sem, *]) | refine Qh rfl ?_ | refine Qd rfl (by kernel_rfl) ?_ | (refine Qc rfl rfl ?_ ?_ <;> (intro hb; have hc := hb; try simp only [go_sem] at hc)) | refine z6 rfl ?_ | (refine Qb ?_ ?_; focus kernel_rfl) | (refine x8 [0] [] (s2) (by simp) ?_ ?_ (by simp) (.inl rfl) ?_ ?_ ?_; (iterate 2 (focus (simp only [go_sem, *]; done))); (iterate 2 (focus (first | (simp; done) | (simp [go_sem]; done)))); simp only [go_sem, *]) | (refine x8 [0] [] (s3) (by simp) ?_ ?_ (by simp) (.inl rfl) ?_ ?_ ?_; (iterate 2 (focus (simp only [go_sem, *]; done))); (iterate 2 (focus (first | (simp; done) | (simp [go_sem]; done)))); simp only [go_sem, *]) | ((with_reducible apply And.intro); focus omega) | (refine z5 hK ?_; clear hK; simp only [go_sem, *]) | simp only [z3, z4, go_sem, *])
   all_goals try contradiction
   exact T3 (i' := i + 1) [some 0, some 1, some 2, some 5] [] (d3) (acc ++ [l]) (by rw [hk2]; exact hnx2)
 ·have hni : n - i = 0 := by omega
  rw [hni] at hP ⊢
  obtain ⟨e, _, _⟩ := hP
  rw [Y6] at e
  cases e
  repeat' (first | (refine Qr rfl ?_; try intro _ hK; try simp only [go_sem, *]) | refine Qh rfl ?_ | refine Qd rfl (by kernel_rfl) ?_ | (refine Qc rfl rfl ?_ ?_ <;> (intro hb; have hc := hb; try simp only [go_sem] at hc)) | refine z6 rfl ?_ | (refine Qb ?_ ?_; focus kernel_rfl) | ((with_reducible apply And.intro); focus omega) | (refine z5 hK ?_; clear hK; simp only [go_sem, *]) | simp only [z3, z4, go_sem, *])
  refine ⟨[.agg [.own 3 1 0 (List.length RL)]], [some 0], [3], ⟨by simp only [x7, go_sem], trivial⟩, ?_⟩
  simp only [go_sem, *]
  simp
end Go.Abs

namespace Go.Abs
open Go Go.Proofs Tryz
attribute [local irreducible] q8 Hold y4
theorem zDl : d5 townX F3 = 0 := by kernel_rfl
theorem zJX : zNV prog 7 [] [] (bV true) [] := by
 have sAfter := zIS townX W2 (by decide)
 rw [if_pos zDk, zJ1, zDk] at sAfter
 have sTruths := zIr taleX zA6
 rw [zDm] at sTruths
 have sWhere := zIs taleX (atX 0 1) zJ5 (by rw [zDn]; decide) (by rw [zDn]; decide)
 rw [zJ4] at sWhere
 have sAsk := zIW taleX zA6 (.tup [(atX 0 1).enc, iV (1 : Nat), iV 0]) (by rw [zJ2]; rfl)
 have sGuess := zIj townX F3 (by decide) (by decide)
 rw [if_pos zDl, zJ3, zDl] at sGuess
 have sRow1 := E7 [1, 2, 4, 5, 7, 8] (by decide)
 have sRow2 := E7 [1, 2, 3, 4, 5, 7, 8] (by decide)
 have sPlan1 := zAx (zNq [1, 2, 4, 5, 7, 8]) [] []
 have sPlan2 := zAx (zNq [1, 2, 3, 4, 5, 7, 8]) [] []
 have sEq1 := zC4 F2 F2 (by decide) (by decide)
 have sEq2 := zIe [[0, 0], [1, 0]] [[0, 0], [1, 0]] (by decide) (by decide)
 have sEq3 := zIf [atX 0 2, atX 0 5] [atX 0 2, atX 0 5] (by decide)
 have sEq4 := zIc [W2, H2] [W2, H2] (by decide)
 have sJoin := zDG 1 0
 have sAt1 := zAv 0 1
 have sAt2 := zAv 0 2
 have sAt5 := zAv 0 5
 have sOne := zJI 6 0 3
 simp only [F2, F3, W2, H2, zeroPlate, atX, decide_true, zOK, Option.getD_some] at *
 refine z9 func7 rfl (fun E hE => ?_); simp only [go_sem, ntmps7]
 repeat' (first | (refine Qr rfl ?_; try intro _ hK; try simp only [go_sem, *]) | (refine Qi rfl rfl rfl rfl ?_ ?_ <;> (intro hb; (try intro _ hK); have hc := hb; try simp only [go_sem] at hc; simp only [go_sem, *])) | refine Qh rfl ?_ | (refine Qc rfl rfl ?_ ?_ <;> (intro hb; have hc := hb; try simp only [go_sem] at hc)) | refine z6 rfl ?_ | (refine Qb ?_ ?_; focus kernel_rfl) | ((first | refine z8 (zDJ) ?_ | refine z8 (sJoin) ?_ | refine z8 (sAfter) ?_ | refine z8 (sTruths) ?_ | refine z8 (sAt1) ?_ | refine z8 (sWhere) ?_ | refine z8 (sAsk) ?_); simp only [go_sem, *]) | (refine o3 (zJR) ?_ rfl ?_ ?_ ?_ ?_; (iterate 2 (focus (simp only [go_sem, *]; done))); (iterate 2 (focus (first | (simp; done) | (simp [go_sem]; done)))); simp only [go_sem, w6, *]) | (refine o3 (sRow1) ?_ rfl ?_ ?_ ?_ ?_; (iterate 2 (focus (simp only [go_sem, *]; done))); (iterate 2 (focus (first | (simp; done) | (simp [go_sem]; done)))); simp only [go_sem, w6, *]) | (refine o3 (sPlan1) ?_ rfl ?_ ?_ ?_ ?_; (iterate 2 (focus (simp only [go_sem, *]; done))); (iterate 2 (focus (first | (simp; done) | (simp [go_sem]; done)))); simp only [go_sem, w6, *]) | (refine o3 (sGuess) ?_ rfl ?_ ?_ ?_ ?_; (iterate 2 (focus (simp only [go_sem, *]; done))); (iterate 2 (focus (first | (simp; done) | (simp [go_sem]; done)))); simp only [go_sem, w6, *]) | ((with_reducible apply And.intro); focus omega) | (refine z5 hK ?_; clear hK; simp only [go_sem, *]) | simp only [z3, z4, go_sem, *])
 all_goals try contradiction
 repeat' (first | (refine Qr rfl ?_; try intro _ hK; try simp only [go_sem, *]) | (refine Qi rfl rfl rfl rfl ?_ ?_ <;> (intro hb; (try intro _ hK); have hc := hb; try simp only [go_sem] at hc; simp only [go_sem, *])) | refine Qh rfl ?_ | refine Qd rfl (by kernel_rfl) ?_ | (refine Qc rfl rfl ?_ ?_ <;> (intro hb; have hc := hb; try simp only [go_sem] at hc)) | refine z6 rfl ?_ | (refine Qb ?_ ?_; focus kernel_rfl) | ((first | refine z8 (sJoin) ?_ | refine z8 (sOne) ?_ | refine z8 (sAt1) ?_ | refine z8 (sAt2) ?_ | refine z8 (sAt5) ?_); simp only [go_sem, *]) | (refine o3 (sRow2) ?_ rfl ?_ ?_ ?_ ?_; (iterate 2 (focus (simp only [go_sem, *]; done))); (iterate 2 (focus (first | (simp; done) | (simp [go_sem]; done)))); simp only [go_sem, w6, *]) | (refine o3 (sPlan2) ?_ rfl ?_ ?_ ?_ ?_; (iterate 2 (focus (simp only [go_sem, *]; done))); (iterate 2 (focus (first | (simp; done) | (simp [go_sem]; done)))); simp only [go_sem, w6, *]) | (refine o3 (sEq1) ?_ rfl ?_ ?_ ?_ ?_; (iterate 2 (focus (simp only [go_sem, *]; done))); (iterate 2 (focus (first | (simp; done) | (simp [go_sem]; done)))); simp only [go_sem, w6, *]) | (refine o3 (sEq2) ?_ rfl ?_ ?_ ?_ ?_; (iterate 2 (focus (simp only [go_sem, *]; done))); (iterate 2 (focus (first | (simp; done) | (simp [go_sem]; done)))); simp only [go_sem, w6, *]) | (refine o3 (sEq3) ?_ rfl ?_ ?_ ?_ ?_; (iterate 2 (focus (simp only [go_sem, *]; done))); (iterate 2 (focus (first | (simp; done) | (simp [go_sem]; done)))); simp only [go_sem, w6, *]) | (refine o3 (sEq4) ?_ rfl ?_ ?_ ?_ ?_; (iterate 2 (focus (simp only [go_sem, *]; done))); (iterate 2 (focus (first | (simp; done) | (simp [go_sem]; done)))); simp only [go_sem, w6, *]) | ((with_reducible apply And.intro); focus omega) | (refine z5 hK ?_; clear hK; simp only [go_sem, *]) | simp only [z3, z4, go_sem, *])
 (refine ⟨[_], [], [], ⟨rfl, trivial⟩, ?_⟩; simp only [go_sem, *])
end Go.Abs

namespace Go.Abs
open Go Go.Proofs Go.RowKit
attribute [local irreducible] q8 Hold y4
theorem zCq {p : zNU} (v : Valid p) : O5 (n0 p) = .tup [y3 p, iV 0, iV 0] := by
 have h := zAa v
 have e := zJu v
 have c := (Q1 p).2 v
 have q : ¬ 120 < (n0 p).length := by omega
 unfold O5 F6 F5 T6
 rw [if_neg q, if_neg q, if_neg q, e]
 simp only [c, if_true]
 rfl
theorem zH1 {t : Str} (h : T6 t = 0) : ∃ p, Valid p ∧ n0 p = t ∧ O5 t = .tup [y3 p, iV 0, iV 0] := by
 unfold T6 at h
 by_cases q : 120 < t.length
 ·rw [if_pos q] at h; exact absurd h (by decide)
 ·rw [if_neg q] at h
  cases e : y9 0 [] 0 t with
  | inr i =>
   rw [e] at h
   have h : (2 : Int) = 0 := h
   omega
  | inl p =>
   rw [e] at h
   have h : check p = 0 := h
   have v := (Q1 p).1 h
   have hp := zCa e
   have := zCq v
   rw [hp] at this
   exact ⟨p, v, hp, this⟩
theorem zNF (nums : List Int) (text : Str) (h : nums.length ≤ 4294967296) (ht : text.length ≤ 4294967296) : zNV Tryz.prog 4 [l6 nums, sV text] [] (bV true) [] := by
 have sw := zJX
 by_cases q : 110 < text.length
 ·have qi : (text.length : Int) > 110 := by omega
  clear q
  refine z9 Tryz.func4 rfl (fun E hE => ?_); simp only [go_sem, Tryz.ntmps4]
  repeat' (first | (refine Qr rfl ?_; try intro _ hK; try simp only [go_sem, *]) | (refine Qi rfl rfl rfl rfl ?_ ?_ <;> (intro hb; (try intro _ hK); have hc := hb; try simp only [go_sem] at hc; simp only [go_sem, *])) | refine Qh rfl ?_ | (refine Qc rfl rfl ?_ ?_ <;> (intro hb; have hc := hb; try simp only [go_sem] at hc)) | refine z6 rfl ?_ | (refine z8 (sw) ?_; simp only [go_sem, *]) | ((with_reducible apply And.intro); focus omega) | (refine z5 hK ?_; clear hK; simp only [go_sem, *]) | simp only [z3, z4, go_sem, *])
  all_goals first | contradiction | omega | skip
  (refine ⟨[_], [], [], ⟨rfl, trivial⟩, ?_⟩; simp only [go_sem, *])
 ·have qi : ¬ (text.length : Int) > 110 := by omega
  have s1 := zIo nums
  have s2 := zIp (K1 nums) 8 h (by omega)
  have v := zHf (d := K1 nums) (houses := 8) (by omega)
  generalize V0 (K1 nums) 8 = P at *
  obtain ⟨p, d1⟩ := P
  simp only at s2 v
  have s3 := zDA p v
  have hl := zAa v
  have s4 := zC8 (n0 p) (by omega)
  rw [zCq v] at s4
  have s5 := zC4 p p (by have := v.len; omega) (fun l hl => by have := (v.rows l hl).len; omega)
  rw [decide_eq_true rfl] at s5
  have s6 := zC8 text ht
  generalize n0 p = S at *
  by_cases e : T6 text = 0
  ·obtain ⟨r, vr, hr, er⟩ := zH1 e
   have s7 := zDA r vr
   rw [hr] at s7
   rw [er] at s6
   clear e er hr q hl v vr
   refine z9 Tryz.func4 rfl (fun E hE => ?_); simp only [go_sem, Tryz.ntmps4]
   repeat' (first | (refine Qr rfl ?_; try intro _ hK; try simp only [go_sem, *]) | (refine Qi rfl rfl rfl rfl ?_ ?_ <;> (intro hb; (try intro _ hK); have hc := hb; try simp only [go_sem] at hc; simp only [go_sem, *])) | refine Qh rfl ?_ | (refine Qc rfl rfl ?_ ?_ <;> (intro hb; have hc := hb; try simp only [go_sem] at hc)) | refine z6 rfl ?_ | ((first | refine z8 (s5) ?_ | refine z8 (sw) ?_); simp only [go_sem, *]) | (refine u3 (s1) ?_; simp only [go_sem, *]) | (refine l5 [0] (s2) ?_; simp only [go_sem, *]) | (refine X3 (s3) ?_ ?_; (focus (simp only [go_sem, *]; done)); simp only [go_sem, *]) | (refine X3 (s4) ?_ ?_; (focus (simp only [go_sem, *]; done)); simp only [go_sem, *]) | (refine X3 (s6) ?_ ?_; (focus (simp only [go_sem, *]; done)); simp only [go_sem, *]) | (refine X3 (s7) ?_ ?_; (focus (simp only [go_sem, *]; done)); simp only [go_sem, *]) | ((with_reducible apply And.intro); focus omega) | (refine z5 hK ?_; clear hK; simp only [go_sem, *]) | simp only [z3, z4, go_sem, *])
   all_goals first | contradiction | omega | skip
   trace_state
   (refine ⟨[_], [], [], ⟨rfl, trivial⟩, ?_⟩; simp only [go_sem, *])
  ·unfold O5 at s6
   generalize T6 text = g at *
   generalize F6 text = n at *
   generalize F5 text = a at *
   clear q hl v
   refine z9 Tryz.func4 rfl (fun E hE => ?_); simp only [go_sem, Tryz.ntmps4]
   repeat' (first | (refine Qr rfl ?_; try intro _ hK; try simp only [go_sem, *]) | (refine Qi rfl rfl rfl rfl ?_ ?_ <;> (intro hb; (try intro _ hK); have hc := hb; try simp only [go_sem] at hc; simp only [go_sem, *])) | refine Qh rfl ?_ | (refine Qc rfl rfl ?_ ?_ <;> (intro hb; have hc := hb; try simp only [go_sem] at hc)) | refine z6 rfl ?_ | ((first | refine z8 (s5) ?_ | refine z8 (sw) ?_); simp only [go_sem, *]) | (refine u3 (s1) ?_; simp only [go_sem, *]) | (refine l5 [0] (s2) ?_; simp only [go_sem, *]) | (refine X3 (s3) ?_ ?_; (focus (simp only [go_sem, *]; done)); simp only [go_sem, *]) | (refine X3 (s4) ?_ ?_; (focus (simp only [go_sem, *]; done)); simp only [go_sem, *]) | (refine X3 (s6) ?_ ?_; (focus (simp only [go_sem, *]; done)); simp only [go_sem, *]) | ((with_reducible apply And.intro); focus omega) | (refine z5 hK ?_; clear hK; simp only [go_sem, *]) | simp only [z3, z4, go_sem, *])
   all_goals first | contradiction | omega | skip
   trace_state
   (refine ⟨[_], [], [], ⟨rfl, trivial⟩, ?_⟩; simp only [go_sem, *])
end Go.Abs

