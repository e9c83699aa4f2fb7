/-
  WHAT THE PROOF STANDS ON, PART 6: contracts of the program's functions and the logic that they are proved in. No condition.
-/
import Derived.Test.YtoodnahaohmmkaaGreatDoorQAKL35
set_option maxRecDepth 100000
set_option maxHeartbeats 4000000
set_option linter.unnecessarySimpa false
set_option linter.unusedVariables false
set_option linter.unusedSimpArgs false
set_option linter.unusedSectionVars false
namespace Go.Abs
open Go Go.Proofs Tryz
attribute [local irreducible] q9 Hold y2
variable [Cur]
theorem zIY (d : Dice) (h : DOk d) : ∃ (v : Vol) (d' : Dice), zSx prog 6 [.ptr 0 0, iV 6] [y4 d] (.agg [iV v.streets, iV v.width, iV v.rows, x8 v.tr.cls, x9 v.tr.hds, .own 1 2 0 v.rules.length, .own 2 5 0 v.people.length])
  [y4 d', .row 2 (v.rules.map Rule.enc), .row 5 (v.people.map Per.enc)] ∧ VolM v ∧ DOk d' := by
 obtain ⟨st, d1, c1, hst, hd1⟩ := P2 d 1 2 h (by omega) (by omega)
 obtain ⟨w1, d2, c2, hw1, hd2⟩ := P2 d1 3 8 hd1 (by omega) (by omega)
 obtain ⟨w2, d3, c3, hw2, hd3⟩ := P2 d2 5 13 hd2 (by omega) (by omega)
 obtain ⟨w3, d4, c4, hw3, hd4⟩ := P2 d3 1 13 hd3 (by omega) (by omega)
 obtain ⟨wd, d5, c5, hwd, hd5⟩ := zCI d4 [w1, w2, w3] hd4 (by simp) (by simp)
 obtain ⟨r1, d6, c6, hr1, hd6⟩ := P2 d5 3 8 hd5 (by omega) (by omega)
 obtain ⟨rw_, d7, c7, hrw, hd7⟩ := zCI d6 [3, 4, 5, r1] hd6 (by simp) (by simp)
 obtain ⟨tr, d8, c8, htr, hal, htc, hd8⟩ := zIX d7 hd7 3 4 (by omega) (by omega)
 obtain ⟨ru, d9, c9, hru, hrl, hd9⟩ := zIW d8 2 hd8 (by omega)
 obtain ⟨ns, d10, c10, hns, hnl, hd10⟩ := zIS d9 6 5 hd9 (by omega) (by omega)
 obtain ⟨q, q0, qR, qG⟩ := zLq tr st wd rw_ (by omega) (by have := R3 htr; omega) (X4 ru ru.length) ns hns d10 hd10 ns.length (Nat.le_refl _) (by omega)
 obtain ⟨qn1, qn2, hd11⟩ := qG ns.length (Nat.le_refl _)
 refine ⟨⟨st, wd, rw_, tr, X4 ru ru.length, (q ns.length).1⟩, (q ns.length).2, ?_, ⟨hst, ?_, ?_, htr, hal, zL9 hru, by show (q ns.length).1.length ≤ 6; omega, qn2⟩, hd11⟩
 rotate_left 1
 ·show 1 ≤ wd ∧ wd ≤ 13
  simp only [List.mem_cons, List.not_mem_nil, or_false] at hwd
  rcases hwd with rfl | rfl | rfl <;> omega
 ·show 3 ≤ rw_ ∧ rw_ ≤ 8
  simp only [List.mem_cons, List.not_mem_nil, or_false] at hrw
  rcases hrw with rfl | rfl | rfl | rfl <;> omega
 have hql : ∀ i, i ≤ ns.length → (q i).1.length = i := fun i hi => (qG i hi).1
 have hn6 : ns.length ≤ 6 := by omega
 have hr2 : ru.length ≤ 2 := by omega
 clear qG qn1 qn2 hd1 hd2 hd3 hd4 hd5 hd6 hd7 hd8 hd9 hd10 hd11 hwd hrw hst hw1 hw2 hw3 hr1 hal htc hru hns hnl hrl
 have hm3 : AV.list ([w1, w2, w3].map iV) = .list [iV w1, iV w2, iV w3] := rfl
 have hm4 : AV.list ([3, 4, 5, r1].map iV) = .list [iV 3, iV 4, iV 5, iV r1] := rfl
 rw [hm3] at c5
 rw [hm4] at c7
 clear hm3 hm4
 have h3 : ((3 : Nat) : Int) = 3 := rfl
 have h4 : ((4 : Nat) : Int) = 4 := rfl
 rw [h3, h4] at c8
 obtain ⟨cls, hds⟩ := tr
 simp only at *
 refine z9 func6 rfl (fun E hE => ?_); simp only [go_sem, ntmps6]
 repeat' (first | (refine Qr rfl ?_; try intro _ hK; try simp only [go_sem, *]) | (refine Qi rfl rfl rfl rfl ?_ ?_ <;> (intro hb; (try intro _ hK); have hc := hb; try simp only [go_sem] at hc; simp only [go_sem, *])) | refine Qh rfl ?_ | refine Qd rfl (by kernel_rfl) ?_ | (refine Qc rfl rfl ?_ ?_ <;> (intro hb; have hc := hb; try simp only [go_sem] at hc)) | refine z8 rfl ?_ | (with_reducible (show (∀ _ : AV, _ → _) ∧ _); refine wel ?_) | (refine Qb ?_ ?_; focus kernel_rfl) | (refine x4 [0] [] (c1) (by simp) ?_ ?_ (by simp) (.inl rfl) ?_ ?_ ?_; (iterate 2 (focus (simp only [go_sem, *]; done))); (iterate 2 (focus (first | (simp; done) | (simp [go_sem]; done)))); simp only [go_sem, *]) | (refine x4 [0] [] (c2) (by simp) ?_ ?_ (by simp) (.inl rfl) ?_ ?_ ?_; (iterate 2 (focus (simp only [go_sem, *]; done))); (iterate 2 (focus (first | (simp; done) | (simp [go_sem]; done)))); simp only [go_sem, *]) | (refine x4 [0] [] (c3) (by simp) ?_ ?_ (by simp) (.inl rfl) ?_ ?_ ?_; (iterate 2 (focus (simp only [go_sem, *]; done))); (iterate 2 (focus (first | (simp; done) | (simp [go_sem]; done)))); simp only [go_sem, *]) | (refine x4 [0] [] (c4) (by simp) ?_ ?_ (by simp) (.inl rfl) ?_ ?_ ?_; (iterate 2 (focus (simp only [go_sem, *]; done))); (iterate 2 (focus (first | (simp; done) | (simp [go_sem]; done)))); simp only [go_sem, *]) | ((with_reducible apply And.intro); focus omega) | (refine z7 hK ?_; clear hK; simp only [go_sem, *]) | simp only [z6, z5, go_sem, *])
 all_goals try contradiction
 refine R8 [0] [2] c5 rfl (by simp only [go_sem]) (by simp) ?_ ?_ (by simp [go_sem]) (by simp [go_sem]) ?_
 ·simp only [go_sem, *]
 ·simp only [go_sem, *]
 simp only [go_sem, w4, *]
 repeat' (first | (refine Qr rfl ?_; try intro _ hK; try simp only [go_sem, *]) | (refine Qi rfl rfl rfl rfl ?_ ?_ <;> (intro hb; (try intro _ hK); have hc := hb; try simp only [go_sem] at hc; simp only [go_sem, *])) | refine Qh rfl ?_ | refine Qd rfl (by kernel_rfl) ?_ | (refine Qc rfl rfl ?_ ?_ <;> (intro hb; have hc := hb; try simp only [go_sem] at hc)) | refine z8 rfl ?_ | (with_reducible (show (∀ _ : AV, _ → _) ∧ _); refine wel ?_) | (refine Qb ?_ ?_; focus kernel_rfl) | (refine j5 [0] (c6) ?_; simp only [go_sem, *]) | ((with_reducible apply And.intro); focus omega) | (refine z7 hK ?_; clear hK; simp only [go_sem, *]) | simp only [z6, z5, go_sem, *])
 all_goals try contradiction
 refine R8 [0] [3] c7 rfl (by simp only [go_sem]) (by simp) ?_ ?_ (by simp [go_sem]) (by simp [go_sem]) ?_
 ·simp only [go_sem, *]
 ·simp only [go_sem, *]
 simp only [go_sem, w4, *]
 repeat' (first | (refine Qr rfl ?_; try intro _ hK; try simp only [go_sem, *]) | (refine Qi rfl rfl rfl rfl ?_ ?_ <;> (intro hb; (try intro _ hK); have hc := hb; try simp only [go_sem] at hc; simp only [go_sem, *])) | refine Qh rfl ?_ | refine Qd rfl (by kernel_rfl) ?_ | (refine Qc rfl rfl ?_ ?_ <;> (intro hb; have hc := hb; try simp only [go_sem] at hc)) | refine z8 rfl ?_ | (with_reducible (show (∀ _ : AV, _ → _) ∧ _); refine wel ?_) | (refine Qb ?_ ?_; focus kernel_rfl) | (refine j5 [0] (c8) ?_; simp only [go_sem, *]) | ((with_reducible apply And.intro); focus omega) | (refine z7 hK ?_; clear hK; simp only [go_sem, *]) | simp only [z6, z5, go_sem, *])
 all_goals try contradiction
 refine x4 [0] [] c8 (by simp) (by simp only [go_sem, *]) (by simp only [go_sem, *]) (by simp) (.inl rfl) (fun j hj => ?_) (by simp [go_sem]) ?_
 ·have hj : j < 2 := hj
  rcases j with _ | _ | j
  ·rfl
  ·rfl
  ·omega
 simp only [go_sem, *]
 clear c1 c2 c3 c4 c5 c6 c7 c8
 repeat' (first | (refine Qr rfl ?_; try intro _ hK; try simp only [go_sem, *]) | (refine Qi rfl rfl rfl rfl ?_ ?_ <;> (intro hb; (try intro _ hK); have hc := hb; try simp only [go_sem] at hc; simp only [go_sem, *])) | refine Qh rfl ?_ | refine Qd rfl (by kernel_rfl) ?_ | (refine Qc rfl rfl ?_ ?_ <;> (intro hb; have hc := hb; try simp only [go_sem] at hc)) | refine z8 rfl ?_ | (with_reducible (show (∀ _ : AV, _ → _) ∧ _); refine wel ?_) | (refine Qb ?_ ?_; focus kernel_rfl) | (refine j5 [0] (c9) ?_; simp only [go_sem, *]) | ((with_reducible apply And.intro); focus omega) | (refine z7 hK ?_; clear hK; simp only [go_sem, *]) | simp only [z6, z5, go_sem, *])
 all_goals try contradiction
 have hr0 : X4 ru 0 = [] := rfl
 clear c9
 refine y9 rfl (ru.length) (fun i => NoT i) 102 (fun i => [(7, iV i), (6, .own 3 2 0 ru.length), (5, .ptr 2 0), (4, .ptr 1 0), (0, .ptr 0 0), (1, iV 6)]) (fun i => [y4 d9, .box [.any, .any, .any, .any, .any, .any, .any], .box [iV st, iV wd, iV rw_, x8 cls, x9 hds, .own 4 2 0 (X4 ru i).length, zTN], .row 2 (ru.map Rule.enc), .row 2 ((X4 ru i).map Rule.enc)]) [some 0, some 1, some 6, some 7, none] [4, 5] (by trivial) ?_; intro i hi hP
 clear hr0
 rcases Nat.lt_or_ge i ru.length with hi2 | hi2
 ·have hs1 := zMB ru i hi2
  have hl1 := zFx ru i
  have hd1 : decide ((i : Int) < (ru.length : Int)) = true := by simp; omega
  have hd2 : decide (i < ru.length) = true := by simp; omega
  have hg : (ru.map Rule.enc).getD i AV.any = Rule.enc (ru.getD i default) := by simp [List.getD, hi2]
  clear c10 qR q0 hql
  generalize ru.getD i default = x at *
  obtain ⟨xs, xd⟩ := x
  simp only at hs1
  by_cases hq : xs = xd
  ·have hb1 : (xs == xd) = true := by simp [hq]
   rw [if_pos hq, List.append_nil] at hs1
   clear hq
   refine we1 trivial ?_
   clear hd1 hd2 hg hb1
   exact y3 (i' := i + 1) [some 0, some 1, some 2, some 3, some 4] [] (by trivial)
  ·have hb1 : (xs == xd) = false := by simp [hq]
   rw [if_neg hq] at hs1
   clear hq
   refine we1 trivial ?_
   clear hd1 hd2 hg hb1
   exact y3 (i' := i + 1) [some 0, some 1, some 2, some 3, some 6] [] (by trivial)
 ·obtain rfl : i = ru.length := by omega
  have hd1 : decide ((ru.length : Int) < (ru.length : Int)) = false := by simp
  have hd2 : decide (ru.length < ru.length) = false := by simp
  have hRl := zFx ru ru.length
  clear hP hi2 hi
  generalize X4 ru ru.length = R at *
  refine we1 (own [0] (c10)) ?_
  clear c10 hd1 hd2
  refine y9 rfl (ns.length) (fun i => NoT i) 102 (fun i => [(9, iV i), (8, .own 4 1 0 ns.length), (5, .ptr 2 0), (4, .ptr 1 0), (0, .ptr 0 0)]) (fun i => [y4 (q i).2, .box [.any, .any, .any, .any, .any, .any, .any], .box [iV st, iV wd, iV rw_, x8 cls, x9 hds, .own 3 2 0 R.length, .own 5 5 0 i], .row 2 (R.map Rule.enc), .row 1 (ns.map sV), .row 5 ((q i).1.map Per.enc)]) [some 0, some 1, some 2, some 4, some 5, none] [] (by trivial) ?_; intro i hi hP
  clear q0
  rcases Nat.lt_or_ge i ns.length with hi2 | hi2
  ·obtain ⟨p, da, sp, hR⟩ := qR i hi2
   have hqi := hql i hi
   obtain ⟨l, dl, hg1⟩ : ∃ l dl, q i = (l, dl) := ⟨_, _, rfl⟩
   obtain ⟨l', db, hg2⟩ : ∃ l' db, q (i + 1) = (l', db) := ⟨_, _, rfl⟩
   rw [hg1] at hqi sp hR ⊢
   rw [hg2] at hR
   simp only at hqi sp hR ⊢
   have hd1 : decide ((i : Int) < (ns.length : Int)) = true := by simp; omega
   have hd2 : decide (i < ns.length) = true := by simp; omega
   have hg : (ns.map sV).getD i AV.any = sV (ns.getD i default) := by simp [List.getD, hi2]
   generalize ns.getD i default = nm at *
   clear qR hql
   rcases hR with ⟨h0, hs⟩ | ⟨h0, b, d2', s4, ⟨hb, hs⟩ | ⟨hb, k, d3', hk, s5, b2, d4', s6, hs⟩⟩
   ·subst h0
    replace hs := Prod.mk.inj hs
    obtain ⟨e1, e2⟩ := hs
    subst e1 e2
    have hw01 : IntKind.i64.wrap 1 = 1 := rfl
    have hl0 : l = [] := List.eq_nil_of_length_eq_zero hqi
    subst hl0
    clear hqi
    refine we1 (own [0, 3, 5] (sp)) ?_
    clear hd1 hd2 hg
    exact y3 (i' := 0 + 1) [some 0, some 1, some 2, some 3, some 4, some 8] [] (by trivial)
   ·replace hs := Prod.mk.inj hs
    obtain ⟨e1, e2⟩ := hs
    subst e1 e2 hb
    have hd3 : decide ((i : Int) > 0) = true := decide_eq_true (by omega)
    have hd4 : decide (0 < i) = true := decide_eq_true h0
    refine we1 (cc (own [0, 3, 5] (sp)) (own [0] (s4))) ?_
    clear hd1 hd2 hd3 hd4 hg
    exact y3 (i' := i + 1) [some 0, some 1, some 2, some 3, some 4, some 8] [] (by trivial)
   ·replace hs := Prod.mk.inj hs
    obtain ⟨e1, e2⟩ := hs
    subst e2 hb
    have hd3 : decide ((i : Int) > 0) = true := decide_eq_true (by omega)
    have hd4 : decide (0 < i) = true := decide_eq_true h0
    have hw1 : IntKind.i64.wrap ((i : Int) - 1) = (i : Int) - 1 := wrap_i64 (by omega) (by omega)
    have hgk : (l.map Per.enc).getD k AV.any = Per.enc (l.getD k default) := by simp [List.getD, show k < l.length by omega]
    generalize l.getD k default = y at *
    cases b2
    ·simp only [Bool.false_eq_true, if_false] at e1
     subst e1
     repeat' (first | (refine Qr rfl ?_; try intro _ hK; try simp only [go_sem, *]) | (refine Qi rfl rfl rfl rfl ?_ ?_ <;> (intro hb; (try intro _ hK); have hc := hb; try simp only [go_sem] at hc; simp only [go_sem, *])) | refine Qh rfl ?_ | refine Qd rfl (by kernel_rfl) ?_ | (refine Qc rfl rfl ?_ ?_ <;> (intro hb; have hc := hb; try simp only [go_sem] at hc)) | refine z8 rfl ?_ | (with_reducible (show (∀ _ : AV, _ → _) ∧ _); refine wel ?_) | (refine Qb ?_ ?_; focus kernel_rfl) | (refine x4 [0, 3, 5] [] (sp) (by simp) ?_ ?_ (by simp) (.inl rfl) ?_ ?_ ?_; (iterate 2 (focus (simp only [go_sem, *]; done))); (iterate 2 (focus (first | (simp; done) | (simp [go_sem]; done)))); simp only [go_sem, *]) | (refine x4 [0] [] (s4) (by simp) ?_ ?_ (by simp) (.inl rfl) ?_ ?_ ?_; (iterate 2 (focus (simp only [go_sem, *]; done))); (iterate 2 (focus (first | (simp; done) | (simp [go_sem]; done)))); simp only [go_sem, *]) | (refine x4 [0] [] (s5) (by simp) ?_ ?_ (by simp) (.inl rfl) ?_ ?_ ?_; (iterate 2 (focus (simp only [go_sem, *]; done))); (iterate 2 (focus (first | (simp; done) | (simp [go_sem]; done)))); simp only [go_sem, *]) | (refine x4 [0] [] (s6) (by simp) ?_ ?_ (by simp) (.inl rfl) ?_ ?_ ?_; (iterate 2 (focus (simp only [go_sem, *]; done))); (iterate 2 (focus (first | (simp; done) | (simp [go_sem]; done)))); simp only [go_sem, *]) | ((with_reducible apply And.intro); focus omega) | (refine z7 hK ?_; clear hK; simp only [go_sem, *]) | simp only [z6, z5, go_sem, *])
     all_goals try contradiction
     clear hd1 hd2 hd3 hd4 hg hgk
     exact y3 (i' := i + 1) [some 0, some 1, some 2, some 3, some 4, some 8] [] (by trivial)
    ·simp only [if_true] at e1
     subst e1
     repeat' (first | (refine Qr rfl ?_; try intro _ hK; try simp only [go_sem, *]) | (refine Qi rfl rfl rfl rfl ?_ ?_ <;> (intro hb; (try intro _ hK); have hc := hb; try simp only [go_sem] at hc; simp only [go_sem, *])) | refine Qh rfl ?_ | refine Qd rfl (by kernel_rfl) ?_ | (refine Qc rfl rfl ?_ ?_ <;> (intro hb; have hc := hb; try simp only [go_sem] at hc)) | refine z8 rfl ?_ | (with_reducible (show (∀ _ : AV, _ → _) ∧ _); refine wel ?_) | (refine Qb ?_ ?_; focus kernel_rfl) | (refine x4 [0, 3, 5] [] (sp) (by simp) ?_ ?_ (by simp) (.inl rfl) ?_ ?_ ?_; (iterate 2 (focus (simp only [go_sem, *]; done))); (iterate 2 (focus (first | (simp; done) | (simp [go_sem]; done)))); simp only [go_sem, *]) | (refine x4 [0] [] (s4) (by simp) ?_ ?_ (by simp) (.inl rfl) ?_ ?_ ?_; (iterate 2 (focus (simp only [go_sem, *]; done))); (iterate 2 (focus (first | (simp; done) | (simp [go_sem]; done)))); simp only [go_sem, *]) | (refine x4 [0] [] (s5) (by simp) ?_ ?_ (by simp) (.inl rfl) ?_ ?_ ?_; (iterate 2 (focus (simp only [go_sem, *]; done))); (iterate 2 (focus (first | (simp; done) | (simp [go_sem]; done)))); simp only [go_sem, *]) | (refine x4 [0] [] (s6) (by simp) ?_ ?_ (by simp) (.inl rfl) ?_ ?_ ?_; (iterate 2 (focus (simp only [go_sem, *]; done))); (iterate 2 (focus (first | (simp; done) | (simp [go_sem]; done)))); simp only [go_sem, *]) | ((with_reducible apply And.intro); focus omega) | (refine z7 hK ?_; clear hK; simp only [go_sem, *]) | simp only [z6, z5, go_sem, *])
     all_goals try contradiction
     clear hd1 hd2 hd3 hd4 hg hgk
     exact y3 (i' := i + 1) [some 0, some 1, some 2, some 3, some 4, some 8] [] (by trivial)
  ·obtain rfl : i = ns.length := by omega
   have hd1 : decide ((ns.length : Int) < (ns.length : Int)) = false := by simp
   have hd2 : decide (ns.length < ns.length) = false := by simp
   have hqi := hql ns.length hi
   clear qR hql
   refine we1 trivial ?_
   refine ⟨[.agg [iV st, iV wd, iV rw_, x8 cls, x9 hds, .own 3 2 0 R.length, .own 5 5 0 ns.length]], [some 0, some 3, some 5], [], ⟨(by simp only [Z2, go_sem]), trivial⟩, ?_⟩
   simp only [go_sem, *]
end Go.Abs

namespace Go.Abs
open Go
theorem zFW (p : Hd → Bool) (x : Int) : ∀ (l : List Hd) (i : Nat), x ∈ O1 p l i ↔ ∃ k, k < l.length ∧ x = ((i + k : Nat) : Int) ∧ p (l.getD k default) = true
  | [], i => by simp [O1]
  | h :: r, i => by
    rw [O1, List.mem_append, zFW p x r (i + 1)]
    constructor
    · rintro (h1 | ⟨k, h1, h2, h3⟩)
      · by_cases hp : p h = true
        · rw [if_pos hp] at h1
          exact ⟨0, by simp, by simpa using h1, by simpa using hp⟩
        · rw [if_neg hp] at h1; simp at h1
      · exact ⟨k + 1, by simp; omega, by rw [h2]; congr 1; omega, by simpa using h3⟩
    · rintro ⟨k, h1, h2, h3⟩
      cases k with
      | zero => exact .inl (by have h3 : p h = true := by simpa using h3
                               rw [if_pos h3]; simpa using h2)
      | succ k => exact .inr ⟨k, by simp at h1; omega, by rw [h2]; congr 1; omega, by simpa using h3⟩
theorem zLQ {l : List Per} {tr : List Int} {n : Nat} : n ∈ ofV l tr ↔ n < l.length ∧ (l.getD n default).head ≠ -1 ∧ (l.getD n default).head ∈ tr := by
 unfold ofV
 rw [List.mem_filter]
 unfold Q2
 rw [(L5 _ _).mem_iff, List.mem_filter, List.mem_range]
 simp only [zTA, bne_iff_ne, List.any_eq_true, beq_iff_eq]
 constructor
 ·rintro ⟨⟨h1, h2⟩, y, h3, h4⟩
  exact ⟨h1, h2, h4 ▸ h3⟩
 ·rintro ⟨h1, h2, h3⟩
  exact ⟨⟨h1, h2⟩, _, h3, rfl⟩
theorem zFn {v : Vol} {p : Per} (h : K6 v p = 0) : -1 ≤ p.head ∧ p.head < v.tr.hds.length ∧ (0 ≤ p.head → (v.tr.hds.getD p.head.toNat default).cls ≠ -1) := by
 unfold K6 at h
 split at h
 ·exact absurd h (by assumption)
 split at h
 ·simp at h
 split at h
 ·simp at h
 split at h
 ·simp at h
 rename_i q
 split at h
 ·simp at h
 rename_i q2
 simp only [Bool.not_eq_false] at q
 unfold btw at q
 simp only [Bool.and_eq_true, decide_eq_true_eq] at q
 exact ⟨q.1, by omega, fun h0 hc => q2 ⟨h0, hc⟩⟩
theorem zJ6 {t : Trd} (v : b8 t = 0) {k : Nat} (hk : k < t.hds.length) (hc : (t.hds.getD k default).cls ≠ -1) : (t.hds.getD k default).see = -1 := by
 unfold b8 at v
 split at v
 ·simp at v
 split at v
 ·exact absurd v (by assumption)
 have := zA5 v k (Nat.zero_le _) (by omega)
 unfold U3 at this
 simp only at this
 split at this
 ·simp at this
 split at this
 ·simp at this
 split at this
 ·simp at this
 split at this
 ·simp at this
 split at this
 ·simp at this
 split at this
 ·exact absurd this (by assumption)
 unfold Y2 at this
 split at this
 ·simp at this
 rename_i q
 apply Decidable.of_not_not
 intro hs
 exact q (.inl ⟨hs, .inl hc⟩)
theorem zBM {v : Vol} (ok : VolOK v) {n c : Nat} (hn : n < v.people.length) : n ∈ ofV v.people (Y8 v.tr c) ↔
  0 ≤ (v.people.getD n default).head ∧ zTE ((W8 v.tr).getD (v.tr.hds.getD (v.people.getD n default).head.toNat default).cls.toNat 0) c = true := by
 have hp := zFn (ok.pe _ (j9 hn))
 rw [zLQ]
 unfold Y8
 rw [zFW]
 constructor
 ·rintro ⟨_, h1, k, h2, h3, h4⟩
  rw [Nat.zero_add] at h3
  have hk : (v.people.getD n default).head.toNat = k := by omega
  rw [hk]
  unfold zTl at h4
  simp only [Bool.and_eq_true] at h4
  exact ⟨by omega, h4.2⟩
 ·rintro ⟨h1, h2⟩
  have hc := hp.2.2 h1
  have hlt : (v.people.getD n default).head.toNat < v.tr.hds.length := by omega
  refine ⟨hn, by omega, _, hlt, by omega, ?_⟩
  unfold zTl
  rw [h2, zJ6 ok.tr hlt hc]
  simp only [Bool.and_true, Bool.and_eq_true, decide_true, true_and, Bool.not_eq_true', decide_eq_false_iff_not]
  exact hc
end Go.Abs

namespace Go.Abs
open Go
structure Pk where
 town : zS2
 tr : Trd
 rules : List Rule
 p : Per
 q : Per
 deriving Inhabited
@[reducible] def Pk.cells (k : Pk) : List AV := [.list (k.town.map x7), .list [], .list [], x8 k.tr.cls, x9 k.tr.hds, x5 k.rules, y8 [k.p], y8 [k.q], iV 0, iV 0, iV 0, .list []]
@[reducible] def Pk.enc (k : Pk) : AV := .agg k.cells
attribute [go_sem] Pk.cells Pk.enc
def H6 (p : Per) : House := ⟨p.street, ⟨p.number, 0⟩⟩
def j4 (n : Nat) (p : Per) : zS2 := (List.range n).map fun i : Nat => if (i : Int) = p.street then [⟨p.number, 0⟩] else []
theorem zAi (n : Nat) (p : Per) : (j4 n p).length = n := by simp [j4]
theorem zPk {n : Nat} {p : Per} (hn : 1 ≤ n ∧ n ≤ 3) (hp : 1 ≤ p.number ∧ p.number ≤ 40) : check (j4 n p) = 0 := by
 rw [E5]
 refine ⟨by rw [zAi]; omega, by rw [zAi]; omega, fun l hl => ?_⟩
 unfold j4 at hl
 obtain ⟨i, _, rfl⟩ := List.mem_map.1 hl
 split
 ·refine ⟨by simp, fun x hx => ?_, by simp⟩
  rw [List.mem_singleton.1 hx]
  unfold Plate.ok zTf
  simp; omega
 ·exact ⟨by simp, fun x hx => (by cases hx), by simp⟩
theorem zPj {n : Nat} {p : Per} (hs : 0 ≤ p.street ∧ p.street < n) : H6 p ∈ x6 (j4 n p) := by
 rw [mem_houses, zAi]
 refine ⟨hs.1, hs.2, ?_⟩
 show (⟨p.number, 0⟩ : Plate) ∈ (j4 n p).getD p.street.toNat default
 have hlt : p.street.toNat < n := by omega
 have e : (j4 n p).getD p.street.toNat default = [⟨p.number, 0⟩] := by
  unfold j4
  simp [List.getD, hlt]
  omega
 rw [e]; simp
def M0 (k : Pk) : Bool := decide (H6 k.q ∈ [H6 k.p])
@[reducible] def zTY (b : Bool) : AV := .agg [bV b, bV false, bV false, bV false, bV false, bV false, bV false, bV false, bV false, bV false, bV false, bV false, bV false, bV false, bV false, bV false]
@[reducible] def Q5 (k : Pk) : AObj := .box [.list (k.town.map x7), .list [], .list [], x8 k.tr.cls, x9 k.tr.hds, x5 k.rules, y8 [k.p], y8 [k.q], iV 0, iV 0, iV 0, .list [], .own 1 16 0 1]
attribute [go_sem] zTY Q5
structure PerK (k : Pk) (p : Per) : Prop where
 nm : s9 p.name = 0
 hd : -1 ≤ p.head ∧ p.head < k.tr.hds.length
 cl : 0 ≤ p.head → (k.tr.hds.getD p.head.toNat default).cls ≠ -1
 st : 0 ≤ p.street ∧ p.street < k.town.length
 no : 1 ≤ p.number ∧ p.number ≤ 40
 bo : p.bold = false
structure PkOK (k : Pk) : Prop where
 town : check k.town = 0
 home : H6 k.p ∈ x6 k.town
 tr : b8 k.tr = 0
 also : ∀ h, h ∈ k.tr.hds → h.also.length ≤ 4294967296
 rl : k.rules.length ≤ 4294967296
 rs : ∀ x, x ∈ k.rules → x.src.length ≤ 4294967296 ∧ x.dst.length ≤ 4294967296
 ve : F0 k.rules [97] [97] = 0
 pp : PerK k k.p
 pq : PerK k k.q
 vn : F0 k.rules k.p.name k.q.name = 0
theorem PkOK.tl {k : Pk} (ok : PkOK k) : 1 ≤ k.town.length ∧ k.town.length ≤ 3 := by
 have v := (E5 _).1 ok.town
 exact ⟨v.ne, v.len⟩
theorem PkOK.row {k : Pk} (ok : PkOK k) : (⟨k.p.number, 0⟩ : Plate) ∈ k.town.getD k.p.street.toNat default := (mem_houses.1 ok.home).2.2
theorem PkOK.rowl {k : Pk} (ok : PkOK k) (i : Nat) : (k.town.getD i default).length ≤ 8 := by
 have v := (E5 _).1 ok.town
 by_cases h : i < k.town.length
 ·exact (v.rows _ (j9 h)).len
 ·simp [List.getD, List.getElem?_eq_none (Nat.le_of_not_lt h)]
  show ([] : List Plate).length ≤ 8
  simp
end Go.Abs

namespace Go.Abs
open Go Go.Proofs Tryz
attribute [local irreducible] q9 Hold y2
variable [Cur]
theorem zGS (k : Pk) (ok : PkOK k) (p : Per) (hp : PerK k p) (old : Bool) (ho : old = true → (⟨p.number, 0⟩ : Plate) ∈ k.town.getD p.street.toNat default) : zSx prog 168 [k.enc, p.enc, bV old] [] (iV 0) [] := by
 have htl := ok.tl
 have hrl := ok.rowl p.street.toNat
 have hh6 := R3 ok.tr
 have sc := zC9 p.name
 rw [hp.nm] at sc
 have s2 := zAa p.head (-1) (k.tr.hds.length - 1)
 have s3 := zAa p.street 0 (k.town.length - 1)
 have s4 := zAa p.number 1 40
 have b2 : btw p.head (-1) (k.tr.hds.length - 1) = true := by have := hp.hd; unfold btw; simp; omega
 have b3 : btw p.street 0 (k.town.length - 1) = true := by have := hp.st; unfold btw; simp; omega
 have b4 : btw p.number 1 40 = true := by have := hp.no; unfold btw; simp; omega
 rw [b2] at s2
 rw [b3] at s3
 rw [b4] at s4
 clear b2 b3 b4
 have sh := zDE p
 have hs1 := hp.st
 have hcl := hp.cl
 have hhd := hp.hd
 have hbo := hp.bo
 have hst : p.street.toNat < k.town.length := by omega
 have hg : (k.town.map x7).getD p.street.toNat AV.any = x7 (k.town.getD p.street.toNat default) := by simp [List.getD, hst]
 have sk := zM4 (k.town.getD p.street.toNat default) ⟨p.number, 0⟩ (by omega)
 clear ok hp
 obtain ⟨town, ⟨cls, hds⟩, rules, p0, q0⟩ := k
 obtain ⟨nm, ps, pn, ph, pb⟩ := p
 simp only [Pk.enc, Pk.cells, Per.enc] at *
 generalize town.getD ps.toNat default = row at *
 have hws : IntKind.i64.wrap ((town.length : Int) - 1) = (town.length : Int) - 1 := wrap_i64 (by omega) (by omega)
 have hwh : IntKind.i64.wrap ((hds.length : Int) - 1) = (hds.length : Int) - 1 := wrap_i64 (by omega) (by omega)
 subst hbo
 have hdc : old = true → decide ((⟨pn, 0⟩ : Plate) ∈ row) = true := fun h => by simpa using ho h
 clear ho
 by_cases hp0 : 0 ≤ ph
 ·have hd1 : decide (ph ≥ 0) = true := by simp; omega
  have hd2 : decide (0 ≤ ph) = true := by simp; omega
  have hq1 : ph.toNat < hds.length := by omega
  have hq2 : ph < hds.length := by omega
  have hc1 := hcl hp0
  cases old
  ·clear hdc sk sh hcl
   refine z9 func168 rfl (fun E hE => ?_); simp only [go_sem, ntmps168]
   refine we1 (cc sc (cc s2 (cc s3 s4))) ?_
   all_goals try (focus ((refine ⟨[_], [], [], ⟨rfl, trivial⟩, ?_⟩; simp only [go_sem, *]); done))
  ·have hdc := hdc rfl
   rw [hdc] at sk
   clear hdc hcl
   refine z9 func168 rfl (fun E hE => ?_); simp only [go_sem, ntmps168]
   refine we1 (cc sc (cc s2 (cc s3 (cc s4 (cc sh sk))))) ?_
   all_goals try (focus ((refine ⟨[_], [], [], ⟨rfl, trivial⟩, ?_⟩; simp only [go_sem, *]); done))
 ·have hd1 : decide (ph ≥ 0) = false := by simp; omega
  have hd2 : decide (0 ≤ ph) = false := by simp; omega
  cases old
  ·clear hdc sk sh hcl
   refine z9 func168 rfl (fun E hE => ?_); simp only [go_sem, ntmps168]
   refine we1 (cc sc (cc s2 (cc s3 s4))) ?_
   all_goals try (focus ((refine ⟨[_], [], [], ⟨rfl, trivial⟩, ?_⟩; simp only [go_sem, *]); done))
  ·have hdc := hdc rfl
   rw [hdc] at sk
   clear hdc hcl
   refine z9 func168 rfl (fun E hE => ?_); simp only [go_sem, ntmps168]
   refine we1 (cc sc (cc s2 (cc s3 (cc s4 (cc sh sk))))) ?_
   all_goals try (focus ((refine ⟨[_], [], [], ⟨rfl, trivial⟩, ?_⟩; simp only [go_sem, *]); done))
theorem zGR (k : Pk) (p : Per) (old : Bool) (sc : zSx prog 168 [k.enc, p.enc, bV old] [] (iV 0) []) : zSx prog 142 [k.enc, y8 [p], bV old] [] (iV 0) [] := by
 have hw1 : IntKind.i64.wrap 1 = 1 := rfl
 obtain ⟨town, ⟨cls, hds⟩, rules, p0, q0⟩ := k
 simp only [Pk.enc, Pk.cells] at *
 refine z9 func142 rfl (fun E hE => ?_); simp only [go_sem, ntmps142]
 refine we1 trivial ?_
 refine y9 rfl (1) (fun i => NoS i) 27 (fun i => [(15, iV i), (14, iV 1), (13, y8 [p]), (3, .ptr 0 0), (2, bV old)]) (fun i => [.box [.list (town.map x7), .list [], .list [], x8 cls, x9 hds, x5 rules, y8 [p0], y8 [q0], iV 0, iV 0, iV 0, .list []]]) [some 0] [] (by trivial) ?_; intro i hi hP
 rcases Nat.lt_or_ge i 1 with hi2 | hi2
 ·obtain rfl : i = 0 := by omega
  refine we1 sc ?_
  clear sc
  exact y3 (i' := 0 + 1) [some 0] [] (by trivial)
 ·obtain rfl : i = 1 := by omega
  refine we1 trivial ?_
  (refine ⟨[_], [], [], ⟨rfl, trivial⟩, ?_⟩; simp only [go_sem, *])
end Go.Abs

namespace Go.Abs
open Go Go.Proofs Tryz
attribute [local irreducible] q9 Hold y2
variable [Cur]
theorem zN9 (k : Pk) (ok : PkOK k) : zSx prog 116 [k.enc] [] (.list [.list []]) [] := by
 have sT := zNQ k.town ok.town
 have sc := zGX k.tr ok.tr ok.also
 have sv := zDD k.rules [97] [97] ok.rl ok.rs
 rw [ok.ve] at sv
 have sp := zGR k k.p true (zGS k ok k.p ok.pp true (fun _ => ok.row))
 have sq := zGR k k.q false (zGS k ok k.q ok.pq false (fun h => by cases h))
 have sb := zAa 0 0 4
 have b1 : btw 0 0 4 = true := rfl
 rw [b1] at sb
 clear b1 ok
 generalize B8 k.rules [97] [97] = vv at *
 obtain ⟨town, ⟨cls, hds⟩, rules, p, q⟩ := k
 simp only [Pk.enc, Pk.cells, Trd.enc] at *
 refine z9 func116 rfl (fun E hE => ?_); simp only [go_sem, ntmps116]
 repeat' (first | (refine Qr rfl ?_; try intro _ hK; try simp only [go_sem, *]) | (refine Qi rfl rfl rfl rfl ?_ ?_ <;> (intro hb; (try intro _ hK); have hc := hb; try simp only [go_sem] at hc; simp only [go_sem, *])) | refine Qh rfl ?_ | refine Qd rfl (by kernel_rfl) ?_ | (refine Qc rfl rfl ?_ ?_ <;> (intro hb; have hc := hb; try simp only [go_sem] at hc)) | refine z8 rfl ?_ | (with_reducible (show (∀ _ : AV, _ → _) ∧ _); refine wel ?_) | (refine Qb ?_ ?_; focus kernel_rfl) | ((first | refine y5 (sT) ?_ | refine y5 (sc) ?_ | refine y5 (sv) ?_ | refine y5 (sb) ?_ | refine y5 (zBg) ?_); simp only [go_sem, *]) | (refine r7 (sp) ?_ ?_; (focus (simp only [go_sem, *]; done)); simp only [go_sem, *]) | (refine r7 (sq) ?_ ?_; (focus (simp only [go_sem, *]; done)); simp only [go_sem, *]) | ((with_reducible apply And.intro); focus omega) | (refine z7 hK ?_; clear hK; simp only [go_sem, *]) | simp only [z6, z5, go_sem, *])
 all_goals try contradiction
 clear sT sc sv sp sq sb
 refine y9 rfl (0) (fun i => NoS i) 87 (fun i => [(72, iV i), (71, iV 0), (70, .list []), (3, .list [.list []])]) (fun i => []) [] [] (by trivial) ?_; intro i hi hP
 obtain rfl : i = 0 := by omega
 refine we1 trivial ?_
 (refine ⟨[_], [], [], ⟨rfl, trivial⟩, ?_⟩; simp only [go_sem, *])
end Go.Abs

namespace Go.Abs
open Go Go.Proofs Tryz
variable [Cur]
theorem zN6 (k : Pk) (ok : PkOK k) : zSx prog 93 [k.enc] [] (.tup [.ptr 0 0, iV 0]) [Q5 k, .row 16 [zTY (M0 k)]] := by
 have sw := zNS k.town ok.town (H6 k.p) ok.home
 exact zN7 (k.town.map x7) (k.tr.cls.map Cl.enc) (k.tr.hds.map Hd.enc) (k.rules.map Rule.enc) k.p k.q (M0 k) (zN9 k ok) (zDE k.p) (zDE k.q) zBg sw (zDB [H6 k.p] (H6 k.q) (by simp))
end Go.Abs

namespace Go.Abs
open Go Go.Proofs Tryz
attribute [local irreducible] q9 Hold y2
variable [Cur]
theorem zN5 (k : Pk) (b : Bool) : zSx prog 56 [.ptr 0 0] [Q5 k, .row 16 [zTY b]] (u8V 0) [Q5 k, .row 16 [zTY b]] := by
 have h8 : u8V (IntKind.u8.wrap (zUQ 1 0 - 1)) = u8V 0 := rfl
 refine z9 func56 rfl (fun E hE => ?_); simp only [go_sem, ntmps56]
 refine wk1 trivial ?_
 refine ⟨[_], [some 0, some 1], [], ⟨rfl, trivial⟩, ?_⟩
 simp only [go_sem, *]
theorem zOG : zSx prog 55 [] [] (.agg [zTj 188, zTj 189, zTj 190]) [] := by
 refine z9 func55 rfl (fun E hE => ?_); simp only [go_sem, ntmps55]
 refine wk1 trivial ?_
 refine ⟨[.agg [zTj 188, zTj 189, zTj 190]], [], [], ⟨(by simp only [Z2, go_sem]), trivial⟩, ?_⟩; simp only [go_sem, *]
theorem zNj : zSx prog 311 [.agg []] [] (iV 1) [] := by
 refine z9 func311 rfl (fun E hE => ?_); simp only [go_sem, ntmps311]
 refine wk1 trivial ?_
 (refine ⟨[_], [], [], ⟨rfl, trivial⟩, ?_⟩; simp only [go_sem, *])
theorem zGM : zSx prog 313 [.agg []] [] (iV 2) [] := by
 refine z9 func313 rfl (fun E hE => ?_); simp only [go_sem, ntmps313]
 refine wk1 trivial ?_
 (refine ⟨[_], [], [], ⟨rfl, trivial⟩, ?_⟩; simp only [go_sem, *])
theorem sp_code3 : zSx prog 315 [.agg []] [] (iV 3) [] := by
 refine z9 func315 rfl (fun E hE => ?_); simp only [go_sem, ntmps315]
 refine wk1 trivial ?_
 (refine ⟨[_], [], [], ⟨rfl, trivial⟩, ?_⟩; simp only [go_sem, *])
end Go.Abs

namespace Go.Abs
open Go Go.Proofs Tryz
attribute [local irreducible] q9 Hold y2
variable [Cur]
def U6 (k : Pk) : Bool := B8 k.rules k.p.name k.q.name == 2
def V8 (k : Pk) : Bool := if k.p.head < 0 ∨ k.q.head < 0 ∨ k.p.head = k.q.head then false
 else decide (S5 k.tr (k.tr.hds.getD k.p.head.toNat default).cls.toNat (k.tr.hds.getD k.q.head.toNat default).cls.toNat < 0)
theorem zOW (k : Pk) (ok : PkOK k) (b : Bool) : zSx prog 310 [.agg [], .ptr 0 0, iV 0, iV 0, u8V 0] [Q5 k, .row 16 [zTY b]] (bV (U6 k)) [Q5 k, .row 16 [zTY b]] := by
 have sv := zDD k.rules k.p.name k.q.name ok.rl ok.rs
 rw [ok.vn] at sv
 unfold U6
 clear ok
 generalize B8 k.rules k.p.name k.q.name = v at *
 obtain ⟨town, ⟨cls, hds⟩, rules, ⟨pn, ps, pz, ph, pb⟩, ⟨qn, qs, qz, qh, qb⟩⟩ := k
 have hp : y8 [(⟨pn, ps, pz, ph, pb⟩ : Per)] = .list [.agg [sV pn, iV ps, iV pz, iV ph, bV pb]] := rfl
 have hq : y8 [(⟨qn, qs, qz, qh, qb⟩ : Per)] = .list [.agg [sV qn, iV qs, iV qz, iV qh, bV qb]] := rfl
 simp only [Q5, hp, hq] at *
 clear hp hq
 refine z9 func310 rfl (fun E hE => ?_); simp only [go_sem, ntmps310]
 refine we1 (cc sv zBg) ?_
 refine ⟨[_], [some 0, some 1], [], ⟨rfl, trivial⟩, ?_⟩
 simp only [go_sem, *]
theorem zNY (k : Pk) (ok : PkOK k) (b : Bool) : zSx prog 312 [.agg [], .ptr 0 0, iV 0, iV 0, u8V 0] [Q5 k, .row 16 [zTY b]] (bV (V8 k)) [Q5 k, .row 16 [zTY b]] := by
 obtain ⟨R, hR⟩ : ∃ r, r = V8 k := ⟨_, rfl⟩
 rw [← hR]
 unfold V8 at hR
 have hpd := ok.pp.hd
 have hqd := ok.pq.hd
 have hpc := ok.pp.cl
 have hqc := ok.pq.cl
 have sl := zDC k.tr ok.tr ok.also
 have hcl := fun j => zCW (k := j) ok.tr
 clear ok
 obtain ⟨town, ⟨cls, hds⟩, rules, ⟨pn, ps, pz, ph, pb⟩, ⟨qn, qs, qz, qh, qb⟩⟩ := k
 have hp : y8 [(⟨pn, ps, pz, ph, pb⟩ : Per)] = .list [.agg [sV pn, iV ps, iV pz, iV ph, bV pb]] := rfl
 have hq : y8 [(⟨qn, qs, qz, qh, qb⟩ : Per)] = .list [.agg [sV qn, iV qs, iV qz, iV qh, bV qb]] := rfl
 simp only [Q5, hp, hq] at *
 clear hp hq
 by_cases q1 : ph < 0
 ·have hd1 : decide (ph < 0) = true := by simp; omega
  rw [if_pos (.inl q1)] at hR
  subst hR
  clear sl hcl hpc hqc hpd hqd q1
  refine z9 func312 rfl (fun E hE => ?_); simp only [go_sem, ntmps312]
  refine we1 trivial ?_
  refine ⟨[_], [some 0, some 1], [], ⟨rfl, trivial⟩, ?_⟩
  simp only [go_sem, *]
 have hd1 : decide (ph < 0) = false := by simp; omega
 by_cases q2 : qh < 0
 ·have hd2 : decide (qh < 0) = true := by simp; omega
  rw [if_pos (.inr (.inl q2))] at hR
  subst hR
  clear sl hcl hpc hqc hpd hqd q2 q1
  refine z9 func312 rfl (fun E hE => ?_); simp only [go_sem, ntmps312]
  refine we1 trivial ?_
  refine ⟨[_], [some 0, some 1], [], ⟨rfl, trivial⟩, ?_⟩
  simp only [go_sem, *]
 have hd2 : decide (qh < 0) = false := by simp; omega
 by_cases q3 : ph = qh
 ·rw [if_pos (.inr (.inr q3))] at hR
  subst hR
  subst q3
  have hd3 : (ph == ph) = true := by simp
  clear sl hcl hpc hqc hpd hqd q2 q1
  refine z9 func312 rfl (fun E hE => ?_); simp only [go_sem, ntmps312]
  refine we1 trivial ?_
  refine ⟨[_], [some 0, some 1], [], ⟨rfl, trivial⟩, ?_⟩
  simp only [go_sem, *]
 have hd3 : (ph == qh) = false := by simpa using q3
 rw [if_neg (by omega)] at hR
 have hpl : ph.toNat < hds.length := by omega
 have hql : qh.toNat < hds.length := by omega
 have c1 := hcl _ hpl
 have c2 := hcl _ hql
 have n1 := hpc (by omega)
 have n2 := hqc (by omega)
 have g1 : ((hds.getD ph.toNat default).cls.toNat : Int) = (hds.getD ph.toNat default).cls := by omega
 have g2 : ((hds.getD qh.toNat default).cls.toNat : Int) = (hds.getD qh.toNat default).cls := by omega
 have sl := sl (hds.getD ph.toNat default).cls.toNat (hds.getD qh.toNat default).cls.toNat (by omega) (by omega)
 rw [g1, g2] at sl
 subst hR
 generalize S5 ⟨cls, hds⟩ (hds.getD ph.toNat default).cls.toNat (hds.getD qh.toNat default).cls.toNat = L at *
 have hq1 : 0 ≤ ph := by omega
 have hq2 : 0 ≤ qh := by omega
 have hq3 : ph < hds.length := by omega
 have hq4 : qh < hds.length := by omega
 clear hcl hpc hqc c1 c2 n1 n2 g1 g2 hpd hqd q1 q2 q3
 refine z9 func312 rfl (fun E hE => ?_); simp only [go_sem, ntmps312]
 refine we1 (cc sl zBg) ?_
 refine ⟨[_], [some 0, some 1], [], ⟨rfl, trivial⟩, ?_⟩
 simp only [go_sem, *]
theorem zOR (k : Pk) (b : Bool) : zSx prog 314 [.agg [], .ptr 0 0, iV 0, iV 0, u8V 0] [Q5 k, .row 16 [zTY b]] (bV false) [Q5 k, .row 16 [zTY b]] := by
 simp only [Q5]
 refine z9 func314 rfl (fun E hE => ?_); simp only [go_sem, ntmps314]
 refine we1 trivial ?_
 refine y9 rfl (0) (fun i => NoS i) 45 (fun i => [(19, iV i), (18, iV 0), (17, .list [])]) (fun i => [Q5 k, .row 16 [zTY b]]) [some 0, some 1] [] (by trivial) ?_; intro i hi hP
 obtain rfl : i = 0 := by omega
 refine we1 trivial ?_
 refine ⟨[_], [some 0, some 1], [], ⟨rfl, trivial⟩, ?_⟩
 simp only [go_sem, *]
end Go.Abs

namespace Go.Abs
open Go Go.Proofs Tryz
attribute [local irreducible] q9 Hold y2
variable [Cur]
theorem zOA (k : Pk) (ok : PkOK k) : zSx prog 54 [k.enc, iV 0, iV 0] [] (.tup [.ptr 0 0, iV 0]) [Q5 k, .row 16 [zTY (M0 k)]] := by
 have sb := zN6 k ok
 have s0 := zAa 0 0 0
 have b0 : btw 0 0 0 = true := rfl
 rw [b0] at s0
 clear b0 ok
 have hw0 : IntKind.i64.wrap 0 = 0 := rfl
 generalize M0 k = b at *
 obtain ⟨town, ⟨cls, hds⟩, rules, p, q⟩ := k
 simp only [Pk.enc, Pk.cells, Q5] at *
 refine z9 func54 rfl (fun E hE => ?_); simp only [go_sem, ntmps54]
 refine we1 (cc sb s0) ?_
 refine ⟨[_, _], [some 1, some 2], [], ⟨rfl, rfl, trivial⟩, ?_⟩
 simp only [go_sem, *]
def zUE (k : Pk) : Nat → List Nat
 | 0 => []
 | 1 => if U6 k = true then [1] else []
 | _ => (if U6 k = true then [1] else []) ++ (if V8 k = true then [2] else [])
def T3 (k : Pk) : List Nat := (if U6 k = true then [1] else []) ++ (if V8 k = true then [2] else [])
theorem zHU : F3 prog 188 (.agg #[]) "wayzgoose/kin.apart" := fun w => ⟨by kernel_rfl, fun es => by kernel_rfl⟩
theorem zHV : F3 prog 189 (.agg #[]) "wayzgoose/kin.apart" := fun w => ⟨by kernel_rfl, fun es => by kernel_rfl⟩
theorem zHW : F3 prog 190 (.agg #[]) "wayzgoose/kin.apart" := fun w => ⟨by kernel_rfl, fun es => by kernel_rfl⟩
theorem zGG (k : Pk) (ok : PkOK k) : zSx prog 16 [k.enc, iV 0, iV 0] [] (.tup [.own 0 1 0 (T3 k).length, iV 0]) [.row 1 ((T3 k).map pnV)] := by
 have sp := zOA k ok
 have sa := zN5 k (M0 k)
 have s1 := zOW k ok (M0 k)
 have s2 := zNY k ok (M0 k)
 have s3 := zOR k (M0 k)
 have a1 := zHU
 have a2 := zHV
 have a3 := zHW
 have h0 : zUE k 0 = [] := rfl
 have h1 : zUE k 1 = if U6 k = true then [1] else [] := rfl
 have h2 : zUE k 2 = (if U6 k = true then [1] else []) ++ (if V8 k = true then [2] else []) := rfl
 have h3 : zUE k 3 = (if U6 k = true then [1] else []) ++ (if V8 k = true then [2] else []) := rfl
 have hV : T3 k = (if U6 k = true then [1] else []) ++ (if V8 k = true then [2] else []) := rfl
 have hw1 : IntKind.i64.wrap 1 = 1 := rfl
 have hw2 : IntKind.i64.wrap 2 = 2 := rfl
 have hw3 : IntKind.i64.wrap 3 = 3 := rfl
 rw [hV]
 clear ok hV
 generalize U6 k = n1 at *
 generalize V8 k = n2 at *
 generalize M0 k = b at *
 generalize zUE k = A at *
 obtain ⟨town, ⟨cls, hds⟩, rules, p, q⟩ := k
 simp only [Pk.enc, Pk.cells, Q5] at *
 refine z9 func16 rfl (fun E hE => ?_); simp only [go_sem, ntmps16]
 refine we1 (cc sp zOG) ?_
 clear sp
 refine y9 rfl (3) (fun i => NoT i) 44 (fun i => [(24, iV i), (23, .agg [zTj 188, zTj 189, zTj 190]), (10, .own 2 1 0 (A i).length), (8, .ptr 0 0), (1, iV 0), (2, iV 0)]) (fun i => [.box [.list (town.map x7), .list [], .list [], x8 cls, x9 hds, x5 rules, y8 [p], y8 [q], iV 0, iV 0, iV 0, .list [], .own 1 16 0 1], .row 16 [zTY b], .row 1 ((A i).map pnV)]) [some 1, some 2, none] [] (by trivial) ?_; intro i hi hP
 have hi4 : i = 0 ∨ i = 1 ∨ i = 2 ∨ i = 3 := by omega
 rcases hi4 with rfl | rfl | rfl | rfl
 ·clear s2 s3 h2 h3
  repeat' (first | (refine Qr rfl ?_; try intro _ hK; try simp only [go_sem, *]) | refine Qh rfl ?_ | refine Qd rfl (by kernel_rfl) ?_ | (refine Qc rfl rfl ?_ ?_ <;> (intro hb; have hc := hb; try simp only [go_sem] at hc)) | refine z8 rfl ?_ | (with_reducible (show (∀ _ : AV, _ → _) ∧ _); refine wel ?_) | (refine Qb ?_ ?_; focus kernel_rfl) | (refine x4 [0, 1] [] (sa) (by simp) ?_ ?_ (by simp) (.inl rfl) ?_ ?_ ?_; (iterate 2 (focus (simp only [go_sem, *]; done))); (iterate 2 (focus (first | (simp; done) | (simp [go_sem]; done)))); simp only [go_sem, *]) | (refine x4 [0, 1] [] (s1) (by simp) ?_ ?_ (by simp) (.inl rfl) ?_ ?_ ?_; (iterate 2 (focus (simp only [go_sem, *]; done))); (iterate 2 (focus (first | (simp; done) | (simp [go_sem]; done)))); simp only [go_sem, *]) | (refine y5 (zNj) ?_; simp only [go_sem, *]) | ((with_reducible apply And.intro); focus omega) | (refine z7 hK ?_; clear hK; simp only [go_sem, *]) | simp only [z6, z5, go_sem, *])
  all_goals try contradiction
  ·exact y3 (i' := 0 + 1) [some 0, some 1, some 4] [] (by trivial)
  ·exact y3 (i' := 0 + 1) [some 0, some 1, some 2] [] (by trivial)
 ·clear s1 s3 h0 h3
  cases n1
  ·simp only [Bool.false_eq_true, if_true, if_false, List.nil_append] at h1 h2
   repeat' (first | (refine Qr rfl ?_; try intro _ hK; try simp only [go_sem, *]) | refine Qh rfl ?_ | refine Qd rfl (by kernel_rfl) ?_ | (refine Qc rfl rfl ?_ ?_ <;> (intro hb; have hc := hb; try simp only [go_sem] at hc)) | refine z8 rfl ?_ | (with_reducible (show (∀ _ : AV, _ → _) ∧ _); refine wel ?_) | (refine Qb ?_ ?_; focus kernel_rfl) | (refine x4 [0, 1] [] (sa) (by simp) ?_ ?_ (by simp) (.inl rfl) ?_ ?_ ?_; (iterate 2 (focus (simp only [go_sem, *]; done))); (iterate 2 (focus (first | (simp; done) | (simp [go_sem]; done)))); simp only [go_sem, *]) | (refine x4 [0, 1] [] (s2) (by simp) ?_ ?_ (by simp) (.inl rfl) ?_ ?_ ?_; (iterate 2 (focus (simp only [go_sem, *]; done))); (iterate 2 (focus (first | (simp; done) | (simp [go_sem]; done)))); simp only [go_sem, *]) | (refine y5 (zGM) ?_; simp only [go_sem, *]) | ((with_reducible apply And.intro); focus omega) | (refine z7 hK ?_; clear hK; simp only [go_sem, *]) | simp only [z6, z5, go_sem, *])
   all_goals try contradiction
   ·exact y3 (i' := 1 + 1) [some 0, some 1, some 4] [] (by trivial)
   ·exact y3 (i' := 1 + 1) [some 0, some 1, some 2] [] (by trivial)
  ·simp only [Bool.false_eq_true, if_true, if_false, List.nil_append] at h1 h2
   repeat' (first | (refine Qr rfl ?_; try intro _ hK; try simp only [go_sem, *]) | refine Qh rfl ?_ | refine Qd rfl (by kernel_rfl) ?_ | (refine Qc rfl rfl ?_ ?_ <;> (intro hb; have hc := hb; try simp only [go_sem] at hc)) | refine z8 rfl ?_ | (with_reducible (show (∀ _ : AV, _ → _) ∧ _); refine wel ?_) | (refine Qb ?_ ?_; focus kernel_rfl) | (refine x4 [0, 1] [] (sa) (by simp) ?_ ?_ (by simp) (.inl rfl) ?_ ?_ ?_; (iterate 2 (focus (simp only [go_sem, *]; done))); (iterate 2 (focus (first | (simp; done) | (simp [go_sem]; done)))); simp only [go_sem, *]) | (refine x4 [0, 1] [] (s2) (by simp) ?_ ?_ (by simp) (.inl rfl) ?_ ?_ ?_; (iterate 2 (focus (simp only [go_sem, *]; done))); (iterate 2 (focus (first | (simp; done) | (simp [go_sem]; done)))); simp only [go_sem, *]) | (refine y5 (zGM) ?_; simp only [go_sem, *]) | ((with_reducible apply And.intro); focus omega) | (refine z7 hK ?_; clear hK; simp only [go_sem, *]) | simp only [z6, z5, go_sem, *])
   all_goals try contradiction
   ·exact y3 (i' := 1 + 1) [some 0, some 1, some 4] [] (by trivial)
   ·exact y3 (i' := 1 + 1) [some 0, some 1, some 2] [] (by trivial)
 ·clear s1 s2 h0 h1
  cases n1
  ·cases n2
   ·simp only [Bool.false_eq_true, if_true, if_false, List.nil_append, List.append_nil] at h2 h3
    refine we1 (cc (own [0, 1] (sa)) (cc (own [0, 1] (s3)) sp_code3)) ?_
    exact y3 (i' := 2 + 1) [some 0, some 1, some 2] [] (by trivial)
   ·simp only [Bool.false_eq_true, if_true, if_false, List.nil_append, List.append_nil] at h2 h3
    refine we1 (cc (own [0, 1] (sa)) (cc (own [0, 1] (s3)) sp_code3)) ?_
    exact y3 (i' := 2 + 1) [some 0, some 1, some 2] [] (by trivial)
  ·cases n2
   ·simp only [Bool.false_eq_true, if_true, if_false, List.nil_append, List.append_nil] at h2 h3
    refine we1 (cc (own [0, 1] (sa)) (cc (own [0, 1] (s3)) sp_code3)) ?_
    exact y3 (i' := 2 + 1) [some 0, some 1, some 2] [] (by trivial)
   ·simp only [Bool.false_eq_true, if_true, if_false, List.nil_append, List.append_nil] at h2 h3
    refine we1 (cc (own [0, 1] (sa)) (cc (own [0, 1] (s3)) sp_code3)) ?_
    exact y3 (i' := 2 + 1) [some 0, some 1, some 2] [] (by trivial)
 ·clear h0 h1 h2
  refine we1 trivial ?_
  refine ⟨[_, _], [some 2], [], ⟨rfl, rfl, trivial⟩, ?_⟩
  simp only [go_sem, *]
end Go.Abs

namespace Go.Abs
open Go Go.Proofs Tryz
attribute [local irreducible] q9 Hold y2
variable [Cur]
def Per.plain (p : Per) : Per := ⟨p.name, p.street, p.number, p.head, false⟩
def zTR (v : Vol) (a b : Per) : Pk := ⟨j4 v.streets.toNat a, v.tr, v.rules, a.plain, b.plain⟩
theorem zGT (v : Vol) (a b : Per) (hs : 1 ≤ v.streets ∧ v.streets ≤ 3) : zSx prog 17 [v.enc, a.enc, b.enc] [] (zTR v a b).enc [] := by
 obtain ⟨st, wd, rw1, ⟨cls, hds⟩, rules, people⟩ := v
 simp only at hs
 obtain ⟨n, rfl⟩ : ∃ n : Nat, st = n := ⟨_, (Int.toNat_of_nonneg (by omega)).symm⟩
 obtain ⟨an, as_, az, ah, ab⟩ := a
 obtain ⟨bn, bs, bz, bh, bb⟩ := b
 have hT : ∀ i, i ≤ n → (j4 (i + 1) ⟨an, as_, az, ah, ab⟩) = j4 i ⟨an, as_, az, ah, ab⟩ ++ [if (i : Int) = as_ then [⟨az, 0⟩] else []] := fun i _ => by
  unfold j4
  rw [List.range_succ, List.map_append]; rfl
 have hE : (zTR ⟨n, wd, rw1, ⟨cls, hds⟩, rules, people⟩ ⟨an, as_, az, ah, ab⟩ ⟨bn, bs, bz, bh, bb⟩).enc = .agg [.list ((j4 n ⟨an, as_, az, ah, ab⟩).map x7), .list [], .list [], x8 cls, x9 hds, x5 rules, .list [.agg [sV an, iV as_, iV az, iV ah, bV false]], .list [.agg [sV bn, iV bs, iV bz, iV bh, bV false]], iV 0, iV 0, iV 0, .list []] := rfl
 rw [hE]
 clear hE
 have hT0 : j4 0 ⟨an, as_, az, ah, ab⟩ = [] := rfl
 have htl : ∀ i, (j4 i ⟨an, as_, az, ah, ab⟩).length = i := fun i => zAi i _
 obtain ⟨T, hTT⟩ : ∃ T : Nat → zS2, T = fun i => j4 i ⟨an, as_, az, ah, ab⟩ := ⟨_, rfl⟩
 have hTi : ∀ i, j4 i ⟨an, as_, az, ah, ab⟩ = T i := fun i => by rw [hTT]
 simp only [hTi] at hT hT0 htl ⊢
 clear hTi hTT
 simp only [Vol.enc, Per.enc] at *
 refine z9 func17 rfl (fun E hE => ?_); simp only [go_sem, ntmps17]
 refine we1 trivial ?_
 refine y9 rfl (n) (fun i => NoT i) 50 (fun i => [(8, iV i), (7, .ptr 3 0), (6, .ptr 2 0), (4, .ptr 1 0), (3, .ptr 0 0)]) (fun i => [.box [iV n, iV wd, iV rw1, x8 cls, x9 hds, x5 rules, y8 people], .box [sV an, iV as_, iV az, iV ah, bV false], .box [.any, .any, .any, .any, .any, .any, .any, .any, .any, .any, .any, .any], .box [.own 4 1 0 i, .list [], .list [], x8 cls, x9 hds, x5 rules, .list [.agg [sV an, iV as_, iV az, iV ah, bV false]], .list [.agg [sV bn, iV bs, iV bz, iV bh, bV false]], iV 0, iV 0, iV 0, .list []], .box ((T i).map x7)]) [some 0, some 1, some 3, some 6, none] [4, 5] (by trivial) ?_; intro i hi hP
 clear hT0
 rcases Nat.lt_or_ge i n with hi2 | hi2
 ·have hTs := hT i (by omega)
  have hli := htl i
  have hd1 : decide ((i : Int) < (n : Int)) = true := by simp; omega
  have hd2 : decide (i < n) = true := by simp; omega
  have hd3 : decide ((i : Int) < 3) = true := by simp; omega
  have hd4 : decide (i < 3) = true := by simp; omega
  clear hT htl
  by_cases hq : (i : Int) = as_
  ·rw [if_pos hq] at hTs
   subst hq
   have hb1 : ((i : Int) == (i : Int)) = true := by simp
   have hx : x7 [⟨az, 0⟩] = .list [.agg [iV az, iV 0]] := rfl
   repeat' (first | ((with_reducible refine B7 [1, 1, 0, 0, 1, 0, 0, 1, 0, 1, 1, 1] ?_)) | (refine Qr rfl ?_; try intro _ hK; try simp only [go_sem, *]) | (refine Qi rfl rfl rfl rfl ?_ ?_ <;> (intro hb; (try intro _ hK); have hc := hb; try simp only [go_sem] at hc; simp only [go_sem, *])) | refine Qh rfl ?_ | (refine Qc rfl rfl ?_ ?_ <;> (intro hb; have hc := hb; try simp only [go_sem] at hc)) | refine z8 rfl ?_ | (with_reducible (show (∀ _ : AV, _ → _) ∧ _); refine wel ?_) | ((with_reducible apply And.intro); focus omega) | (refine z7 hK ?_; clear hK; simp only [go_sem, *]) | simp only [z6, z5, go_sem, *])
   all_goals try contradiction
   refine ⟨?_⟩
   refine V3 (N := 50) (env := [(9, .list [.agg [iV az, iV 0]]), (8, iV i), (7, .ptr 3 0), (6, .ptr 2 0), (4, .ptr 1 0), (3, .ptr 0 0)]) (As := [.box [iV n, iV wd, iV rw1, x8 cls, x9 hds, x5 rules, y8 people], .box [sV an, iV i, iV az, iV ah, bV false], .box [.any, .any, .any, .any, .any, .any, .any, .any, .any, .any, .any, .any], .box [.own 4 1 0 i, .list [], .list [], x8 cls, x9 hds, x5 rules, .list [.agg [sV an, iV i, iV az, iV ah, bV false]], .list [.agg [sV bn, iV bs, iV bz, iV bh, bV false]], iV 0, iV 0, iV 0, .list []], .box ((T i).map x7)]) [some 0, some 1, some 2, some 3, some 4] [5] (by (simp only [Weak, go_sem, List.map_append, List.map_set, *] <;> (try simp (disch := omega) only [o3]) <;> (try simp) <;> (try omega))) ?_
   refine we1 trivial ?_
   clear hd1 hd2 hd3 hd4 hb1
   exact y3 (i' := i + 1) [some 0, some 1, some 2, some 3, some 6] [] (by trivial)
  ·have hb1 : ((i : Int) == as_) = false := by simp [hq]
   rw [if_neg hq] at hTs
   have hx : x7 [] = .list [] := rfl
   repeat' (first | ((with_reducible refine B7 [0, 1, 0, 0, 1, 0, 0, 1, 0, 1, 1, 1] ?_)) | (refine Qr rfl ?_; try intro _ hK; try simp only [go_sem, *]) | (refine Qi rfl rfl rfl rfl ?_ ?_ <;> (intro hb; (try intro _ hK); have hc := hb; try simp only [go_sem] at hc; simp only [go_sem, *])) | refine Qh rfl ?_ | (refine Qc rfl rfl ?_ ?_ <;> (intro hb; have hc := hb; try simp only [go_sem] at hc)) | refine z8 rfl ?_ | (with_reducible (show (∀ _ : AV, _ → _) ∧ _); refine wel ?_) | ((with_reducible apply And.intro); focus omega) | (refine z7 hK ?_; clear hK; simp only [go_sem, *]) | simp only [z6, z5, go_sem, *])
   all_goals try contradiction
   refine ⟨?_⟩
   refine V3 (N := 50) (env := [(9, .list []), (8, iV i), (7, .ptr 3 0), (6, .ptr 2 0), (4, .ptr 1 0), (3, .ptr 0 0)]) (As := [.box [iV n, iV wd, iV rw1, x8 cls, x9 hds, x5 rules, y8 people], .box [sV an, iV as_, iV az, iV ah, bV false], .box [.any, .any, .any, .any, .any, .any, .any, .any, .any, .any, .any, .any], .box [.own 4 1 0 i, .list [], .list [], x8 cls, x9 hds, x5 rules, .list [.agg [sV an, iV as_, iV az, iV ah, bV false]], .list [.agg [sV bn, iV bs, iV bz, iV bh, bV false]], iV 0, iV 0, iV 0, .list []], .box ((T i).map x7)]) [some 0, some 1, some 2, some 3, some 4] [] (by (simp only [Weak, go_sem, List.map_append, List.map_set, *] <;> (try simp (disch := omega) only [o3]) <;> (try simp) <;> (try omega))) ?_
   refine we1 trivial ?_
   clear hd1 hd2 hd3 hd4 hb1
   exact y3 (i' := i + 1) [some 0, some 1, some 2, some 3, some 6] [] (by trivial)
 ·obtain rfl : i = n := by omega
  have hd1 : decide ((i : Int) < (i : Int)) = false := by simp
  have hd2 : decide (i < i) = false := by simp
  have hli := htl i
  clear hT htl
  have htk : List.take i ((T i).map x7) = (T i).map x7 := List.take_of_length_le (by simp; omega)
  refine we1 trivial ?_
  refine ⟨[.agg [.own 4 1 0 i, .list [], .list [], x8 cls, x9 hds, x5 rules, .list [.agg [sV an, iV as_, iV az, iV ah, bV false]], .list [.agg [sV bn, iV bs, iV bz, iV bh, bV false]], iV 0, iV 0, iV 0, .list []]], [], [4], ⟨(by simp only [Z2, go_sem]), trivial⟩, ?_⟩
  simp only [go_sem, *]
  intro x hx
  obtain ⟨l, _, rfl⟩ := List.mem_map.1 hx
  rfl
end Go.Abs

namespace Go.Abs
open Go Go.Proofs Tryz
variable [Cur]
def UV (v : Vol) (c : Nat) : List Nat := ofV v.people (Y8 v.tr c)
theorem zHP (v : Vol) (c : Nat) : (UV v c).length ≤ v.people.length := by
 unfold UV ofV
 have h1 := List.length_filter_le (fun n => (Y8 v.tr c).any fun y => (v.people.getD n default).head == y) (Q2 a5 zTA v.people)
 have h2 : (Q2 a5 zTA v.people).length ≤ v.people.length := by
  unfold Q2
  rw [H7]
  have := List.length_filter_le (fun i => zTA (v.people.getD i default)) (List.range v.people.length)
  simpa using this
 omega
def B5 (v : Vol) (a b i : Nat) : Bool := (List.range i).any fun c => decide (0 ≤ zS4 a (UV v c)) && decide (0 ≤ zS4 b (UV v c))
theorem zMe (v : Vol) (a b i : Nat) : B5 v a b (i + 1) = (B5 v a b i || (decide (0 ≤ zS4 a (UV v i)) && decide (0 ≤ zS4 b (UV v i)))) := by
 unfold B5
 rw [List.range_succ, List.any_append]
 simp
def A9 (v : Vol) (p : Per) : Int := (v.tr.hds.getD p.head.toNat default).cls
theorem zMf {v : Vol} (ok : VolOK v) {a b : Nat} (ha : a < v.people.length) (hb : b < v.people.length) (h1 : 0 ≤ (v.people.getD a default).head) (h2 : 0 ≤ (v.people.getD b default).head) :
  B5 v a b v.tr.cls.length = decide (0 ≤ S5 v.tr (A9 v (v.people.getD a default)).toNat (A9 v (v.people.getD b default)).toNat) := by
 rw [Bool.eq_iff_iff, decide_eq_true_iff, zK3 (R3 ok.tr).1]
 unfold B5
 rw [List.any_eq_true]
 constructor
 ·rintro ⟨c, hc, h⟩
  simp only [Bool.and_eq_true, decide_eq_true_eq, zCZ] at h
  exact ⟨c, List.mem_range.1 hc, ((zBM ok ha).1 h.1).2, ((zBM ok hb).1 h.2).2⟩
 ·rintro ⟨c, hc, h3, h4⟩
  refine ⟨c, List.mem_range.2 hc, ?_⟩
  simp only [Bool.and_eq_true, decide_eq_true_eq, zCZ]
  exact ⟨(zBM ok ha).2 ⟨h1, h3⟩, (zBM ok hb).2 ⟨h2, h4⟩⟩
theorem zKc (k : Pk) : decide (0 ≤ zS4 2 (T3 k)) = V8 k := by
 rw [Bool.eq_iff_iff, decide_eq_true_iff, zCZ]
 unfold T3
 cases U6 k <;> cases V8 k <;> simp
theorem zHc (k : Pk) : (T3 k).length ≤ 2 := by
 unfold T3
 cases U6 k <;> cases V8 k <;> simp
theorem zFo {v : Vol} (m : VolM v) {x y : Per} (hx : x ∈ v.people) (hy : y ∈ v.people) : PkOK (zTR v x y) := by
 obtain ⟨hx1, hx2⟩ := m.pe x hx
 obtain ⟨hy1, hy2⟩ := m.pe y hy
 have hs := m.st
 have hn : (v.streets.toNat : Int) = v.streets := by omega
 have ok := m.ok
 have hper : ∀ p : Per, PerM v.tr v.streets p → ValidN p.name → PerK (zTR v x y) p.plain := fun p hp hv => by
  have h1 := hp.st
  have h3 := hp.hd
  refine ⟨checkN_zero.2 hv, ?_, ?_, ?_, hp.no, rfl⟩
  ·show -1 ≤ p.head ∧ p.head < v.tr.hds.length
   omega
  ·show 0 ≤ p.head → (v.tr.hds.getD p.head.toNat default).cls ≠ -1
   intro h0
   omega
  ·show 0 ≤ p.street ∧ p.street < ((j4 v.streets.toNat x).length : Int)
   rw [zAi]; omega
 refine ⟨zPk (by omega) hx1.no, zPj (p := x) (by have := hx1.st; omega), m.tr, m.also, ok.rl, ok.rs, ok.ve, hper x hx1 hx2, hper y hy1 hy2, zG8 m.rl hx2 hy2⟩
end Go.Abs

namespace Go.Abs
open Go Go.Proofs Tryz
attribute [local irreducible] q9 Hold y2
variable [Cur]
def hatsT : Trd := ⟨[⟨[99, 108, 111, 116, 104], -1⟩], [⟨[98, 111, 110, 110, 101, 116, 115], -1, 1, []⟩, ⟨[104, 97, 116, 116, 101, 114], 0, -1, []⟩]⟩
def annaA : Per := ⟨[97, 110, 110, 97], 0, 1, 1, false⟩
def annaB : Per := ⟨[97, 110, 110, 97], 0, 2, -1, false⟩
def hatsV : Vol := ⟨1, 6, 4, hatsT, [], [annaA, annaB]⟩
theorem zG6 : ValidN [97, 110, 110, 97] := by
 rw [← checkN_zero]; decide
theorem hatsV_m : VolM hatsV where
 st := by decide
 wd := by decide
 rw_ := by decide
 tr := by decide
 also := by decide
 rl := by decide
 pl := by decide
 pe := fun p hp => by
  have hp : p ∈ [annaA, annaB] := hp
  simp only [List.mem_cons, List.not_mem_nil, or_false] at hp
  rcases hp with rfl | rfl
  ·exact ⟨⟨by decide, by decide, by decide⟩, zG6⟩
  ·exact ⟨⟨by decide, by decide, by decide⟩, zG6⟩
theorem zJ5 : UV hatsV 0 = [0] := by decide
theorem zJ3 : T3 (zTR hatsV annaA annaB) = [] := by decide
theorem zJ4 : S5 hatsT 0 0 = 0 := by decide
theorem zNt : zSx prog 60 [] [] hatsT.enc [] := by
 have he : hatsT.enc = .agg [.list [.agg [sV [99, 108, 111, 116, 104], iV (-1)]], .list [.agg [sV [98, 111, 110, 110, 101, 116, 115], iV (-1), iV 1, .list []], .agg [sV [104, 97, 116, 116, 101, 114], iV 0, iV (-1), .list []]]] := rfl
 rw [he]
 clear he
 refine z9 func60 rfl (fun E hE => ?_); simp only [go_sem, ntmps60]
 repeat' (first | ((with_reducible refine B7 [1, 1] ?_)) | (refine Qr rfl ?_; try intro _ hK; try simp only [go_sem, *]) | refine Qh rfl ?_ | (refine Qc rfl rfl ?_ ?_ <;> (intro hb; have hc := hb; try simp only [go_sem] at hc)) | refine z8 rfl ?_ | ((with_reducible apply And.intro); focus omega) | (refine z7 hK ?_; clear hK; simp only [go_sem, *]) | simp only [z6, z5, go_sem, *])
 all_goals try contradiction
 refine ⟨?_⟩
 refine zKS (o := 2) [.agg [sV [98, 111, 110, 110, 101, 116, 115], iV (-1), iV 1, .list []], .agg [sV [104, 97, 116, 116, 101, 114], iV 0, iV (-1), .list []]] rfl (by simp [nwL, nwC, AV.cells]) ?_
 simp only [go_sem, *]
 refine wk1 trivial ?_
 refine ⟨[.agg [.own 1 2 0 1, .own 2 4 0 2]], [], [1, 2], ⟨(by simp only [Z2, go_sem]), trivial⟩, ?_⟩
 simp only [go_sem, *]
theorem zOa : zSx prog 19 [] [] (bV true) [] := by
 have sh := zNt
 have su := zGU hatsV hatsV_m.ok 0 (by decide)
 have hu : ofV hatsV.people (Y8 hatsV.tr (0 : Nat)) = [0] := zJ5
 have sp := zGT hatsV annaA annaB (by decide)
 have sa := zGG (zTR hatsV annaA annaB) (zFo hatsV_m (show annaA ∈ [annaA, annaB] by simp) (show annaB ∈ [annaA, annaB] by simp))
 have sl := zDC hatsT hatsV_m.tr hatsV_m.also 0 0 (by decide) (by decide)
 rw [hu] at su
 have h0 : ([0] : List Nat).map pnV = [iV 0] := rfl
 rw [h0] at su
 clear h0
 rw [zJ3] at sa
 rw [zJ4] at sl
 have sE : zSx prog 49 [.list [iV 0], .list [iV 0]] [] (bV true) [] := by
  have h := zM5 [0] [0] (by simp)
  rw [show (decide (([0] : List Int) = [0])) = true from rfl] at h
  exact h
 have hV : hatsV.enc = .agg [iV 1, iV 6, iV 4, .list (hatsT.cls.map Cl.enc), .list (hatsT.hds.map Hd.enc), .list [], .list [.agg [sV [97, 110, 110, 97], iV 0, iV 1, iV 1, bV false], .agg [sV [97, 110, 110, 97], iV 0, iV 2, iV (-1), bV false]]] := rfl
 have hA : annaA.enc = .agg [sV [97, 110, 110, 97], iV 0, iV 1, iV 1, bV false] := rfl
 have hB : annaB.enc = .agg [sV [97, 110, 110, 97], iV 0, iV 2, iV (-1), bV false] := rfl
 have hH : hatsT.enc = .agg [.list (hatsT.cls.map Cl.enc), .list (hatsT.hds.map Hd.enc)] := rfl
 have hK : (zTR hatsV annaA annaB).enc = .agg [.list ((j4 1 annaA).map x7), .list [], .list [], .list (hatsT.cls.map Cl.enc), .list (hatsT.hds.map Hd.enc), .list [], .list [annaA.enc], .list [annaB.enc], iV 0, iV 0, iV 0, .list []] := rfl
 rw [hK] at sp sa
 rw [hV] at su sp
 rw [hA, hB] at sp sa
 rw [hH] at sh sl
 generalize (j4 1 annaA).map x7 = TT at *
 generalize hatsT.cls.map Cl.enc = C at *
 generalize hatsT.hds.map Hd.enc = D at *
 clear hu hV hA hB hH hK
 refine z9 func19 rfl (fun E hE => ?_); simp only [go_sem, ntmps19]
 repeat' (first | ((with_reducible refine B7 [0, 1, 1] ?_)) | (refine Qr rfl ?_; try intro _ hK; try simp only [go_sem, *]) | (refine Qi rfl rfl rfl rfl ?_ ?_ <;> (intro hb; (try intro _ hK); have hc := hb; try simp only [go_sem] at hc; simp only [go_sem, *])) | refine Qh rfl ?_ | refine Qd rfl (by kernel_rfl) ?_ | (refine Qc rfl rfl ?_ ?_ <;> (intro hb; have hc := hb; try simp only [go_sem] at hc)) | refine z8 rfl ?_ | (refine Qb ?_ ?_; focus kernel_rfl) | (refine y5 (sh) ?_; simp only [go_sem, *]) | ((with_reducible apply And.intro); focus omega) | (refine z7 hK ?_; clear hK; simp only [go_sem, *]) | simp only [z6, z5, go_sem, *])
 all_goals try contradiction
 refine ⟨?_⟩
 refine V3 (N := 61) (env := [(1, .ptr 0 0)]) (As := [.box [iV 1, iV 6, iV 4, .list C, .list D, .list [], .list [.agg [sV [97, 110, 110, 97], iV 0, iV 1, iV 1, bV false], .agg [sV [97, 110, 110, 97], iV 0, iV 2, iV (-1), bV false]]]]) [some 1] [0] (by (simp only [Weak, go_sem, List.map_append, List.map_set, *] <;> (try simp (disch := omega) only [o3]) <;> (try simp) <;> (try omega))) ?_
 repeat' (first | (refine Qr rfl ?_; try intro _ hK; try simp only [go_sem, *]) | (refine Qi rfl rfl rfl rfl ?_ ?_ <;> (intro hb; (try intro _ hK); have hc := hb; try simp only [go_sem] at hc; simp only [go_sem, *])) | refine Qh rfl ?_ | refine Qd rfl (by kernel_rfl) ?_ | (refine Qc rfl rfl ?_ ?_ <;> (intro hb; have hc := hb; try simp only [go_sem] at hc)) | refine z8 rfl ?_ | (with_reducible (show (∀ _ : AV, _ → _) ∧ _); refine wel ?_) | (refine Qb ?_ ?_; focus kernel_rfl) | ((first | refine y5 (sp) ?_ | refine y5 (sh) ?_); simp only [go_sem, *]) | (refine v9 (su) ?_; simp only [go_sem, *]) | (refine v9 (sa) ?_; simp only [go_sem, *]) | (refine r7 (sl) ?_ ?_; (focus (simp only [go_sem, *]; done)); simp only [go_sem, *]) | ((with_reducible apply And.intro); focus omega) | (refine z7 hK ?_; clear hK; simp only [go_sem, *]) | simp only [z6, z5, go_sem, *])
 all_goals try contradiction
 (refine V0 [1, 3] (sE) (by simp only [go_sem, *]) (.raw _) ?_; simp only [go_sem, *])
 repeat' (first | (refine Qr rfl ?_; try intro _ hK; try simp only [go_sem, *]) | (refine Qi rfl rfl rfl rfl ?_ ?_ <;> (intro hb; (try intro _ hK); have hc := hb; try simp only [go_sem] at hc; simp only [go_sem, *])) | refine Qh rfl ?_ | refine Qd rfl (by kernel_rfl) ?_ | (refine Qc rfl rfl ?_ ?_ <;> (intro hb; have hc := hb; try simp only [go_sem] at hc)) | refine z8 rfl ?_ | (with_reducible (show (∀ _ : AV, _ → _) ∧ _); refine wel ?_) | (refine Qb ?_ ?_; focus kernel_rfl) | ((with_reducible apply And.intro); focus omega) | (refine z7 hK ?_; clear hK; simp only [go_sem, *]) | simp only [z6, z5, go_sem, *])
 all_goals try contradiction
 (refine ⟨[_], [], [], ⟨rfl, trivial⟩, ?_⟩; simp only [go_sem, *])
end Go.Abs

namespace Go.Abs
open Go Go.Proofs Tryz
attribute [local irreducible] q9 Hold y2
variable [Cur]
theorem zSl (nums : List Int) (h : nums.length ≤ 4294967296) : zSx prog 4 [I9 nums] [] (bV true) [] := by
 obtain ⟨d, c1, hd⟩ := zIT nums h
 obtain ⟨v, d', c2, m, hd'⟩ := zIY d hd
 have ok := m.ok
 have su := fun c hc => zGU v ok c hc
 obtain ⟨UVc, hUV⟩ : ∃ f : Nat → List Nat, f = UV v := ⟨_, rfl⟩
 have hUe : ∀ c : Nat, ofV v.people (Y8 v.tr c) = UVc c := fun c => by rw [hUV]; rfl
 simp only [hUe] at su
 have hUl : ∀ c, (UVc c).length ≤ 6 := fun c => by rw [hUV]; have := zHP v c; have := m.pl; omega
 have sIx := fun (x : Nat) (c : Nat) => zDF x (UVc c) (by have := hUl c; omega)
 have spp := fun x y => zGT v x y ok.st
 have saa := fun x y (hx : x ∈ v.people) (hy : y ∈ v.people) => zGG (zTR v x y) (zFo m hx hy)
 have s22 := fun x y => zDF 2 (T3 (zTR v x y)) (by have := zHc (zTR v x y); omega)
 have h22 : ((2 : Nat) : Int) = 2 := rfl
 simp only [h22] at s22
 have hKe : ∀ x y, (zTR v x y).enc = .agg [.list ((j4 v.streets.toNat x).map x7), .list [], .list [], .list (v.tr.cls.map Cl.enc), .list (v.tr.hds.map Hd.enc), x5 v.rules, .list [.agg [sV x.name, iV x.street, iV x.number, iV x.head, bV false]], .list [.agg [sV y.name, iV y.street, iV y.number, iV y.head, bV false]], iV 0, iV 0, iV 0, .list []] := fun x y => rfl
 simp only [hKe] at spp saa
 have hidx := fun x y => zKc (zTR v x y)
 have htB : ∀ x y, V8 (zTR v x y) = if x.head < 0 ∨ y.head < 0 ∨ x.head = y.head then false else decide (S5 v.tr (A9 v x).toNat (A9 v y).toNat < 0) := fun x y => rfl
 simp only [htB] at hidx
 have hsl := fun a b (ha : a < v.people.length) (hb : b < v.people.length) h1 h2 => zMf ok ha hb h1 h2
 have hper := fun p hp => zFn (ok.pe p hp)
 have sll := zDC v.tr ok.tr ok.also
 have hcl := fun j => zCW (k := j) ok.tr
 have hpl := m.pl
 have htr := R3 ok.tr
 have sw := zOa
 clear hUe hKe htB hd hd' ok
 obtain ⟨SVV, hSVV⟩ : ∃ f : Nat → Nat → Nat → Bool, f = B5 v := ⟨_, rfl⟩
 have hSVs : ∀ a b i, SVV a b (i + 1) = (SVV a b i || (decide (0 ≤ zS4 a (UVc i)) && decide (0 ≤ zS4 b (UVc i)))) := fun a b i => by rw [hSVV, hUV]; exact zMe v a b i
 have hSVz : ∀ a b, SVV a b 0 = false := fun a b => by rw [hSVV]; rfl
 rw [← hSVV] at hsl
 clear hUV hSVV m
 obtain ⟨ac, hac⟩ : ∃ f : Per → Per → List Nat, f = fun x y => T3 (zTR v x y) := ⟨_, rfl⟩
 have hace : ∀ x y, T3 (zTR v x y) = ac x y := fun x y => by rw [hac]
 simp only [hace] at saa s22 hidx
 clear hac hace
 obtain ⟨st, wd, rw1, ⟨cls, hds⟩, rules, people⟩ := v
 obtain ⟨tw, htw⟩ : ∃ f : Per → List AV, f = fun x => (j4 st.toNat x).map x7 := ⟨_, rfl⟩
 have htwe : ∀ x, (j4 st.toNat x).map x7 = tw x := fun x => by rw [htw]
 simp only [htwe] at spp saa
 clear htw htwe
 have hca : ∀ p, A9 ⟨st, wd, rw1, ⟨cls, hds⟩, rules, people⟩ p = (hds.getD p.head.toNat default).cls := fun p => rfl
 simp only [hca, Vol.enc, Trd.enc] at *
 clear hca
 obtain ⟨uL, huL⟩ : ∃ f : Nat → List AV, f = fun i => (List.range i).map fun c => AV.list ((UVc c).map pnV) := ⟨_, rfl⟩
 have huL0 : uL 0 = [] := by rw [huL]; rfl
 have huLs : ∀ i, uL (i + 1) = uL i ++ [.list ((UVc i).map pnV)] := fun i => by rw [huL]; simp [List.range_succ]
 have huLl : ∀ i, (uL i).length = i := fun i => by rw [huL]; simp
 have huLg : ∀ c, c < cls.length → (uL cls.length).getD c AV.any = .list ((UVc c).map pnV) := fun c hc => by rw [huL]; simp [List.getD, hc]
 have huLm : ∀ i x, x ∈ uL i → ∃ l : List Nat, x = .list (l.map pnV) := fun i x hx => by
  rw [huL] at hx
  obtain ⟨c, _, rfl⟩ := List.mem_map.1 hx
  exact ⟨_, rfl⟩
 have hXp : ∀ (H : Nat → AObj) (m : List (Option Nat)) (ex : List Nat) i, XpL H m ex (uL i) (uL i) := fun H m ex i => by rw [huL]; exact zDj (fun c => by simp only [XpF]) _
 clear huL
 refine z9 func4 rfl (fun E hE => ?_); simp only [go_sem, ntmps4]
 refine we1 (cc c1 (own [0] (c2))) ?_
 clear c1 c2
 refine y9 rfl (cls.length) (fun i => NoT i) 166 (fun i => [(6, iV i), (5, .own 1 1 0 i), (4, .ptr 0 0)]) (fun i => [.box [iV st, iV wd, iV rw1, x8 cls, x9 hds, x5 rules, y8 people], .box (uL i)]) [some 3, none] [1, 2] (by trivial) ?_; intro i hi hP
 clear huL0
 rcases Nat.lt_or_ge i cls.length with hi2 | hi2
 ·have hXq : ∀ (H : Nat → AObj) (m : List (Option Nat)) (ex : List Nat), XpL H m ex (uL i ++ [.list ((UVc i).map pnV)]) (uL i ++ [.list ((UVc i).map pnV)]) := fun H m ex => by have := hXp H m ex (i + 1); rwa [huLs] at this
  have su1 := su i hi2
  have hs1 := huLs i
  have hl1 := huLl i
  have hUl1 := hUl i
  have hd1 : decide ((i : Int) < (cls.length : Int)) = true := by simp; omega
  have hd2 : decide (i < cls.length) = true := by simp; omega
  clear su huLs huLl huLg huLm sIx spp saa s22 hidx hsl hper sll hcl sw hSVs hSVz
  generalize UVc i = U at *
  repeat' (first | ((with_reducible refine B7 [0, 1, 0, 0, 1, 0, 0, 1, 0, 1, 1, 1, 1] ?_)) | (refine Qr rfl ?_; try intro _ hK; try simp only [go_sem, *]) | (refine Qi rfl rfl rfl rfl ?_ ?_ <;> (intro hb; (try intro _ hK); have hc := hb; try simp only [go_sem] at hc; simp only [go_sem, *])) | refine Qh rfl ?_ | refine Qd rfl (by kernel_rfl) ?_ | (refine Qc rfl rfl ?_ ?_ <;> (intro hb; have hc := hb; try simp only [go_sem] at hc)) | refine z8 rfl ?_ | (with_reducible (show (∀ _ : AV, _ → _) ∧ _); refine wel ?_) | (refine Qb ?_ ?_; focus kernel_rfl) | (refine v9 (su1) ?_; simp only [go_sem, *]) | ((with_reducible apply And.intro); focus omega) | (refine z7 hK ?_; clear hK; simp only [go_sem, *]) | simp only [z6, z5, go_sem, *])
  all_goals try contradiction
  refine ⟨?_⟩
  refine V3 (N := 166) (env := [(7, .list (U.map pnV)), (8, iV 0), (6, iV i), (5, .own 1 1 0 i), (4, .ptr 0 0)]) (As := [.box [iV st, iV wd, iV rw1, x8 cls, x9 hds, x5 rules, y8 people], .box (uL i)]) [some 0, some 1] [2] (by (simp only [Weak, go_sem, List.map_append, List.map_set, *] <;> (try simp (disch := omega) only [o3]) <;> (try simp) <;> (try omega))) ?_
  refine we1 trivial ?_
  clear hd1 hd2
  exact y3 (i' := i + 1) [some 0, some 3] [] (by trivial)
 ·obtain rfl : i = cls.length := by omega
  have hd1 : decide ((cls.length : Int) < (cls.length : Int)) = false := by simp
  have hd2 : decide (cls.length < cls.length) = false := by simp
  have hul := huLl cls.length
  clear su huLs hP hi hi2
  refine we1 trivial ?_
  clear hd1 hd2
  refine V3 (N := 166) (env := [(9, iV 0), (5, .list (uL cls.length)), (4, .ptr 0 0)]) (As := [.box [iV st, iV wd, iV rw1, x8 cls, x9 hds, x5 rules, y8 people]]) [some 0] [1] (by
   (simp only [Weak, go_sem, List.map_append, List.map_set, *] <;> (try simp (disch := omega) only [o3]) <;> (try simp) <;> (try omega))
   all_goals (intro x hx; obtain ⟨l, rfl⟩ := huLm _ x hx; rfl)) ?_
  clear huLm hXp
  refine y9 rfl (people.length) (fun a => NoT a) 166 (fun a => [(9, iV a), (5, .list (uL cls.length)), (4, .ptr 0 0)]) (fun a => [.box [iV st, iV wd, iV rw1, x8 cls, x9 hds, x5 rules, y8 people]]) [some 0] [] (by trivial) ?_; intro a ha hP
  rcases Nat.lt_or_ge a people.length with ha2 | ha2
  ·have hd1 : decide ((a : Int) < (people.length : Int)) = true := by simp; omega
   have hd2 : decide (a < people.length) = true := by simp; omega
   clear sw
   refine we1 trivial ?_
   clear hd1 hd2
   refine y9 rfl (people.length) (fun b => NoT b) 166 (fun b => [(10, iV b), (9, iV a), (5, .list (uL cls.length)), (4, .ptr 0 0)]) (fun b => [.box [iV st, iV wd, iV rw1, x8 cls, x9 hds, x5 rules, y8 people]]) [some 0] [] (by trivial) ?_; intro b hb hP
   rcases Nat.lt_or_ge b people.length with hb2 | hb2
   ·have hd1 : decide ((b : Int) < (people.length : Int)) = true := by simp; omega
    have hd2 : decide (b < people.length) = true := by simp; omega
    have hx := j9 ha2
    have hy := j9 hb2
    have sp := spp (people.getD a default) (people.getD b default)
    have sa := saa _ _ hx hy
    have s2 := s22 (people.getD a default) (people.getD b default)
    have hid := hidx (people.getD a default) (people.getD b default)
    have hsm := hsl a b ha2 hb2
    have hpx := hper _ hx
    have hpy := hper _ hy
    have siA := sIx a
    have siB := sIx b
    have hSV := hSVs a b
    have hSV0 := hSVz a b
    clear spp saa s22 hidx hsl hper sIx hSVs hSVz hx hy
    generalize ac (people.getD a default) (people.getD b default) = codes at *
    generalize SVV a b = SV at *
    generalize hxe : people.getD a default = x at *
    generalize hye : people.getD b default = y at *
    generalize tw x = TT at *
    obtain ⟨xn, xs, xz, xh, xb⟩ := x
    obtain ⟨yn, ys, yz, yh, yb⟩ := y
    simp only [Per.enc] at *
    by_cases q1 : xh < 0
    ·have hd3 : decide (xh < 0) = true := by simp; omega
     have hd4 : decide (xh ≥ 0) = false := by simp; omega
     have hd5 : decide (0 ≤ xh) = false := by simp; omega
     rw [if_pos (.inl q1)] at hid
     have hd11 : decide (zS4 2 codes ≥ 0) = false := hid
     clear sll hcl hsm hpx hpy siA siB hSV hSV0 huLg huLl
     generalize zS4 2 codes = ix at *
     repeat' (first | (refine Qr rfl ?_; try intro _ hK; try simp only [go_sem, *]) | (refine Qi rfl rfl rfl rfl ?_ ?_ <;> (intro hb; (try intro _ hK); have hc := hb; try simp only [go_sem] at hc; simp only [go_sem, *])) | refine Qh rfl ?_ | refine Qd rfl (by kernel_rfl) ?_ | (refine Qc rfl rfl ?_ ?_ <;> (intro hb; have hc := hb; try simp only [go_sem] at hc)) | refine z8 rfl ?_ | (with_reducible (show (∀ _ : AV, _ → _) ∧ _); refine wel ?_) | (refine Qb ?_ ?_; focus kernel_rfl) | (refine r7 (sp) ?_ ?_; (focus (simp only [go_sem, *]; done)); simp only [go_sem, *]) | (refine v9 (sa) ?_; simp only [go_sem, *]) | ((with_reducible apply And.intro); focus omega) | (refine z7 hK ?_; clear hK; simp only [go_sem, *]) | simp only [z6, z5, go_sem, *])
     all_goals try contradiction
     (refine V0 [3] (s2) (by simp only [go_sem, *]) (.raw _) ?_; simp only [go_sem, *])
     repeat' (first | (refine Qr rfl ?_; try intro _ hK; try simp only [go_sem, *]) | (refine Qi rfl rfl rfl rfl ?_ ?_ <;> (intro hb; (try intro _ hK); have hc := hb; try simp only [go_sem] at hc; simp only [go_sem, *])) | refine Qh rfl ?_ | refine Qd rfl (by kernel_rfl) ?_ | (refine Qc rfl rfl ?_ ?_ <;> (intro hb; have hc := hb; try simp only [go_sem] at hc)) | refine z8 rfl ?_ | (with_reducible (show (∀ _ : AV, _ → _) ∧ _); refine wel ?_) | (refine Qb ?_ ?_; focus kernel_rfl) | ((with_reducible apply And.intro); focus omega) | (refine z7 hK ?_; clear hK; simp only [go_sem, *]) | simp only [z6, z5, go_sem, *])
     all_goals try contradiction
     clear hd1 hd2 hd3 hd4 hd5 hd11 hid
     exact y3 (i' := b + 1) [some 0] [] (by trivial)
    have hd3 : decide (xh < 0) = false := by simp; omega
    have hd4 : decide (xh ≥ 0) = true := by simp; omega
    have hd5 : decide (0 ≤ xh) = true := by simp; omega
    by_cases q2 : yh < 0
    ·have hd6 : decide (yh < 0) = true := by simp; omega
     have hd7 : decide (yh ≥ 0) = false := by simp; omega
     have hd8 : decide (0 ≤ yh) = false := by simp; omega
     rw [if_pos (.inr (.inl q2))] at hid
     have hd11 : decide (zS4 2 codes ≥ 0) = false := hid
     clear sll hcl hsm hpx hpy siA siB hSV hSV0 huLg huLl
     generalize zS4 2 codes = ix at *
     repeat' (first | (refine Qr rfl ?_; try intro _ hK; try simp only [go_sem, *]) | (refine Qi rfl rfl rfl rfl ?_ ?_ <;> (intro hb; (try intro _ hK); have hc := hb; try simp only [go_sem] at hc; simp only [go_sem, *])) | refine Qh rfl ?_ | refine Qd rfl (by kernel_rfl) ?_ | (refine Qc rfl rfl ?_ ?_ <;> (intro hb; have hc := hb; try simp only [go_sem] at hc)) | refine z8 rfl ?_ | (with_reducible (show (∀ _ : AV, _ → _) ∧ _); refine wel ?_) | (refine Qb ?_ ?_; focus kernel_rfl) | (refine r7 (sp) ?_ ?_; (focus (simp only [go_sem, *]; done)); simp only [go_sem, *]) | (refine v9 (sa) ?_; simp only [go_sem, *]) | ((with_reducible apply And.intro); focus omega) | (refine z7 hK ?_; clear hK; simp only [go_sem, *]) | simp only [z6, z5, go_sem, *])
     all_goals try contradiction
     (refine V0 [3] (s2) (by simp only [go_sem, *]) (.raw _) ?_; simp only [go_sem, *])
     repeat' (first | (refine Qr rfl ?_; try intro _ hK; try simp only [go_sem, *]) | (refine Qi rfl rfl rfl rfl ?_ ?_ <;> (intro hb; (try intro _ hK); have hc := hb; try simp only [go_sem] at hc; simp only [go_sem, *])) | refine Qh rfl ?_ | refine Qd rfl (by kernel_rfl) ?_ | (refine Qc rfl rfl ?_ ?_ <;> (intro hb; have hc := hb; try simp only [go_sem] at hc)) | refine z8 rfl ?_ | (with_reducible (show (∀ _ : AV, _ → _) ∧ _); refine wel ?_) | (refine Qb ?_ ?_; focus kernel_rfl) | ((with_reducible apply And.intro); focus omega) | (refine z7 hK ?_; clear hK; simp only [go_sem, *]) | simp only [z6, z5, go_sem, *])
     all_goals try contradiction
     clear hd1 hd2 hd3 hd4 hd5 hd6 hd7 hd8 hd11 hid
     exact y3 (i' := b + 1) [some 0] [] (by trivial)
    have hd6 : decide (yh < 0) = false := by simp; omega
    have hd13 : decide (yh ≥ 0) = true := by simp; omega
    have hd14 : decide (0 ≤ yh) = true := by simp; omega
    have hSM := hsm (by omega) (by omega)
    have hxl : xh.toNat < hds.length := by omega
    have hyl : yh.toNat < hds.length := by omega
    have k1 := hcl _ hxl
    have k2 := hcl _ hyl
    have n1 := hpx.2.2 (by omega)
    have n2 := hpy.2.2 (by omega)
    have g1 : ((hds.getD xh.toNat default).cls.toNat : Int) = (hds.getD xh.toNat default).cls := by omega
    have g2 : ((hds.getD yh.toNat default).cls.toNat : Int) = (hds.getD yh.toNat default).cls := by omega
    have sl := sll (hds.getD xh.toNat default).cls.toNat (hds.getD yh.toNat default).cls.toNat (by omega) (by omega)
    rw [g1, g2] at sl
    generalize S5 ⟨cls, hds⟩ (hds.getD xh.toNat default).cls.toNat (hds.getD yh.toNat default).cls.toNat = L at *
    have hq1 : 0 ≤ xh := by omega
    have hq2 : 0 ≤ yh := by omega
    have hq3 : xh < hds.length := by omega
    have hq4 : yh < hds.length := by omega
    clear sll hcl hsm hpx hpy k1 k2 n1 n2 g1 g2
    by_cases q3 : xh = yh
    ·rw [if_pos (.inr (.inr q3))] at hid
     have hd15 : (xh == yh) = true := by simp [q3]
     clear q3
     refine we1 (cc sp (cc sa sl)) ?_
     clear hd1 hd2 hd3 hd4 hd5 hd6 hd13 hd14 hd15
     refine y9 rfl (cls.length) (fun c => NoT c) 166 (fun c => [(19, iV c), (18, bV (SV c)), (17, iV 0), (16, iV L), (15, bV true), (13, .list (codes.map pnV)), (10, iV b), (9, iV a), (5, .list (uL cls.length)), (4, .ptr 0 0)]) (fun c => [.box [iV st, iV wd, iV rw1, x8 cls, x9 hds, x5 rules, y8 people]]) [some 0] [3] (by trivial) ?_; intro c hc hP
     clear sl sp sa hSV0
     rcases Nat.lt_or_ge c cls.length with hc2 | hc2
     ·have hs1 := hSV c
      have ia := siA c
      have ib := siB c
      have hu1 := huLg c hc2
      have hul := huLl cls.length
      have hd7 : decide ((c : Int) < (cls.length : Int)) = true := by simp; omega
      have hd8 : decide (c < cls.length) = true := by simp; omega
      clear hSV siA siB huLg huLl hSM hid
      generalize zS4 a (UVc c) = xa at *
      generalize zS4 b (UVc c) = xb at *
      obtain ⟨pa, hpa⟩ : ∃ p, decide (0 ≤ xa) = p := ⟨_, rfl⟩
      obtain ⟨pb, hpb⟩ : ∃ p, decide (0 ≤ xb) = p := ⟨_, rfl⟩
      have hd9 : decide (xa ≥ 0) = pa := hpa
      have hd10 : decide (xb ≥ 0) = pb := hpb
      rw [hpa, hpb] at hs1
      generalize UVc c = U at *
      generalize SV c = s0 at *
      cases s0
      ·cases pa
       ·simp only [Bool.false_or, Bool.false_and] at hs1
        refine we1 ia ?_
        clear hd7 hd8 hd9 hd10
        exact y3 (i' := c + 1) [some 0] [] (by trivial)
       ·simp only [Bool.false_or, Bool.true_and] at hs1
        cases pb
        ·refine we1 (cc ia ib) ?_
         clear hd7 hd8 hd9 hd10
         exact y3 (i' := c + 1) [some 0] [] (by trivial)
        ·refine we1 (cc ia ib) ?_
         clear hd7 hd8 hd9 hd10
         exact y3 (i' := c + 1) [some 0] [] (by trivial)
      ·simp only [Bool.true_or] at hs1
       refine we1 trivial ?_
       clear hd7 hd8 hd9 hd10
       exact y3 (i' := c + 1) [some 0] [] (by trivial)
     ·obtain rfl : c = cls.length := by omega
      have hd7 : decide ((cls.length : Int) < (cls.length : Int)) = false := by simp
      have hd8 : decide (cls.length < cls.length) = false := by simp
      have hul := huLl cls.length
      have hd9 : decide (L ≥ 0) = SV cls.length := hSM.symm
      have hd10 : decide (0 ≤ L) = SV cls.length := hSM.symm
      have hd11 : decide (zS4 2 codes ≥ 0) = false := hid
      have hd12 : decide (0 ≤ zS4 2 codes) = false := hid
      clear hSV siA siB huLg huLl hSM hid
      generalize zS4 2 codes = ix at *
      generalize SV cls.length = s1 at *
      cases s1
      ·refine we1 s2 ?_
       clear hd7 hd8 hd9 hd10 hd11 hd12
       exact y3 (i' := b + 1) [some 0] [] (by trivial)
      ·refine we1 s2 ?_
       clear hd7 hd8 hd9 hd10 hd11 hd12
       exact y3 (i' := b + 1) [some 0] [] (by trivial)
    ·rw [if_neg (by omega)] at hid
     have hd15 : (xh == yh) = false := by simpa using q3
     replace hid : decide (0 ≤ zS4 2 codes) = !(SV cls.length) := by rw [hid, hSM]; by_cases hL : 0 ≤ L <;> simp [hL] <;> omega
     refine we1 (cc sp (cc sa sl)) ?_
     clear hd1 hd2 hd3 hd4 hd5 hd6 hd13 hd14 hd15
     refine y9 rfl (cls.length) (fun c => NoT c) 166 (fun c => [(19, iV c), (18, bV (SV c)), (17, iV 0), (16, iV L), (15, bV false), (13, .list (codes.map pnV)), (10, iV b), (9, iV a), (5, .list (uL cls.length)), (4, .ptr 0 0)]) (fun c => [.box [iV st, iV wd, iV rw1, x8 cls, x9 hds, x5 rules, y8 people]]) [some 0] [3] (by trivial) ?_; intro c hc hP
     clear sl sp sa hSV0
     rcases Nat.lt_or_ge c cls.length with hc2 | hc2
     ·have hs1 := hSV c
      have ia := siA c
      have ib := siB c
      have hu1 := huLg c hc2
      have hul := huLl cls.length
      have hd7 : decide ((c : Int) < (cls.length : Int)) = true := by simp; omega
      have hd8 : decide (c < cls.length) = true := by simp; omega
      clear hSV siA siB huLg huLl hSM hid
      generalize zS4 a (UVc c) = xa at *
      generalize zS4 b (UVc c) = xb at *
      obtain ⟨pa, hpa⟩ : ∃ p, decide (0 ≤ xa) = p := ⟨_, rfl⟩
      obtain ⟨pb, hpb⟩ : ∃ p, decide (0 ≤ xb) = p := ⟨_, rfl⟩
      have hd9 : decide (xa ≥ 0) = pa := hpa
      have hd10 : decide (xb ≥ 0) = pb := hpb
      rw [hpa, hpb] at hs1
      generalize UVc c = U at *
      generalize SV c = s0 at *
      cases s0
      ·cases pa
       ·simp only [Bool.false_or, Bool.false_and] at hs1
        refine we1 ia ?_
        clear hd7 hd8 hd9 hd10
        exact y3 (i' := c + 1) [some 0] [] (by trivial)
       ·simp only [Bool.false_or, Bool.true_and] at hs1
        cases pb
        ·refine we1 (cc ia ib) ?_
         clear hd7 hd8 hd9 hd10
         exact y3 (i' := c + 1) [some 0] [] (by trivial)
        ·refine we1 (cc ia ib) ?_
         clear hd7 hd8 hd9 hd10
         exact y3 (i' := c + 1) [some 0] [] (by trivial)
      ·simp only [Bool.true_or] at hs1
       refine we1 trivial ?_
       clear hd7 hd8 hd9 hd10
       exact y3 (i' := c + 1) [some 0] [] (by trivial)
     ·obtain rfl : c = cls.length := by omega
      have hd7 : decide ((cls.length : Int) < (cls.length : Int)) = false := by simp
      have hd8 : decide (cls.length < cls.length) = false := by simp
      have hul := huLl cls.length
      have hd9 : decide (L ≥ 0) = SV cls.length := hSM.symm
      have hd10 : decide (0 ≤ L) = SV cls.length := hSM.symm
      have hd11 : decide (zS4 2 codes ≥ 0) = !(SV cls.length) := hid
      have hd12 : decide (0 ≤ zS4 2 codes) = !(SV cls.length) := hid
      clear hSV siA siB huLg huLl hSM hid
      generalize zS4 2 codes = ix at *
      generalize SV cls.length = s1 at *
      cases s1
      ·simp only [Bool.not_false] at hd11 hd12
       refine we1 s2 ?_
       clear hd7 hd8 hd9 hd10 hd11 hd12
       exact y3 (i' := b + 1) [some 0] [] (by trivial)
      ·simp only [Bool.not_true] at hd11 hd12
       refine we1 s2 ?_
       clear hd7 hd8 hd9 hd10 hd11 hd12
       exact y3 (i' := b + 1) [some 0] [] (by trivial)
   ·obtain rfl : b = people.length := by omega
    have hd1 : decide ((people.length : Int) < (people.length : Int)) = false := by simp
    have hd2 : decide (people.length < people.length) = false := by simp
    clear spp saa s22 hidx hsl hper sIx hSVs hSVz sll hcl
    refine we1 trivial ?_
    clear hd1 hd2
    exact y3 (i' := a + 1) [some 0] [] (by trivial)
  ·obtain rfl : a = people.length := by omega
   have hd1 : decide ((people.length : Int) < (people.length : Int)) = false := by simp
   have hd2 : decide (people.length < people.length) = false := by simp
   clear spp saa s22 hidx hsl hper sIx hSVs hSVz sll hcl
   refine we1 sw ?_
   (refine ⟨[_], [], [], ⟨rfl, trivial⟩, ?_⟩; simp only [go_sem, *])
end Go.Abs

