/-
  WHAT THE PROOF STANDS ON, PART 6: contracts of the program's functions. No condition.
-/
import Derived.Test.YteehcinnfiaklaaGreatDoorTie
import Derived.Test.YteehcinnfiaklaaGreatDoorQE5
set_option maxRecDepth 100000
set_option maxHeartbeats 16000000
set_option linter.unusedVariables false
set_option linter.unusedSimpArgs false
set_option linter.unusedSectionVars false
namespace Go.Proofs
open Go Go.Abs
@[go_sem] theorem Tryz.ca20 : Abs.t7 prog 20 = true := by kernel_rfl
end Go.Proofs
namespace Go.Abs
open Go Go.Proofs Tryz
attribute [local irreducible] y4 Hold y9
theorem cmpL_anti : ∀ x y : List Str, zNM y x = -zNM x y
  | [], [] => rfl
  | [], _ :: _ => rfl
  | _ :: _, [] => rfl
  | a :: x, b :: y => by
    rw [zNM, zNM, L1 a b]
    by_cases h : zNI a b = 0
    · rw [if_pos h, if_pos (by omega), cmpL_anti x y]
    · rw [if_neg h, if_neg (by omega)]
theorem cmpL_zero : ∀ {x y : List Str}, zNM x y = 0 → x = y
  | [], [], _ => rfl
  | [], _ :: _, h => by cases h
  | _ :: _, [], h => by cases h
  | a :: x, b :: y, h => by
    rw [zNM] at h
    split at h
    · rename_i e; rw [cmpS_zero.1 e, cmpL_zero h]
    · rename_i e; exact absurd h e

theorem ge_L : ∀ {x y z : List Str}, ¬ zNM x y < 0 → ¬ zNM y z < 0 → ¬ zNM x z < 0
  | [], [], _, _, h => h
  | [], _ :: _, _, h, _ => absurd (by rw [zNM]; decide) h
  | _ :: _, [], [], _, _ => by rw [zNM]; decide
  | _ :: _, [], _ :: _, _, h => absurd (by rw [zNM]; decide) h
  | _ :: _, _ :: _, [], _, _ => by rw [zNM]; decide
  | a :: x, b :: y, c :: z, h1, h2 => by
    rw [zNM] at *
    have hab := L1 a b
    have hbc := L1 b c
    have hac := L1 a c
    by_cases e1 : zNI a b = 0
    · rw [if_pos e1] at h1
      rw [cmpS_zero.1 e1]
      by_cases e2 : zNI b c = 0
      · rw [if_pos e2] at h2 ⊢
        exact ge_L h1 h2
      · rw [if_neg e2] at h2 ⊢
        exact h2
    · rw [if_neg e1] at h1
      by_cases e2 : zNI b c = 0
      · rw [if_pos e2] at h2
        rw [← cmpS_zero.1 e2, if_neg e1]; exact h1
      · rw [if_neg e2] at h2
        have h3 := zOG h1 h2
        by_cases e3 : zNI a c = 0
        · have : a = c := cmpS_zero.1 e3
          subst this
          omega
        · rw [if_neg e3]; exact h3
theorem asy_L (x y : List Str) (h : zNM x y < 0) : ¬ zNM y x < 0 := by have := cmpL_anti x y; omega
theorem least_L {S : List Str → Prop} {a b : List Str} (ha : U5 zNM S a) (hb : U5 zNM S b) : a = b := by
  have h1 := ha.2 b hb.1
  have h2 := hb.2 a ha.1
  have := cmpL_anti a b
  exact cmpL_zero (by omega)

theorem chainN_some {l : List Rule} {n : Nat} {k to : Str} {c : List Str} : Y6 l n k to = some c ↔ U5 zNM (IsChain l to n k) c := by
  have hm : ∀ x, x ∈ o0 l to n k [] ↔ IsChain l to n k x := fun x => by
    rw [mem_chainsN]
    exact ⟨fun ⟨d, e, h⟩ => by rw [e]; exact h, fun h => ⟨x, rfl, h⟩⟩
  unfold Y6
  by_cases hl : o0 l to n k [] = []
  · rw [hl, zBS]
    constructor
    · intro h; cases h
    · intro h
      have := (hm c).2 h.1
      rw [hl] at this; cases this
  · obtain ⟨b, h1, h2, h3⟩ := P5 (cmp := zNM) (fun _ _ _ => ge_L) asy_L hl
    have hb : U5 zNM (IsChain l to n k) b := ⟨(hm b).1 h2, fun x hx => h3 x ((hm x).2 hx)⟩
    rw [h1]
    constructor
    · intro h; cases h; exact hb
    · intro h; rw [least_L h hb]
theorem cmpL_cons (a : Str) (x y : List Str) : zNM (a :: x) (a :: y) = zNM x y := by rw [zNM, if_pos (cmpS_zero.2 rfl)]
theorem chainR_some {l : List Rule} {to : Str} : ∀ {n : Nat} {s : Str} {o : Option (List Str)}, zEU l to n s = o → match o with
    | none => ∀ c, ¬ IsChain l to n s c
    | some c => U5 zNM (IsChain l to n s) c
  | 0, s, o, h => by
    rw [zEU] at h
    split at h
    · rename_i e
      subst h e
      refine ⟨.nil, fun x hx => ?_⟩
      cases hx
      rw [zNM, if_pos (cmpS_zero.2 rfl)]; decide
    · rename_i e
      subst h
      intro c hc
      cases hc
      exact e rfl
  | n + 1, s, o, h => by
    rw [zEU] at h
    have key : ∀ (xs done : List Str) (b : Option (List Str)), (match b with
        | none => ∀ c, ¬ zOf l to n s done c
        | some c => U5 zNM (zOf l to n s done) c) →
        match xs.foldl (fun best x => zD9 s best x (zEU l to n x)) b with
        | none => ∀ c, ¬ zOf l to n s (done ++ xs) c
        | some c => U5 zNM (zOf l to n s (done ++ xs)) c := by
      intro xs
      induction xs with
      | nil => intro done b hb; simpa using hb
      | cons x xs ih =>
        intro done b hb
        rw [List.foldl_cons, show done ++ x :: xs = (done ++ [x]) ++ xs by simp]
        apply ih
        have IH := chainR_some (l := l) (to := to) (n := n) (s := x) rfl
        cases hr : zEU l to n x with
        | none =>
          rw [hr] at IH
          have hov : ∀ c, zOf l to n s (done ++ [x]) c ↔ zOf l to n s done c := fun c => by
            constructor
            · rintro ⟨y, r, hy, rfl, hc⟩
              rcases List.mem_append.1 hy with hy | hy
              · exact ⟨y, r, hy, rfl, hc⟩
              · rw [List.mem_singleton.1 hy] at hc; exact absurd hc (IH r)
            · rintro ⟨y, r, hy, rfl, hc⟩
              exact ⟨y, r, by simp [hy], rfl, hc⟩
          cases b with
          | none => exact fun c hc => hb c ((hov c).1 hc)
          | some b => exact ⟨(hov b).2 hb.1, fun z hz => hb.2 z ((hov z).1 hz)⟩
        | some rest =>
          rw [hr] at IH
          obtain ⟨r0, rfl⟩ := IH.1.head
          have hnew : zOf l to n s (done ++ [x]) (s :: x :: r0) := ⟨x, x :: r0, by simp, rfl, IH.1⟩
          cases b with
          | none =>
            show U5 zNM _ (s :: x :: r0)
            refine ⟨hnew, ?_⟩
            rintro z ⟨y, r, hy, rfl, hc⟩
            rcases List.mem_append.1 hy with hy | hy
            · exact absurd ⟨y, r, hy, rfl, hc⟩ (hb (s :: r))
            · rw [List.mem_singleton.1 hy] at hc
              rw [cmpL_cons]; exact IH.2 _ hc
          | some b =>
            obtain ⟨⟨yb, rb, hyb, eb, hcb⟩, hleast⟩ := hb
            obtain ⟨rb0, rfl⟩ := hcb.head
            subst eb
            simp only [zD9, List.getD_cons_succ, List.getD_cons_zero]
            by_cases hlt : u5 x yb = true
            · rw [if_pos hlt]
              refine ⟨hnew, ?_⟩
              rintro z ⟨y, r, hy, rfl, hc⟩
              rcases List.mem_append.1 hy with hy | hy
              · have h1 := hleast (s :: r) ⟨y, r, hy, rfl, hc⟩
                refine ge_L h1 ?_
                rw [cmpL_cons, zNM]
                have h2 := cmpS_neg.2 hlt
                have h3 := L1 x yb
                rw [if_neg (by omega)]; omega
              · rw [List.mem_singleton.1 hy] at hc
                rw [cmpL_cons]; exact IH.2 _ hc
            · rw [if_neg hlt]
              refine ⟨⟨yb, yb :: rb0, by simp [hyb], rfl, hcb⟩, ?_⟩
              rintro z ⟨y, r, hy, rfl, hc⟩
              rcases List.mem_append.1 hy with hy | hy
              · exact hleast (s :: r) ⟨y, r, hy, rfl, hc⟩
              · rw [List.mem_singleton.1 hy] at hc
                obtain ⟨r', rfl⟩ := hc.head
                rw [cmpL_cons, zNM]
                have h2 : ¬ zNI x yb < 0 := fun h => hlt (cmpS_neg.1 h)
                split
                · rename_i e
                  have e := cmpS_zero.1 e
                  subst e
                  have := hleast (s :: x :: r') ⟨x, x :: r', hyb, rfl, hc⟩
                  rw [cmpL_cons, cmpL_cons] at this
                  exact this
                · exact h2
    have := key (p9 l s) [] none (by rintro c ⟨y, r, hy, _⟩; cases hy)
    rw [h, List.nil_append] at this
    have hov : ∀ c, zOf l to n s (p9 l s) c ↔ IsChain l to (n + 1) s c := fun c => by
      constructor
      · rintro ⟨y, r, hy, rfl, hc⟩; exact .cons hy hc
      · intro hc
        cases hc with
        | cons h1 h2 => exact ⟨_, _, h1, rfl, h2⟩
    cases o with
    | none => exact fun c hc => this c ((hov c).2 hc)
    | some c => exact ⟨(hov c).1 this.1, fun z hz => this.2 z ((hov z).2 hz)⟩
theorem chain_eq (l : List Rule) (to : Str) (n : Nat) (s : Str) : Y6 l n s to = zEU l to n s := by
  have h := chainR_some (l := l) (to := to) (n := n) (s := s) rfl
  cases hr : zEU l to n s with
  | some c => rw [hr] at h; exact chainN_some.2 h
  | none =>
    rw [hr] at h
    cases hc : Y6 l n s to with
    | none => rfl
    | some c => exact absurd (chainN_some.1 hc).1 (h c)
theorem mem_otherL {c : UInt8} : c ∈ otherL ↔ v7 c = true := by
  unfold otherL v7
  constructor
  · intro h
    simp only [List.mem_cons, List.not_mem_nil, or_false] at h
    rcases h with rfl | rfl | rfl | rfl | rfl | rfl | rfl | rfl | rfl | rfl | rfl | rfl | rfl | rfl | rfl | rfl | rfl | rfl | rfl | rfl | rfl | rfl | rfl <;> decide
  · intro h
    rw [Bool.and_eq_true, Bool.and_eq_true, decide_eq_true_eq, decide_eq_true_eq, Bool.not_eq_true', Bool.or_eq_false_iff, Bool.or_eq_false_iff, beq_eq_false_iff_ne, beq_eq_false_iff_ne, beq_eq_false_iff_ne] at h
    obtain ⟨⟨h1, h2⟩, ⟨h3, h4⟩, h5⟩ := h
    have key : ∀ n : Nat, 65 ≤ n → n ≤ 90 → n ≠ 72 → n ≠ 81 → n ≠ 87 → UInt8.ofNat n ∈ otherL := by
      intro n a b c d e
      have : n = 65 ∨ n = 66 ∨ n = 67 ∨ n = 68 ∨ n = 69 ∨ n = 70 ∨ n = 71 ∨ n = 73 ∨ n = 74 ∨ n = 75 ∨ n = 76 ∨ n = 77 ∨ n = 78 ∨ n = 79 ∨ n = 80 ∨ n = 82 ∨ n = 83 ∨ n = 84 ∨ n = 85 ∨ n = 86 ∨ n = 88 ∨ n = 89 ∨ n = 90 := by omega
      rcases this with rfl | rfl | rfl | rfl | rfl | rfl | rfl | rfl | rfl | rfl | rfl | rfl | rfl | rfl | rfl | rfl | rfl | rfl | rfl | rfl | rfl | rfl | rfl <;> decide
    have ne : ∀ d : UInt8, c ≠ d → c.toNat ≠ d.toNat := fun d hd e => hd (UInt8.toNat_inj.1 e)
    have := key c.toNat h1 h2 (ne 72 h3) (ne 81 h4) (ne 87 h5)
    rw [UInt8.ofNat_toNat] at this
    exact this
theorem chainOf_some {r : List Rule} {a b : Str} {c : List Str} (h : M9 r a b = some c) : ∃ n, n ≤ 2 ∧ c.length = n + 1 ∧ IsChain r (zNG b) n (zNG a) c ∧ ∀ m, m < n → ∀ d, ¬ IsChain r (zNG b) m (zNG a) d := by
  obtain ⟨pre, n, post, h1, h2, h3⟩ := zBU h
  have hn := (chainN_some.1 h2).1
  have hm : ∀ m, m ∈ pre → ∀ d, ¬ IsChain r (zNG b) m (zNG a) d := fun m hm d hd => by
    have := h3 m hm
    rw [chain_eq] at this
    exact (chainR_some this) d hd
  have hcase : (n = 0 ∧ pre = []) ∨ (n = 1 ∧ pre = [0]) ∨ (n = 2 ∧ pre = [0, 1]) := by
    match pre, h1 with
    | [], h1 => simp at h1; exact .inl ⟨h1.1.symm, rfl⟩
    | [x], h1 => simp at h1; exact .inr (.inl ⟨h1.2.1.symm, by rw [h1.1]⟩)
    | [x, y], h1 => simp at h1; exact .inr (.inr ⟨h1.2.2.1.symm, by rw [h1.1, h1.2.1]⟩)
    | x :: y :: z :: t, h1 =>
      have := congrArg List.length h1
      simp at this
  refine ⟨n, by rcases hcase with h | h | h <;> omega, zEW hn, hn, fun m hlt d => ?_⟩
  rcases hcase with ⟨rfl, _⟩ | ⟨rfl, rfl⟩ | ⟨rfl, rfl⟩
  · omega
  · exact hm m (by simp; omega) d
  · exact hm m (by simp; omega) d
theorem keyN_cons (a : UInt8) (r : Str) : zNG (a :: r) = w6 a ++ zNG r := rfl
theorem foreignF_sound : ∀ (n : Nat) (k o : Str), zBa n k = some o → o.all v7 = true ∧ zNG o = k
  | _, [], o, h => by
    rw [zBa] at h
    cases h; exact ⟨rfl, rfl⟩
  | 0, _ :: _, o, h => by cases h
  | n + 1, a :: r, o, h => by
    rw [zBa] at h
    obtain ⟨pre, c, post, hL, h1, _⟩ := zBU h
    have hc : c ∈ otherL := by rw [hL]; simp
    split at h1
    · rename_i hp
      cases e : zBa n ((a :: r).drop (w6 c).length) with
      | none => rw [e] at h1; cases h1
      | some o' =>
        rw [e] at h1
        cases h1
        obtain ⟨g1, g2⟩ := foreignF_sound n _ o' e
        refine ⟨by rw [List.all_cons, mem_otherL.1 hc, g1]; rfl, ?_⟩
        rw [keyN_cons, g2]
        obtain ⟨t, ht⟩ := List.isPrefixOf_iff_prefix.1 hp
        rw [← ht]; simp
    · cases h1
theorem bits_ex (p : Nat → Bool) : ∀ n : Nat, ∃ set, set < 2 ^ n ∧ ∀ i, i < n → set.testBit i = p i
  | 0 => ⟨0, by simp, fun i h => by omega⟩
  | n + 1 => by
    obtain ⟨s, h1, h2⟩ := bits_ex p n
    cases hp : p n with
    | false =>
      refine ⟨s, by rw [Nat.pow_succ]; omega, fun i hi => ?_⟩
      by_cases e : i = n
      · subst e; rw [hp]; exact Nat.testBit_lt_two_pow h1
      · exact h2 i (by omega)
    | true =>
      refine ⟨2 ^ n + s, by rw [Nat.pow_succ]; omega, fun i hi => ?_⟩
      by_cases e : i = n
      · subst e; rw [hp, Nat.testBit_two_pow_add_eq, Nat.testBit_lt_two_pow h1]; rfl
      · rw [Nat.testBit_two_pow_add_gt (by omega)]; exact h2 i (by omega)
theorem asc_ext {n : Nat} {c d : List Nat} (hc : Asc n c) (hd : Asc n d) (h : ∀ i, i ∈ c ↔ i ∈ d) : c = d :=
  List.Perm.eq_of_pairwise (le := (· < ·)) (fun a b _ _ h1 h2 => by omega) hc.1 hd.1 ((List.perm_ext_iff_of_nodup (hc.1.imp (fun h => Nat.ne_of_lt h)) (hd.1.imp (fun h => Nat.ne_of_lt h))).2 h)
theorem outIdx_asc (n set : Nat) : Asc n (zGs n set) := ⟨(List.pairwise_lt_range).filter _, fun i hi => by simpa using (List.mem_filter.1 hi).1⟩
theorem mem_rightSets {l : List Str} {c : List Nat} : c ∈ zHD l ↔ Asc l.length c ∧ J3 (zDN l c) = true := by
  unfold zHD
  rw [List.mem_filterMap]
  have hrest : ∀ set, zHA l set = zDN l (zGs l.length set) := fun set => by
    unfold zHA zDN zGs
    congr 1
    refine List.filter_congr (fun i hi => ?_)
    have hi' : i < l.length := by simpa using hi
    simp [hi']
  constructor
  · rintro ⟨set, _, h⟩
    split at h
    · rename_i ho
      cases h
      exact ⟨outIdx_asc _ _, by rw [← hrest]; exact ho⟩
    · cases h
  · rintro ⟨h1, h2⟩
    obtain ⟨set, hs, hb⟩ := bits_ex (fun i => decide (i ∈ c)) l.length
    have e : zGs l.length set = c := asc_ext (outIdx_asc _ _) h1 (fun i => by
      unfold zGs
      rw [List.mem_filter]
      constructor
      · rintro ⟨h3, h4⟩
        rw [hb i (by simpa using h3)] at h4
        simpa using h4
      · intro h3
        exact ⟨by simpa using h1.2 i h3, by rw [hb i (h1.2 i h3)]; simpa using h3⟩)
    refine ⟨set, by simpa using hs, ?_⟩
    rw [hrest, e, if_pos h2]

theorem cmpNs_anti : ∀ x y : List Nat, zBC y x = -zBC x y
  | [], [] => rfl
  | [], _ :: _ => rfl
  | _ :: _, [] => rfl
  | a :: x, b :: y => by
    rw [zBC, zBC, zEe a b]
    by_cases h : zNV a b = 0
    · rw [if_pos h, if_pos (by omega), cmpNs_anti x y]
    · rw [if_neg h, if_neg (by omega)]
theorem cmpN_zero {a b : Int} : zNV a b = 0 ↔ a = b := by
  unfold zNV
  repeat' split
  all_goals omega
theorem ge_Ns : ∀ {x y z : List Nat}, ¬ zBC x y < 0 → ¬ zBC y z < 0 → ¬ zBC x z < 0
  | [], [], _, _, h => h
  | [], _ :: _, _, h, _ => absurd (by rw [zBC]; decide) h
  | _ :: _, [], [], _, _ => by rw [zBC]; decide
  | _ :: _, [], _ :: _, _, h => absurd (by rw [zBC]; decide) h
  | _ :: _, _ :: _, [], _, _ => by rw [zBC]; decide
  | a :: x, b :: y, c :: z, h1, h2 => by
    rw [zBC] at *
    have rc := fun p q => ge_Ns (x := x) (y := y) (z := z) p q
    by_cases e1 : zNV a b = 0
    · rw [if_pos e1] at h1
      rw [cmpN_zero.1 e1]
      by_cases e2 : zNV b c = 0
      · rw [if_pos e2] at h2 ⊢
        exact rc h1 h2
      · rw [if_neg e2] at h2 ⊢
        exact h2
    · rw [if_neg e1] at h1
      by_cases e2 : zNV b c = 0
      · rw [if_pos e2] at h2
        rw [← cmpN_zero.1 e2, if_neg e1]; exact h1
      · rw [if_neg e2] at h2
        have : ¬ zNV a c = 0 ∧ ¬ zNV a c < 0 := by
          unfold zNV at *
          repeat' split at h1
          all_goals repeat' split at h2
          all_goals repeat' split
          all_goals omega
        rw [if_neg this.1]; exact this.2
theorem shorter_neg {a b : List Nat} : zHb a b < 0 ↔ a.length < b.length ∨ (a.length = b.length ∧ zBC a b < 0) := by
  unfold zHb orI
  by_cases h : zNV a.length b.length = 0
  · rw [if_pos h]
    have := cmpN_zero.1 h
    constructor
    · intro k; exact .inr ⟨by omega, k⟩
    · rintro (k | k)
      · omega
      · exact k.2
  · rw [if_neg h]
    have hne : ¬ (a.length : Int) = b.length := fun e => h (cmpN_zero.2 e)
    constructor
    · intro k
      unfold zNV at k
      repeat' split at k
      all_goals omega
    · rintro (k | k)
      · unfold zNV; rw [if_pos (by omega)]; decide
      · omega
theorem ge_shorter {x y z : List Nat} (h1 : ¬ zHb x y < 0) (h2 : ¬ zHb y z < 0) : ¬ zHb x z < 0 := by
  rw [shorter_neg, not_or, not_and] at *
  exact ⟨by omega, fun e => ge_Ns (h1.2 (by omega)) (h2.2 (by omega))⟩
theorem asy_shorter (x y : List Nat) (h : zHb x y < 0) : ¬ zHb y x < 0 := by
  rw [shorter_neg] at *
  rw [not_or, not_and]
  rcases h with h | h
  · exact ⟨by omega, fun e => by omega⟩
  · have := cmpNs_anti x y
    exact ⟨by omega, fun _ => by omega⟩
theorem wrongN_least (l : List Str) : U5 zHb (zJj l) (zNE l) := by
  have hne : zHD l ≠ [] := by
    have hall : zJj l (List.range l.length) := ⟨⟨List.pairwise_lt_range, fun i hi => by simpa using hi⟩, by
      have : zDN l (List.range l.length) = [] := by
        unfold zDN
        rw [List.filter_eq_nil_iff.2 (fun i hi => by simpa using hi)]; rfl
      rw [this]; rfl⟩
    intro e
    have := mem_rightSets.2 hall
    rw [e] at this; cases this
  obtain ⟨b, h1, h2, h3⟩ := P5 (cmp := zHb) (fun _ _ _ => ge_shorter) asy_shorter hne
  unfold zNE
  rw [h1]
  exact ⟨mem_rightSets.1 h2, fun x hx => h3 x (mem_rightSets.2 hx)⟩
theorem sp_NCompare (a b : Str) : zNF prog 48 [sV a, sV b] [] (.tup [iV (if zKS a b = 0 then o5 a b else 0), iV (zKS a b)]) [] := by
  have sc : zNF prog 87 [.list [sV a, sV b]] [] (iV (zKS a b)) [] := zCx [a, b] (by simp)
  by_cases q : zKS a b = 0
  · have hv : ValidN a ∧ ValidN b := by
      unfold zKS at q
      rw [zCX] at q
      by_cases h : x4 a = 0
      · rw [if_pos h] at q; exact ⟨checkN_zero.1 h, checkN_zero.1 q⟩
      · rw [if_neg h] at q; exact absurd q h
    have s1 := zIH a b hv.1 hv.2
    rw [if_pos q]
    rw [q] at sc ⊢
    clear hv q
    generalize o5 a b = r at *
    refine q9 func48 rfl (fun E hE => ?_); simp only [go_sem, ntmps48]
    repeat' (first | (refine Qr rfl ?_; try intro _ hK; try simp only [go_sem, *]) | refine Qh rfl ?_ | (refine Qc rfl rfl ?_ ?_ <;> (intro hb; have hc := hb; try simp only [go_sem] at hc)) | refine q8 rfl ?_ | ((with_reducible apply And.intro); focus omega) | (refine q7 hK ?_; clear hK; simp only [go_sem, *]) | simp only [q6, z8, go_sem, *])
    (refine R7 [0] (sc) (by simp only [go_sem, *]) (.raw _) ?_; simp only [go_sem, *])
    repeat' (first | (refine Qr rfl ?_; try intro _ hK; try simp only [go_sem, *]) | refine Qh rfl ?_ | (refine Qc rfl rfl ?_ ?_ <;> (intro hb; have hc := hb; try simp only [go_sem] at hc)) | refine q8 rfl ?_ | (refine y5 (s1) ?_; simp only [go_sem, *]) | ((with_reducible apply And.intro); focus omega) | (refine q7 hK ?_; clear hK; simp only [go_sem, *]) | simp only [q6, z8, go_sem, *])
    all_goals try contradiction
    (refine ⟨[_, _], [], [], ⟨rfl, rfl, trivial⟩, ?_⟩; simp only [go_sem, *])
  · rw [if_neg q]
    generalize zKS a b = e at *
    refine q9 func48 rfl (fun E hE => ?_); simp only [go_sem, ntmps48]
    repeat' (first | (refine Qr rfl ?_; try intro _ hK; try simp only [go_sem, *]) | refine Qh rfl ?_ | (refine Qc rfl rfl ?_ ?_ <;> (intro hb; have hc := hb; try simp only [go_sem] at hc)) | refine q8 rfl ?_ | ((with_reducible apply And.intro); focus omega) | (refine q7 hK ?_; clear hK; simp only [go_sem, *]) | simp only [q6, z8, go_sem, *])
    (refine R7 [0] (sc) (by simp only [go_sem, *]) (.raw _) ?_; simp only [go_sem, *])
    repeat' (first | (refine Qr rfl ?_; try intro _ hK; try simp only [go_sem, *]) | refine Qh rfl ?_ | (refine Qc rfl rfl ?_ ?_ <;> (intro hb; have hc := hb; try simp only [go_sem] at hc)) | refine q8 rfl ?_ | ((with_reducible apply And.intro); focus omega) | (refine q7 hK ?_; clear hK; simp only [go_sem, *]) | simp only [q6, z8, go_sem, *])
    all_goals try contradiction
    (refine ⟨[_, _], [], [], ⟨rfl, rfl, trivial⟩, ?_⟩; simp only [go_sem, *])
theorem orderedB_iff : ∀ {l : List Str}, J3 l = true ↔ zJf l 0
  | [] => by simp [J3, zJf]
  | [a] => by simp [J3, zJf]
  | a :: b :: r => by
    rw [J3, Bool.and_eq_true, Bool.not_eq_true', decide_eq_false_iff_not, orderedB_iff (l := b :: r)]
    unfold zJf
    constructor
    · rintro ⟨h1, h2⟩ j _ hj
      cases j with
      | zero => simpa using h1
      | succ j =>
        have := h2 j (Nat.zero_le _) (by simpa using hj)
        simpa using this
    · intro h
      refine ⟨by simpa using h 0 (Nat.le_refl _) (by simp), fun j _ hj => ?_⟩
      have := h (j + 1) (by omega) (by simpa using hj)
      simpa using this
theorem sp_IsSorted (l : List Str) (hv : ∀ s, s ∈ l → ValidN s) (hl : l.length ≤ 1000) : zNF prog 101 [y7 l, fnV 96] [] (bV (J3 l)) [] := by
  have hca : t7 prog 96 = true := by kernel_rfl
  have hs : ∀ a b : Str, ValidN a → ValidN b → zNF prog 96 [sV a, sV b] [] (iV (o5 a b)) [] := zIH
  by_cases h0 : l.length = 0
  · have e : l = [] := List.eq_nil_of_length_eq_zero h0
    subst e
    have hw0 : IntKind.i64.wrap (-1) = (-1 : Int) := by decide
    have er : J3 [] = true := rfl
    rw [er]
    clear hs
    refine q9 func101 rfl (fun E hE => ?_); simp only [go_sem, ntmps101]
    repeat' (first | (refine Qr rfl ?_; try intro _ hK; try simp only [go_sem, *]) | refine Qh rfl ?_ | refine Qd rfl (by kernel_rfl) ?_ | (refine Qc rfl rfl ?_ ?_ <;> (intro hb; have hc := hb; try simp only [go_sem] at hc)) | refine q8 rfl ?_ | (refine Qb ?_ ?_; focus kernel_rfl) | ((with_reducible apply And.intro); focus omega) | (refine q7 hK ?_; clear hK; simp only [go_sem, *]) | simp only [q6, z8, go_sem, *])
    refine n0 rfl (1) (fun i => NoQ i) 25 (fun i => [(5, iV (-1)), (0, y7 []), (1, fnV 96)]) (fun i => []) [] [] (by trivial) ?_; intro i hi hP
    repeat' (first | (refine Qr rfl ?_; try intro _ hK; try simp only [go_sem, *]) | refine Qh rfl ?_ | refine Qd rfl (by kernel_rfl) ?_ | (refine Qc rfl rfl ?_ ?_ <;> (intro hb; have hc := hb; try simp only [go_sem] at hc)) | refine q8 rfl ?_ | (refine Qb ?_ ?_; focus kernel_rfl) | ((with_reducible apply And.intro); focus omega) | (refine q7 hK ?_; clear hK; simp only [go_sem, *]) | simp only [q6, z8, go_sem, *])
    all_goals try contradiction
    (refine ⟨[_], [], [], ⟨rfl, trivial⟩, ?_⟩; simp only [go_sem, *])
  have hw0 : IntKind.i64.wrap ((l.length : Int) - 1) = ((l.length - 1 : Nat) : Int) := by rw [wrap_i64 (by omega) (by omega)]; omega
  refine q9 func101 rfl (fun E hE => ?_); simp only [go_sem, ntmps101]
  repeat' (first | (refine Qr rfl ?_; try intro _ hK; try simp only [go_sem, *]) | refine Qh rfl ?_ | refine Qd rfl (by kernel_rfl) ?_ | (refine Qc rfl rfl ?_ ?_ <;> (intro hb; have hc := hb; try simp only [go_sem] at hc)) | refine q8 rfl ?_ | (refine Qb ?_ ?_; focus kernel_rfl) | ((with_reducible apply And.intro); focus omega) | (refine q7 hK ?_; clear hK; simp only [go_sem, *]) | simp only [q6, z8, go_sem, *])
  refine n0 rfl (l.length) (fun i => i + 1 ≤ l.length ∧ zJf l (l.length - 1 - i)) 25 (fun i => [(5, iV ((l.length - 1 - i : Nat) : Int)), (0, y7 l), (1, fnV 96)]) (fun i => []) [] [] (by exact ⟨by omega, fun j h1 h2 => by omega⟩) ?_; intro i hi hP
  obtain ⟨hi3, hP⟩ := hP
  generalize hk : l.length - 1 - i = k at *
  by_cases hi2 : 0 < k
  · have hw1 : IntKind.i64.wrap ((k : Int) - 1) = ((k - 1 : Nat) : Int) := by rw [wrap_i64 (by omega) (by omega)]; omega
    have hk1 : k < l.length := by omega
    have hk2 : k - 1 < l.length := by omega
    have m1 : l.getD k default ∈ l := o7 hk1
    have m2 : l.getD (k - 1) default ∈ l := o7 hk2
    have sc := hs _ _ (hv _ m1) (hv _ m2)
    have hstep : ¬ o5 (l.getD k default) (l.getD (k - 1) default) < 0 → zJf l (k - 1) := fun h j h1 h2 => by
      by_cases e : j = k - 1
      · subst e
        rw [show k - 1 + 1 = k by omega]; exact h
      · exact hP j (by omega) h2
    have hbad : o5 (l.getD k default) (l.getD (k - 1) default) < 0 → J3 l = false := fun h => by
      cases e : J3 l with
      | false => rfl
      | true =>
        have := orderedB_iff.1 e (k - 1) (by omega) (by omega)
        rw [show k - 1 + 1 = k by omega] at this
        exact absurd h this
    clear hs hP
    have hnx : l.length - 1 - (i + 1) = k - 1 := by omega
    generalize o5 (l.getD k default) (l.getD (k - 1) default) = c at *
    repeat' (first | (refine Qr rfl ?_; try intro _ hK; try simp only [go_sem, *]) | refine Qh rfl ?_ | refine Qd rfl (by kernel_rfl) ?_ | (refine Qc rfl rfl ?_ ?_ <;> (intro hb; have hc := hb; try simp only [go_sem] at hc)) | refine q8 rfl ?_ | (refine Qb ?_ ?_; focus kernel_rfl) | (refine y5 (sc) ?_; simp only [go_sem, *]) | ((with_reducible apply And.intro); focus omega) | (refine q7 hK ?_; clear hK; simp only [go_sem, *]) | simp only [q6, z8, go_sem, *])
    · (refine ⟨[_], [], [], ⟨rfl, trivial⟩, ?_⟩; simp only [go_sem, *])
    · exact d7 (i' := i + 1) [] [] (by rw [hnx]; exact ⟨by omega, hstep (by omega)⟩)
  · have hf : zJf l 0 := by
      have : k = 0 := by omega
      rw [this] at hP; exact hP
    rw [orderedB_iff.2 hf]
    clear hs hP hf
    repeat' (first | (refine Qr rfl ?_; try intro _ hK; try simp only [go_sem, *]) | refine Qh rfl ?_ | refine Qd rfl (by kernel_rfl) ?_ | (refine Qc rfl rfl ?_ ?_ <;> (intro hb; have hc := hb; try simp only [go_sem] at hc)) | refine q8 rfl ?_ | (refine Qb ?_ ?_; focus kernel_rfl) | ((with_reducible apply And.intro); focus omega) | (refine q7 hK ?_; clear hK; simp only [go_sem, *]) | simp only [q6, z8, go_sem, *])
    all_goals first | contradiction | omega | skip
    (refine ⟨[_], [], [], ⟨rfl, trivial⟩, ?_⟩; simp only [go_sem, *])
theorem sp_Place (l : List Str) (s : Str) (hl : l.length ≤ 4294967296) : zNF prog 63 [y7 l, sV s] [] (.tup [iV (zMH l s), iV (zGx l s)]) [] := by
  have s1 := E6 l hl
  have s2 := zAT s
  by_cases q1 : u9 l = 0
  · by_cases q2 : x4 s = 0
    · have hv := K4 q1
      have hl6 := G4 q1
      have s3 := sp_IsSorted l hv (by omega)
      by_cases q3 : J3 l = true
      · have e1 : zGx l s = 0 := by unfold zGx; rw [if_pos q1, if_pos q2, if_pos q3]
        have e2 : zMH l s = ((l.countP fun x => decide (o5 x s < 0) : Nat) : Int) := by unfold zMH; rw [if_pos e1]
        rw [e1, e2]
        rw [q1] at s1
        rw [q2] at s2
        rw [q3] at s3
        have vs := checkN_zero.1 q2
        have s4 : ∀ i, i < l.length → zNF prog 96 [sV (l.getD i default), sV s] [] (iV (o5 (l.getD i default) s)) [] := fun i hi => zIH _ _ (hv _ (o7 hi)) vs
        clear q1 q2 q3 e1 e2 hv vs
        refine q9 func63 rfl (fun E hE => ?_); simp only [go_sem, ntmps63]
        repeat' (first | (refine Qr rfl ?_; try intro _ hK; try simp only [go_sem, *]) | refine Qh rfl ?_ | (refine Qc rfl rfl ?_ ?_ <;> (intro hb; have hc := hb; try simp only [go_sem] at hc)) | refine q8 rfl ?_ | ((first | refine y5 (s1) ?_ | refine y5 (s2) ?_ | refine y5 (s3) ?_); simp only [go_sem, *]) | ((with_reducible apply And.intro); focus omega) | (refine q7 hK ?_; clear hK; simp only [go_sem, *]) | simp only [q6, z8, go_sem, *])
        all_goals try contradiction
        refine c7 rfl (l.length) (fun i (n : Nat) => n = (l.take i).countP fun x => decide (o5 x s < 0)) 38 (fun i n => [(26, iV i), (25, iV l.length), (24, y7 l), (8, iV n), (1, sV s)]) (fun i n => []) [] [] (0) (by simp) ?_; intro i n hi hP
        by_cases hi2 : i < l.length
        · have sc := s4 i hi2
          have hn : (l.take (i + 1)).countP (fun x => decide (o5 x s < 0)) = n + if o5 (l.getD i default) s < 0 then 1 else 0 := by
            rw [zI6 hi2, List.countP_append, ← hP]; simp [List.countP_cons]
          have hw : IntKind.i64.wrap ((n : Int) + 1) = ((n + 1 : Nat) : Int) := t6 (by have := List.countP_le_length (p := fun x => decide (o5 x s < 0)) (l := l.take i); simp at this; omega)
          clear hP
          generalize o5 (l.getD i default) s = c at *
          repeat' (first | (refine Qr rfl ?_; try intro _ hK; try simp only [go_sem, *]) | refine Qh rfl ?_ | (refine Qc rfl rfl ?_ ?_ <;> (intro hb; have hc := hb; try simp only [go_sem] at hc)) | refine q8 rfl ?_ | (refine y5 (sc) ?_; simp only [go_sem, *]) | ((with_reducible apply And.intro); focus omega) | (refine q7 hK ?_; clear hK; simp only [go_sem, *]) | simp only [q6, z8, go_sem, *])
          · rw [if_pos (by assumption)] at hn
            exact p5 (i' := i + 1) [] [] (n + 1) (by exact hn.symm)
          · rw [if_neg (by omega)] at hn
            exact p5 (i' := i + 1) [] [] (n) (by exact hn.symm)
        · rw [List.take_of_length_le (by omega)] at hP
          rw [← hP]
          clear hP
          repeat' (first | (refine Qr rfl ?_; try intro _ hK; try simp only [go_sem, *]) | refine Qh rfl ?_ | (refine Qc rfl rfl ?_ ?_ <;> (intro hb; have hc := hb; try simp only [go_sem] at hc)) | refine q8 rfl ?_ | ((with_reducible apply And.intro); focus omega) | (refine q7 hK ?_; clear hK; simp only [go_sem, *]) | simp only [q6, z8, go_sem, *])
          (refine ⟨[_, _], [], [], ⟨rfl, rfl, trivial⟩, ?_⟩; simp only [go_sem, *])
      · have q4 : J3 l = false := by simpa using q3
        have e1 : zGx l s = 5 := by unfold zGx; rw [if_pos q1, if_pos q2, if_neg q3]
        have e2 : zMH l s = 0 := by unfold zMH; rw [e1]; rfl
        rw [e1, e2]
        rw [q1] at s1
        rw [q2] at s2
        rw [q4] at s3
        clear q1 q2 q3 q4 e1 e2 hv
        refine q9 func63 rfl (fun E hE => ?_); simp only [go_sem, ntmps63]
        repeat' (first | (refine Qr rfl ?_; try intro _ hK; try simp only [go_sem, *]) | refine Qh rfl ?_ | (refine Qc rfl rfl ?_ ?_ <;> (intro hb; have hc := hb; try simp only [go_sem] at hc)) | refine q8 rfl ?_ | ((first | refine y5 (s1) ?_ | refine y5 (s2) ?_ | refine y5 (s3) ?_); simp only [go_sem, *]) | ((with_reducible apply And.intro); focus omega) | (refine q7 hK ?_; clear hK; simp only [go_sem, *]) | simp only [q6, z8, go_sem, *])
        all_goals try contradiction
        (refine ⟨[_, _], [], [], ⟨rfl, rfl, trivial⟩, ?_⟩; simp only [go_sem, *])
    · have e1 : zGx l s = x4 s := by unfold zGx; rw [if_pos q1, if_neg q2]
      have e2 : zMH l s = 0 := by unfold zMH; rw [e1, if_neg q2]
      rw [e1, e2]
      rw [q1] at s1
      clear q1 e1 e2
      generalize x4 s = e at *
      refine q9 func63 rfl (fun E hE => ?_); simp only [go_sem, ntmps63]
      repeat' (first | (refine Qr rfl ?_; try intro _ hK; try simp only [go_sem, *]) | refine Qh rfl ?_ | (refine Qc rfl rfl ?_ ?_ <;> (intro hb; have hc := hb; try simp only [go_sem] at hc)) | refine q8 rfl ?_ | ((first | refine y5 (s1) ?_ | refine y5 (s2) ?_); simp only [go_sem, *]) | ((with_reducible apply And.intro); focus omega) | (refine q7 hK ?_; clear hK; simp only [go_sem, *]) | simp only [q6, z8, go_sem, *])
      all_goals try contradiction
      (refine ⟨[_, _], [], [], ⟨rfl, rfl, trivial⟩, ?_⟩; simp only [go_sem, *])
  · have e1 : zGx l s = u9 l := by unfold zGx; rw [if_neg q1]
    have e2 : zMH l s = 0 := by unfold zMH; rw [e1, if_neg q1]
    rw [e1, e2]
    clear s2 e1 e2
    generalize u9 l = e at *
    refine q9 func63 rfl (fun E hE => ?_); simp only [go_sem, ntmps63]
    repeat' (first | (refine Qr rfl ?_; try intro _ hK; try simp only [go_sem, *]) | refine Qh rfl ?_ | (refine Qc rfl rfl ?_ ?_ <;> (intro hb; have hc := hb; try simp only [go_sem] at hc)) | refine q8 rfl ?_ | (refine y5 (s1) ?_; simp only [go_sem, *]) | ((with_reducible apply And.intro); focus omega) | (refine q7 hK ?_; clear hK; simp only [go_sem, *]) | simp only [q6, z8, go_sem, *])
    all_goals try contradiction
    (refine ⟨[_, _], [], [], ⟨rfl, rfl, trivial⟩, ?_⟩; simp only [go_sem, *])
theorem chainO_zero {r : List Rule} {a b : Str} (h : e8 r a b = 0) : ∃ c, R9 r a b = some c ∧ zEV r a b = c ∧ 1 ≤ c.length ∧ c.length ≤ 3 ∧ zDK r a b = (c.length : Int) - 1 := by
  by_cases hp : b4 r a b = 0
  · have h2 := h
    rw [zES hp] at h2
    cases hc : M9 r a b with
    | none =>
      have : R8 (zNG a) r (zNG b) = none := hc
      rw [this] at h2; cases h2
    | some c =>
      have hv : zEV r a b = c := by unfold zEV; rw [if_pos hp, hc]; rfl
      obtain ⟨n, h1, h3, _⟩ := chainOf_some hc
      refine ⟨c, by rw [R9, if_pos hp, hc], hv, by omega, by omega, ?_⟩
      unfold zDK; rw [if_pos h, hv]
  · unfold e8 at h; rw [if_neg hp] at h; exact absurd h hp
theorem sp_Uses (r : List Rule) (a b : Str) (hl : r.length ≤ 4294967296) (hr : ∀ x, x ∈ r → x.src.length ≤ 4294967296 ∧ x.dst.length ≤ 4294967296) :
    zNF prog 49 [w8 r, sV a, sV b] [] (.tup [iV (zDK r a b), iV (e8 r a b)]) [] := by
  have sC := zHn r a b hl hr
  clear hl hr
  by_cases q : e8 r a b = 0
  · obtain ⟨c, h1, _, h2, h3, h4⟩ := chainO_zero q
    rw [h4, q]
    rw [h1, q] at sC
    have hw : IntKind.i64.wrap ((c.length : Int) - 1) = (c.length : Int) - 1 := wrap_i64 (by omega) (by omega)
    clear q h1 h4
    refine q9 func49 rfl (fun E hE => ?_); simp only [go_sem, ntmps49]
    repeat' (first | (refine Qr rfl ?_; try intro _ hK; try simp only [go_sem, *]) | refine Qh rfl ?_ | (refine Qc rfl rfl ?_ ?_ <;> (intro hb; have hc := hb; try simp only [go_sem] at hc)) | refine q8 rfl ?_ | (refine y5 (sC) ?_; simp only [go_sem, *]) | ((with_reducible apply And.intro); focus omega) | (refine q7 hK ?_; clear hK; simp only [go_sem, *]) | simp only [q6, z8, go_sem, *])
    all_goals try contradiction
    (refine ⟨[_, _], [], [], ⟨rfl, rfl, trivial⟩, ?_⟩; simp only [go_sem, *])
  · have e : zDK r a b = 0 := by unfold zDK; rw [if_neg q]
    rw [e]
    clear e
    generalize R9 r a b = o at *
    generalize e8 r a b = e at *
    refine q9 func49 rfl (fun E hE => ?_); simp only [go_sem, ntmps49]
    repeat' (first | (refine Qr rfl ?_; try intro _ hK; try simp only [go_sem, *]) | refine Qh rfl ?_ | (refine Qc rfl rfl ?_ ?_ <;> (intro hb; have hc := hb; try simp only [go_sem] at hc)) | refine q8 rfl ?_ | (refine y5 (sC) ?_; simp only [go_sem, *]) | ((with_reducible apply And.intro); focus omega) | (refine q7 hK ?_; clear hK; simp only [go_sem, *]) | simp only [q6, z8, go_sem, *])
    all_goals try contradiction
    (refine ⟨[_, _], [], [], ⟨rfl, rfl, trivial⟩, ?_⟩; simp only [go_sem, *])
theorem sp_Verdict (r : List Rule) (a b : Str) (hl : r.length ≤ 4294967296) (hr : ∀ x, x ∈ r → x.src.length ≤ 4294967296 ∧ x.dst.length ≤ 4294967296) :
    zNF prog 39 [w8 r, sV a, sV b] [] (.tup [iV (zNA r a b), iV (zM9 r a b)]) [] := by
  have sU := sp_Uses r a b hl hr
  clear hl hr
  unfold zNA zM9
  generalize zDK r a b = n at *
  generalize e8 r a b = e at *
  refine q9 func39 rfl (fun E hE => ?_); simp only [go_sem, ntmps39]
  repeat' (first | (refine Qr rfl ?_; try intro _ hK; try simp only [go_sem, *]) | refine Qh rfl ?_ | (refine Qc rfl rfl ?_ ?_ <;> (intro hb; have hc := hb; try simp only [go_sem] at hc)) | refine q8 rfl ?_ | (refine y5 (sU) ?_; simp only [go_sem, *]) | ((with_reducible apply And.intro); focus omega) | (refine q7 hK ?_; clear hK; simp only [go_sem, *]) | simp only [q6, z8, go_sem, *])
  all_goals (refine ⟨[_, _], [], [], ⟨rfl, rfl, trivial⟩, ?_⟩; simp only [go_sem, *])
  all_goals simp_all
theorem nearAll_zero (r : List Rule) (s : Str) (l : List Str) : zLl r s l 0 = zLn r s l := by
  have e : List.range' 0 (3 - 0) = [0, 1, 2] := rfl
  unfold zLl zLn
  rw [e]
  simp
theorem nearAll_step {r : List Rule} {s : Str} {l : List Str} {m : Nat} (h : m < 3) : zLl r s l m = G7 r s l m 0 ++ zLl r s l (m + 1) := by
  unfold zLl
  rw [show 3 - m = (3 - (m + 1)) + 1 by omega, List.range'_succ, List.flatMap_cons]
theorem nearFrom_step {r : List Rule} {s : Str} {l : List Str} {n : Int} {i : Nat} (h : i < l.length) : G7 r s l n i = (if e8 r s (l.getD i default) = 0 ∧ zDK r s (l.getD i default) = n then [(i : Int)] else []) ++ G7 r s l n (i + 1) := by
  unfold G7
  rw [show l.length - i = (l.length - (i + 1)) + 1 by omega, List.range'_succ, List.flatMap_cons]
  rfl
theorem nearFrom_end {r : List Rule} {s : Str} {l : List Str} {n : Int} {i : Nat} (h : l.length ≤ i) : G7 r s l n i = [] := by
  unfold G7
  rw [show l.length - i = 0 by omega]; rfl
theorem sp_Near_ok (r : List Rule) (s : Str) (l : List Str) (q : zLm r s l = 0) :
    zNF prog 47 [w8 r, sV s, y7 l] [] (.tup [.own 0 1 0 (zLn r s l).length, iV 0]) [.row 1 ((zLn r s l).map iV)] := by
  obtain ⟨q1, q2, q3⟩ : j7 r = 0 ∧ x4 s = 0 ∧ u9 l = 0 := by
    unfold zLm at q
    by_cases a : j7 r = 0
    · rw [if_pos a] at q
      by_cases b : x4 s = 0
      · rw [if_pos b] at q; exact ⟨a, b, q⟩
      · rw [if_neg b] at q; exact absurd q b
    · rw [if_neg a] at q; exact absurd q a
  obtain ⟨h4, h5⟩ := zHH q1
  have h6 := G4 q3
  have s1 := zIh r (by omega) (fun x hx => by have := h5 x hx; omega)
  have s2 := zAT s
  have s3 := E6 l (by omega)
  have s4 := fun i => sp_Uses r s (l.getD i default) (by omega) (fun x hx => by have := h5 x hx; omega)
  rw [q1] at s1
  rw [q2] at s2
  rw [q3] at s3
  have h0 : [] ++ zLl r s l 0 = zLn r s l := nearAll_zero r s l
  generalize zLn r s l = T at *
  clear q q1 q2 q3 h4 h5
  refine q9 func47 rfl (fun E hE => ?_); simp only [go_sem, ntmps47]
  repeat' (first | (refine Qr rfl ?_; try intro _ hK; try simp only [go_sem, *]) | (refine Qi rfl rfl rfl rfl ?_ ?_ <;> (intro hb; (try intro _ hK); have hc := hb; try simp only [go_sem] at hc; simp only [go_sem, *])) | refine Qh rfl ?_ | (refine Qc rfl rfl ?_ ?_ <;> (intro hb; have hc := hb; try simp only [go_sem] at hc)) | refine q8 rfl ?_ | ((first | refine y5 (s1) ?_ | refine y5 (s2) ?_ | refine y5 (s3) ?_); simp only [go_sem, *]) | ((with_reducible apply And.intro); focus omega) | (refine q7 hK ?_; clear hK; simp only [go_sem, *]) | simp only [q6, z8, go_sem, *])
  all_goals try contradiction
  refine c7 rfl (3) (fun m (xs : List Int) => xs ++ zLl r s l m = T ∧ xs.length ≤ 6 * m) 63 (fun m xs => [(32, iV m), (11, .own 0 1 0 xs.length), (0, w8 r), (1, sV s), (2, y7 l)]) (fun m xs => [.row 1 (xs.map iV)]) [none] [] ([]) (by exact ⟨h0, by simp⟩) ?_; intro m xs hm hP
  clear h0 s1 s2 s3
  obtain ⟨hP, hx⟩ := hP
  have hw : IntKind.i64.wrap ((m : Int) + 1) = ((m + 1 : Nat) : Int) := t6 (by omega)
  by_cases hm2 : m < 3
  · rw [nearAll_step hm2] at hP
    have hm3 : (m : Int) < 3 := by omega
    repeat' (first | (refine Qr rfl ?_; try intro _ hK; try simp only [go_sem, *]) | (refine Qi rfl rfl rfl rfl ?_ ?_ <;> (intro hb; (try intro _ hK); have hc := hb; try simp only [go_sem] at hc; simp only [go_sem, *])) | refine Qh rfl ?_ | (refine Qc rfl rfl ?_ ?_ <;> (intro hb; have hc := hb; try simp only [go_sem] at hc)) | refine q8 rfl ?_ | ((with_reducible apply And.intro); focus omega) | (refine q7 hK ?_; clear hK; simp only [go_sem, *]) | simp only [q6, z8, go_sem, *])
    all_goals try contradiction
    refine c7 rfl (l.length) (fun i (ys : List Int) => ys ++ (G7 r s l m i ++ zLl r s l (m + 1)) = T ∧ ys.length ≤ 6 * m + i) 63 (fun i ys => [(37, iV i), (36, iV l.length), (35, y7 l), (12, iV m), (32, iV m), (11, .own 0 1 0 ys.length), (0, w8 r), (1, sV s), (2, y7 l)]) (fun i ys => [.row 1 (ys.map iV)]) [some 0] [] (xs) (by exact ⟨hP, by omega⟩) ?_; intro i ys hi hQ
    clear hP hx
    obtain ⟨hQ, hy⟩ := hQ
    by_cases hi2 : i < l.length
    · rw [nearFrom_step hi2] at hQ
      have s5 := s4 i
      generalize zDK r s (l.getD i default) = u at *
      generalize e8 r s (l.getD i default) = e at *
      have hwi : IntKind.i64.wrap ((i : Int) + 1) = ((i + 1 : Nat) : Int) := t6 (by omega)
      clear s4
      by_cases qe : e = 0
      · by_cases qu : u = (m : Int)
        · rw [if_pos ⟨qe, qu⟩] at hQ
          have hQ : (ys ++ [(i : Int)]) ++ (G7 r s l m (i + 1) ++ zLl r s l (m + 1)) = T := by rw [← hQ]; simp
          subst qe qu
          repeat' (first | (refine Qr rfl ?_; try intro _ hK; try simp only [go_sem, *]) | (refine Qi rfl rfl rfl rfl ?_ ?_ <;> (intro hb; (try intro _ hK); have hc := hb; try simp only [go_sem] at hc; simp only [go_sem, *])) | refine Qh rfl ?_ | (refine Qc rfl rfl ?_ ?_ <;> (intro hb; have hc := hb; try simp only [go_sem] at hc)) | refine q8 rfl ?_ | (refine y5 (s5) ?_; simp only [go_sem, *]) | ((with_reducible apply And.intro); focus omega) | (refine q7 hK ?_; clear hK; simp only [go_sem, *]) | simp only [q6, z8, go_sem, *])
          all_goals first | contradiction | omega | skip
          exact p5 (i' := i + 1) [some 2] [] (ys ++ [(i : Int)]) (by exact ⟨hQ, by simp; omega⟩)
        · rw [if_neg (fun h => qu h.2)] at hQ
          have hQ : ys ++ (G7 r s l m (i + 1) ++ zLl r s l (m + 1)) = T := hQ
          subst qe
          repeat' (first | (refine Qr rfl ?_; try intro _ hK; try simp only [go_sem, *]) | (refine Qi rfl rfl rfl rfl ?_ ?_ <;> (intro hb; (try intro _ hK); have hc := hb; try simp only [go_sem] at hc; simp only [go_sem, *])) | refine Qh rfl ?_ | (refine Qc rfl rfl ?_ ?_ <;> (intro hb; have hc := hb; try simp only [go_sem] at hc)) | refine q8 rfl ?_ | (refine y5 (s5) ?_; simp only [go_sem, *]) | ((with_reducible apply And.intro); focus omega) | (refine q7 hK ?_; clear hK; simp only [go_sem, *]) | simp only [q6, z8, go_sem, *])
          all_goals first | contradiction | omega | skip
          exact p5 (i' := i + 1) [some 0] [] (ys) (by exact ⟨hQ, by omega⟩)
      · rw [if_neg (fun h => qe h.1)] at hQ
        have hQ : ys ++ (G7 r s l m (i + 1) ++ zLl r s l (m + 1)) = T := hQ
        repeat' (first | (refine Qr rfl ?_; try intro _ hK; try simp only [go_sem, *]) | (refine Qi rfl rfl rfl rfl ?_ ?_ <;> (intro hb; (try intro _ hK); have hc := hb; try simp only [go_sem] at hc; simp only [go_sem, *])) | refine Qh rfl ?_ | (refine Qc rfl rfl ?_ ?_ <;> (intro hb; have hc := hb; try simp only [go_sem] at hc)) | refine q8 rfl ?_ | (refine y5 (s5) ?_; simp only [go_sem, *]) | ((with_reducible apply And.intro); focus omega) | (refine q7 hK ?_; clear hK; simp only [go_sem, *]) | simp only [q6, z8, go_sem, *])
        all_goals first | contradiction | omega | skip
        exact p5 (i' := i + 1) [some 0] [] (ys) (by exact ⟨hQ, by omega⟩)
    · rw [nearFrom_end (by omega)] at hQ
      have hQ : ys ++ zLl r s l (m + 1) = T := hQ
      clear s4
      repeat' (first | (refine Qr rfl ?_; try intro _ hK; try simp only [go_sem, *]) | (refine Qi rfl rfl rfl rfl ?_ ?_ <;> (intro hb; (try intro _ hK); have hc := hb; try simp only [go_sem] at hc; simp only [go_sem, *])) | refine Qh rfl ?_ | (refine Qc rfl rfl ?_ ?_ <;> (intro hb; have hc := hb; try simp only [go_sem] at hc)) | refine q8 rfl ?_ | ((with_reducible apply And.intro); focus omega) | (refine q7 hK ?_; clear hK; simp only [go_sem, *]) | simp only [q6, z8, go_sem, *])
      all_goals first | contradiction | omega | skip
      exact p5 (i' := m + 1) [some 0] [] (ys) (by exact ⟨hQ, by omega⟩)
  · have e : zLl r s l m = [] := by
      unfold zLl
      rw [show 3 - m = 0 by omega]; rfl
    rw [e, List.append_nil] at hP
    subst hP
    have hm3 : ¬ (m : Int) < 3 := by omega
    clear s4
    repeat' (first | (refine Qr rfl ?_; try intro _ hK; try simp only [go_sem, *]) | (refine Qi rfl rfl rfl rfl ?_ ?_ <;> (intro hb; (try intro _ hK); have hc := hb; try simp only [go_sem] at hc; simp only [go_sem, *])) | refine Qh rfl ?_ | (refine Qc rfl rfl ?_ ?_ <;> (intro hb; have hc := hb; try simp only [go_sem] at hc)) | refine q8 rfl ?_ | ((with_reducible apply And.intro); focus omega) | (refine q7 hK ?_; clear hK; simp only [go_sem, *]) | simp only [q6, z8, go_sem, *])
    all_goals first | contradiction | omega | skip
    refine ⟨[_, _], [some 0], [], ⟨rfl, rfl, trivial⟩, ?_⟩
    simp only [go_sem, *]
theorem otherFrom_zero : zL5 0 = otherL := by decide
theorem otherFrom_step {t : Nat} (h : t < 26) : zL5 t = if v7 (UInt8.ofNat (65 + t)) = true then UInt8.ofNat (65 + t) :: zL5 (t + 1) else zL5 (t + 1) := by
  unfold zL5
  rw [show 26 - t = (26 - (t + 1)) + 1 by omega, List.range'_succ, List.map_cons, List.filter_cons]
  rfl
theorem wrap_i32s : ∀ t, t < 27 → IntKind.i32.wrap (((65 + t : Nat) : Int) + 1) = ((65 + (t + 1) : Nat) : Int) := by decide
theorem kind_two : ∀ n, n < 128 → ((w9 (UInt8.ofNat n) = 2) ↔ v7 (UInt8.ofNat n) = true) := by decide
theorem sp_foreign : ∀ (n : Nat) (k : Str), k.length ≤ n → k.length ≤ 1000 → zNF prog 90 [sV k] [] (.tup [sV ((zBa n k).getD []), bV (zBa n k).isSome]) []
  | n, [], _, _ => by
    have e : zBa n [] = some [] := by cases n <;> rfl
    rw [e]
    refine q9 func90 rfl (fun E hE => ?_); simp only [go_sem, ntmps90]
    repeat' (first | (refine Qr rfl ?_; try intro _ hK; try simp only [go_sem, *]) | (refine Qi rfl rfl rfl rfl ?_ ?_ <;> (intro hb; (try intro _ hK); have hc := hb; try simp only [go_sem] at hc; simp only [go_sem, *])) | refine Qh rfl ?_ | (refine Qc rfl rfl ?_ ?_ <;> (intro hb; have hc := hb; try simp only [go_sem] at hc)) | refine q8 rfl ?_ | ((with_reducible apply And.intro); focus omega) | (refine q7 hK ?_; clear hK; simp only [go_sem, *]) | simp only [q6, z8, go_sem, *])
    all_goals try contradiction
    (refine ⟨[_, _], [], [], ⟨rfl, rfl, trivial⟩, ?_⟩; simp only [go_sem, *])
  | 0, a :: r, h, _ => by simp at h
  | n + 1, a :: r, h, hk => by
    have IH := sp_foreign n
    have h0 : o6 (fun c => if (w6 c).isPrefixOf (a :: r) = true then (zBa n ((a :: r).drop (w6 c).length)).map (c :: ·) else none) (zL5 0) = zBa (n + 1) (a :: r) := by rw [otherFrom_zero]; rfl
    have hne : (a :: r == []) = false := rfl
    generalize hkk : a :: r = k at *
    have hk0 : 0 < k.length := by rw [← hkk]; simp
    have hnz : ¬ k = [] := fun e => by rw [e] at hk0; simp at hk0
    clear hkk
    generalize zBa (n + 1) k = T at *
    refine q9 func90 rfl (fun E hE => ?_); simp only [go_sem, ntmps90]
    repeat' (first | (refine Qr rfl ?_; try intro _ hK; try simp only [go_sem, *]) | (refine Qi rfl rfl rfl rfl ?_ ?_ <;> (intro hb; (try intro _ hK); have hc := hb; try simp only [go_sem] at hc; simp only [go_sem, *])) | refine Qh rfl ?_ | (refine Qc rfl rfl ?_ ?_ <;> (intro hb; have hc := hb; try simp only [go_sem] at hc)) | refine q8 rfl ?_ | ((with_reducible apply And.intro); focus omega) | (refine q7 hK ?_; clear hK; simp only [go_sem, *]) | simp only [q6, z8, go_sem, *])
    all_goals try contradiction
    refine n0 rfl (26) (fun t => o6 (fun c => if (w6 c).isPrefixOf k = true then (zBa n (k.drop (w6 c).length)).map (c :: ·) else none) (zL5 t) = T) 37 (fun t => [(4, .raw (.int .i32 ((65 + t : Nat) : Int))), (0, sV k)]) (fun t => []) [] [] (by exact h0) ?_; intro t ht hP
    clear h0
    by_cases ht : t < 26
    · have hw := wrap_i32s t (by omega)
      have hc1 : ((65 + t : Nat) : Int) ≤ 90 := by omega
      rw [otherFrom_step ht] at hP
      obtain ⟨c, hc⟩ : ∃ c, UInt8.ofNat (65 + t) = c := ⟨_, rfl⟩
      have hcn : c.toNat = 65 + t := by rw [← hc, UInt8.toNat_ofNat']; omega
      have hk2 := kind_two (65 + t) (by omega)
      rw [hc] at hP hk2
      have skd := zAX ((65 + t : Nat) : Int)
      have ekd : Q8 ((65 + t : Nat) : Int) = w9 c := by rw [← hcn]; exact A4 c
      rw [ekd] at skd
      have ss := zIl c (by omega)
      rw [hcn] at ss
      clear ekd hc
      by_cases q : v7 c = true
      · rw [if_pos q, o6] at hP
        rw [hk2.2 q] at skd
        have hsl := E3 c
        have sh := zH0 k (w6 c) (by omega) (by omega)
        by_cases q2 : (w6 c).isPrefixOf k = true
        · rw [if_pos q2] at hP
          rw [q2] at sh
          have hpl := zCa q2
          have sI := IH (k.drop (w6 c).length) (by simp; omega) (by simp; omega)
          have ee : Utf8.encode ((65 + t : Nat) : Int) = ⟨[c].toArray⟩ := by
            have := zBH (n := ((65 + t : Nat) : Int)) (by omega) (by omega)
            rw [Int.toNat_natCast, ← hcn, UInt8.ofNat_toNat] at this
            rw [← hcn]; exact this
          generalize w6 c = sb at *
          cases hF : zBa n (k.drop sb.length) with
          | none =>
            rw [hF] at hP sI
            have hP2 : o6 (fun c => if (w6 c).isPrefixOf k = true then (zBa n (k.drop (w6 c).length)).map (c :: ·) else none) (zL5 (t + 1)) = T := hP
            have sI2 : zNF prog 90 [sV (k.drop sb.length)] [] (.tup [sV [], bV false]) [] := sI
            clear hP sI hF IH hk2 q2 ee
            repeat' (first | (refine Qr rfl ?_; try intro _ hK; try simp only [go_sem, *]) | (refine Qi rfl rfl rfl rfl ?_ ?_ <;> (intro hb; (try intro _ hK); have hc := hb; try simp only [go_sem] at hc; simp only [go_sem, *])) | refine Qh rfl ?_ | (refine Qc rfl rfl ?_ ?_ <;> (intro hb; have hc := hb; try simp only [go_sem] at hc)) | refine q8 rfl ?_ | (refine x5 (skd) ?_ ?_; (focus (simp only [go_sem, *]; done)); simp only [go_sem, *]) | (refine x5 (ss) ?_ ?_; (focus (simp only [go_sem, *]; done)); simp only [go_sem, *]) | (refine x5 (sh) ?_ ?_; (focus (simp only [go_sem, *]; done)); simp only [go_sem, *]) | (refine x5 (sI2) ?_ ?_; (focus (simp only [go_sem, *]; done)); simp only [go_sem, *]) | ((with_reducible apply And.intro); focus omega) | (refine q7 hK ?_; clear hK; simp only [go_sem, *]) | simp only [q6, z8, go_sem, *])
            all_goals try contradiction
            exact d7 (i' := t + 1) [] [] (by exact hP2)
          | some y =>
            rw [hF] at hP sI
            have hP2 : some (c :: y) = T := hP
            subst hP2
            have hy := foreignF_sound _ _ _ hF
            have hyl := (A3 y).1
            rw [hy.2] at hyl
            have hyl : y.length ≤ 1000 := by simp at hyl; omega
            have sI2 : zNF prog 90 [sV (k.drop sb.length)] [] (.tup [sV y, bV true]) [] := sI
            clear hy
            clear hP sI hF IH hk2 q2
            repeat' (first | (refine Qr rfl ?_; try intro _ hK; try simp only [go_sem, *]) | (refine Qi rfl rfl rfl rfl ?_ ?_ <;> (intro hb; (try intro _ hK); have hc := hb; try simp only [go_sem] at hc; simp only [go_sem, *])) | refine Qh rfl ?_ | (refine Qc rfl rfl ?_ ?_ <;> (intro hb; have hc := hb; try simp only [go_sem] at hc)) | refine q8 rfl ?_ | (refine x5 (skd) ?_ ?_; (focus (simp only [go_sem, *]; done)); simp only [go_sem, *]) | (refine x5 (ss) ?_ ?_; (focus (simp only [go_sem, *]; done)); simp only [go_sem, *]) | (refine x5 (sh) ?_ ?_; (focus (simp only [go_sem, *]; done)); simp only [go_sem, *]) | (refine x5 (sI2) ?_ ?_; (focus (simp only [go_sem, *]; done)); simp only [go_sem, *]) | ((with_reducible apply And.intro); focus omega) | (refine q7 hK ?_; clear hK; simp only [go_sem, *]) | simp only [q6, z8, go_sem, *])
            all_goals ((try clear ee); first | contradiction | skip)
            (refine ⟨[_, _], [], [], ⟨rfl, rfl, trivial⟩, ?_⟩; simp only [go_sem, *])
        · rw [if_neg q2] at hP
          rw [(Bool.not_eq_true _).mp q2] at sh
          have hP2 : o6 (fun c => if (w6 c).isPrefixOf k = true then (zBa n (k.drop (w6 c).length)).map (c :: ·) else none) (zL5 (t + 1)) = T := hP
          clear hP IH hk2 q2
          generalize w6 c = sb at *
          repeat' (first | (refine Qr rfl ?_; try intro _ hK; try simp only [go_sem, *]) | (refine Qi rfl rfl rfl rfl ?_ ?_ <;> (intro hb; (try intro _ hK); have hc := hb; try simp only [go_sem] at hc; simp only [go_sem, *])) | refine Qh rfl ?_ | (refine Qc rfl rfl ?_ ?_ <;> (intro hb; have hc := hb; try simp only [go_sem] at hc)) | refine q8 rfl ?_ | (refine x5 (skd) ?_ ?_; (focus (simp only [go_sem, *]; done)); simp only [go_sem, *]) | (refine x5 (ss) ?_ ?_; (focus (simp only [go_sem, *]; done)); simp only [go_sem, *]) | (refine x5 (sh) ?_ ?_; (focus (simp only [go_sem, *]; done)); simp only [go_sem, *]) | ((with_reducible apply And.intro); focus omega) | (refine q7 hK ?_; clear hK; simp only [go_sem, *]) | simp only [q6, z8, go_sem, *])
          all_goals try contradiction
          exact d7 (i' := t + 1) [] [] (by exact hP2)
      · rw [if_neg q] at hP
        have hk3 : (w9 c != 2) = true := by simpa using fun e => q (hk2.1 e)
        clear hk2 IH q
        generalize w9 c = kb at *
        repeat' (first | (refine Qr rfl ?_; try intro _ hK; try simp only [go_sem, *]) | (refine Qi rfl rfl rfl rfl ?_ ?_ <;> (intro hb; (try intro _ hK); have hc := hb; try simp only [go_sem] at hc; simp only [go_sem, *])) | refine Qh rfl ?_ | (refine Qc rfl rfl ?_ ?_ <;> (intro hb; have hc := hb; try simp only [go_sem] at hc)) | refine q8 rfl ?_ | (refine x5 (skd) ?_ ?_; (focus (simp only [go_sem, *]; done)); simp only [go_sem, *]) | (refine x5 (ss) ?_ ?_; (focus (simp only [go_sem, *]; done)); simp only [go_sem, *]) | ((with_reducible apply And.intro); focus omega) | (refine q7 hK ?_; clear hK; simp only [go_sem, *]) | simp only [q6, z8, go_sem, *])
        all_goals try contradiction
        exact d7 (i' := t + 1) [] [] (by exact hP)
    · have e : zL5 t = [] := by
        unfold zL5
        rw [show 26 - t = 0 by omega]; rfl
      rw [e] at hP
      have hP2 : none = T := hP
      subst hP2
      have hc1 : ¬ ((65 + t : Nat) : Int) ≤ 90 := by omega
      clear hP e IH
      repeat' (first | (refine Qr rfl ?_; try intro _ hK; try simp only [go_sem, *]) | (refine Qi rfl rfl rfl rfl ?_ ?_ <;> (intro hb; (try intro _ hK); have hc := hb; try simp only [go_sem] at hc; simp only [go_sem, *])) | refine Qh rfl ?_ | (refine Qc rfl rfl ?_ ?_ <;> (intro hb; have hc := hb; try simp only [go_sem] at hc)) | refine q8 rfl ?_ | ((with_reducible apply And.intro); focus omega) | (refine q7 hK ?_; clear hK; simp only [go_sem, *]) | simp only [q6, z8, go_sem, *])
      all_goals try contradiction
      (refine ⟨[_, _], [], [], ⟨rfl, rfl, trivial⟩, ?_⟩; simp only [go_sem, *])
      all_goals rfl
theorem sp_Other (s : Str) : zNF prog 42 [sV s] [] (.tup [sV (zL6 s), iV (zL4 s)]) [] := by
  have s1 := zAT s
  unfold zL6 zL4
  by_cases q : x4 s = 0
  · have v := checkN_zero.1 q
    have hkl := (A3 s).2
    have hl6 := v.len
    have s2 := X8 s v.form (by omega)
    have s3 := sp_foreign (zNG s).length (zNG s) (Nat.le_refl _) (by omega)
    rw [if_pos q, if_pos q]
    rw [q] at s1
    have e : zBb (zNG s) = zBa (zNG s).length (zNG s) := rfl
    rw [e]
    generalize zBa (zNG s).length (zNG s) = o at *
    generalize zNG s = k at *
    clear q v e hkl
    cases o with
    | none =>
      have s3 : zNF prog 90 [sV k] [] (.tup [sV [], bV false]) [] := s3
      rw [show (none : Option Str).isSome = false from rfl, if_neg (by decide), show (none : Option Str).getD [] = [] from rfl]
      refine q9 func42 rfl (fun E hE => ?_); simp only [go_sem, ntmps42]
      repeat' (first | (refine Qr rfl ?_; try intro _ hK; try simp only [go_sem, *]) | refine Qh rfl ?_ | (refine Qc rfl rfl ?_ ?_ <;> (intro hb; have hc := hb; try simp only [go_sem] at hc)) | refine q8 rfl ?_ | ((first | refine y5 (s1) ?_ | refine y5 (s2) ?_ | refine y5 (s3) ?_); simp only [go_sem, *]) | ((with_reducible apply And.intro); focus omega) | (refine q7 hK ?_; clear hK; simp only [go_sem, *]) | simp only [q6, z8, go_sem, *])
      all_goals try contradiction
      (refine ⟨[_, _], [], [], ⟨rfl, rfl, trivial⟩, ?_⟩; simp only [go_sem, *])
    | some y =>
      have s3 : zNF prog 90 [sV k] [] (.tup [sV y, bV true]) [] := s3
      rw [show (some y : Option Str).isSome = true from rfl, if_pos rfl, show (some y : Option Str).getD [] = y from rfl]
      refine q9 func42 rfl (fun E hE => ?_); simp only [go_sem, ntmps42]
      repeat' (first | (refine Qr rfl ?_; try intro _ hK; try simp only [go_sem, *]) | refine Qh rfl ?_ | (refine Qc rfl rfl ?_ ?_ <;> (intro hb; have hc := hb; try simp only [go_sem] at hc)) | refine q8 rfl ?_ | ((first | refine y5 (s1) ?_ | refine y5 (s2) ?_ | refine y5 (s3) ?_); simp only [go_sem, *]) | ((with_reducible apply And.intro); focus omega) | (refine q7 hK ?_; clear hK; simp only [go_sem, *]) | simp only [q6, z8, go_sem, *])
      all_goals try contradiction
      (refine ⟨[_, _], [], [], ⟨rfl, rfl, trivial⟩, ?_⟩; simp only [go_sem, *])
  · rw [if_neg q, if_neg q]
    generalize x4 s = e at *
    refine q9 func42 rfl (fun E hE => ?_); simp only [go_sem, ntmps42]
    repeat' (first | (refine Qr rfl ?_; try intro _ hK; try simp only [go_sem, *]) | refine Qh rfl ?_ | (refine Qc rfl rfl ?_ ?_ <;> (intro hb; have hc := hb; try simp only [go_sem] at hc)) | refine q8 rfl ?_ | (refine y5 (s1) ?_; simp only [go_sem, *]) | ((with_reducible apply And.intro); focus omega) | (refine q7 hK ?_; clear hK; simp only [go_sem, *]) | simp only [q6, z8, go_sem, *])
    all_goals try contradiction
    (refine ⟨[_, _], [], [], ⟨rfl, rfl, trivial⟩, ?_⟩; simp only [go_sem, *])
end Go.Abs
namespace Go.Abs
open Go Go.Proofs Tryz
attribute [local irreducible] y4 Hold y9
set_option maxRecDepth 10000
set_option maxHeartbeats 4000000

abbrev zPW (l : List Nat) : AV := .list (l.map nV)
theorem cmpNs_step {x y : List Nat} {i : Nat} (h1 : i < x.length) (h2 : i < y.length) : zBC (x.drop i) (y.drop i) = if zNV (x.getD i default) (y.getD i default) = 0 then zBC (x.drop (i + 1)) (y.drop (i + 1)) else zNV (x.getD i default) (y.getD i default) := by
 rw [j3 h1, j3 h2, zBC]
theorem cmpNs_out {x y : List Nat} {i : Nat} (h1 : i < x.length) (h2 : y.length ≤ i) : zBC (x.drop i) (y.drop i) = 1 := by
 rw [j3 h1, c0 h2, zBC]
theorem cmpNs_end {x y : List Nat} {i : Nat} (h1 : x.length ≤ i) : zBC (x.drop i) (y.drop i) = if i < y.length then -1 else 0 := by
 rw [c0 h1]
 by_cases h2 : i < y.length
 ·rw [j3 h2, zBC, if_pos h2]
 ·rw [c0 (by omega), zBC, if_neg h2]
theorem sp_CompareNs (x y : List Nat) (h1 : x.length ≤ 4294967296) (h2 : y.length ≤ 4294967296) : zNF prog 132 [zPW x, zPW y] [] (iV (zBC x y)) [] := by
 refine q9 func132 rfl (fun E hE => ?_); simp only [go_sem, ntmps132]
 repeat' (first | (refine Qr rfl ?_; try intro _ hK; try simp only [go_sem, *]) | refine Qh rfl ?_ | (refine Qc rfl rfl ?_ ?_ <;> (intro hb; have hc := hb; try simp only [go_sem] at hc)) | refine q8 rfl ?_ | ((with_reducible apply And.intro); focus omega) | (refine q7 hK ?_; clear hK; simp only [go_sem, *]) | simp only [q6, z8, go_sem, *])
 refine n0 rfl (x.length) (fun i => zBC (x.drop i) (y.drop i) = zBC x y ∧ i ≤ y.length) 36 (fun i => [(11, iV i), (10, iV x.length), (9, zPW x), (0, zPW x), (1, zPW y)]) (fun i => []) [] [] (by simp) ?_; intro i hi hP
 obtain ⟨hP, hiy⟩ := hP
 by_cases hi2 : i < x.length
 ·by_cases hi3 : i < y.length
  ·have hs := cmpNs_step hi2 hi3
   have sc := zHo (x.getD i default) (y.getD i default)
   rw [hs] at hP
   clear hs
   have gi : ¬ ((i : Int) ≥ (y.length : Int)) := by omega
   by_cases q : zNV (x.getD i default) (y.getD i default) = 0
   ·rw [if_pos q] at hP
    rw [q] at sc
    repeat' (first | (refine Qr rfl ?_; try intro _ hK; try simp only [go_sem, *]) | refine Qh rfl ?_ | (refine Qc rfl rfl ?_ ?_ <;> (intro hb; have hc := hb; try simp only [go_sem] at hc)) | refine q8 rfl ?_ | (refine y5 (sc) ?_; simp only [go_sem, *]) | ((with_reducible apply And.intro); focus omega) | (refine q7 hK ?_; clear hK; simp only [go_sem, *]) | simp only [q6, z8, go_sem, *])
    all_goals first | contradiction | omega | skip
    exact d7 (i' := i + 1) [] [] (by exact ⟨hP, by omega⟩)
   ·rw [if_neg q] at hP
    generalize zNV (x.getD i default) (y.getD i default) = c at *
    rw [← hP]
    clear hP
    repeat' (first | (refine Qr rfl ?_; try intro _ hK; try simp only [go_sem, *]) | refine Qh rfl ?_ | (refine Qc rfl rfl ?_ ?_ <;> (intro hb; have hc := hb; try simp only [go_sem] at hc)) | refine q8 rfl ?_ | (refine y5 (sc) ?_; simp only [go_sem, *]) | ((with_reducible apply And.intro); focus omega) | (refine q7 hK ?_; clear hK; simp only [go_sem, *]) | simp only [q6, z8, go_sem, *])
    all_goals first | contradiction | omega | skip
    (refine ⟨[_], [], [], ⟨rfl, trivial⟩, ?_⟩; simp only [go_sem, *])
  ·rw [cmpNs_out hi2 (by omega)] at hP
   rw [← hP]
   clear hP
   repeat' (first | (refine Qr rfl ?_; try intro _ hK; try simp only [go_sem, *]) | refine Qh rfl ?_ | (refine Qc rfl rfl ?_ ?_ <;> (intro hb; have hc := hb; try simp only [go_sem] at hc)) | refine q8 rfl ?_ | ((with_reducible apply And.intro); focus omega) | (refine q7 hK ?_; clear hK; simp only [go_sem, *]) | simp only [q6, z8, go_sem, *])
   all_goals first | contradiction | omega | skip
   (refine ⟨[_], [], [], ⟨rfl, trivial⟩, ?_⟩; simp only [go_sem, *])
 ·have hix : i = x.length := by omega
  subst hix
  rw [cmpNs_end (Nat.le_refl _)] at hP
  by_cases hxy : x.length < y.length
  ·rw [if_pos hxy] at hP
   rw [← hP]
   clear hP
   repeat' (first | (refine Qr rfl ?_; try intro _ hK; try simp only [go_sem, *]) | refine Qh rfl ?_ | (refine Qc rfl rfl ?_ ?_ <;> (intro hb; have hc := hb; try simp only [go_sem] at hc)) | refine q8 rfl ?_ | ((with_reducible apply And.intro); focus omega) | (refine q7 hK ?_; clear hK; simp only [go_sem, *]) | simp only [q6, z8, go_sem, *])
   all_goals first | contradiction | omega | skip
   (refine ⟨[_], [], [], ⟨rfl, trivial⟩, ?_⟩; simp only [go_sem, *])
  ·rw [if_neg hxy] at hP
   rw [← hP]
   clear hP
   repeat' (first | (refine Qr rfl ?_; try intro _ hK; try simp only [go_sem, *]) | refine Qh rfl ?_ | (refine Qc rfl rfl ?_ ?_ <;> (intro hb; have hc := hb; try simp only [go_sem] at hc)) | refine q8 rfl ?_ | ((with_reducible apply And.intro); focus omega) | (refine q7 hK ?_; clear hK; simp only [go_sem, *]) | simp only [q6, z8, go_sem, *])
   all_goals first | contradiction | omega | skip
   (refine ⟨[_], [], [], ⟨rfl, trivial⟩, ?_⟩; simp only [go_sem, *])
theorem sp_shorter (a b : List Nat) (h1 : a.length ≤ 4294967296) (h2 : b.length ≤ 4294967296) : zNF prog 103 [zPW a, zPW b] [] (iV (zHb a b)) [] := by
 have s1 := zHo a.length b.length
 have s2 := sp_CompareNs a b h1 h2
 have so := zCv [zNV a.length b.length, zBC a b] (by simp)
 rw [zCV] at so
 unfold zHb
 generalize orI (zNV a.length b.length) (zBC a b) = r at *
 generalize zNV a.length b.length = c at *
 generalize zBC a b = d at *
 clear h1 h2
 refine q9 func103 rfl (fun E hE => ?_); simp only [go_sem, ntmps103]
 repeat' (first | (refine Qr rfl ?_; try intro _ hK; try simp only [go_sem, *]) | refine Qh rfl ?_ | (refine Qc rfl rfl ?_ ?_ <;> (intro hb; have hc := hb; try simp only [go_sem] at hc)) | refine q8 rfl ?_ | ((first | refine y5 (s1) ?_ | refine y5 (s2) ?_); simp only [go_sem, *]) | ((with_reducible apply And.intro); focus omega) | (refine q7 hK ?_; clear hK; simp only [go_sem, *]) | simp only [q6, z8, go_sem, *])
 (refine R7 [0] (so) (by simp only [go_sem, *]) (.raw _) ?_; simp only [go_sem, *])
 repeat' (first | (refine Qr rfl ?_; try intro _ hK; try simp only [go_sem, *]) | refine Qh rfl ?_ | (refine Qc rfl rfl ?_ ?_ <;> (intro hb; have hc := hb; try simp only [go_sem] at hc)) | refine q8 rfl ?_ | ((with_reducible apply And.intro); focus omega) | (refine q7 hK ?_; clear hK; simp only [go_sem, *]) | simp only [q6, z8, go_sem, *])
 (refine ⟨[_], [], [], ⟨rfl, trivial⟩, ?_⟩; simp only [go_sem, *])
noncomputable def zPF : Code := sub [0, 1, 0, 1, 1, 1] (W9 Tryz.f102)
noncomputable def zPX (fn : FuncId) : LoopK := ⟨fn, #[10], N2 zPF, N3 zPF, 23⟩
def zOo : Option (List Nat) → AV
 | none => .raw (.slice none 0 0)
 | some c => zPW c
@[go_sem] theorem zPv : zOo none = .raw (.slice none 0 0) := rfl
@[go_sem] theorem zPw (c : List Nat) : zOo (some c) = .list (c.map nV) := rfl
@[go_sem] theorem zPs (H : Nat → AObj) (m : List (Option Nat)) (ex : List Nat) (B : Option (List Nat)) : XpF H m ex (zOo B) (zOo B) ↔ True := by cases B <;> simp [zOo, XpF]
@[go_sem] theorem zP4 (f : Nat → Nat) (B : Option (List Nat)) : AV.ren f (zOo B) = zOo B := by cases B <;> simp [zOo, AV.ren]
@[go_sem] theorem zPx (B : Option (List Nat)) : (zOo B).cells = [zOo B] := by cases B <;> rfl
@[go_sem] theorem zP2 (B : Option (List Nat)) : (zOo B).one = true := by cases B <;> rfl
@[go_sem] theorem zPz (B : Option (List Nat)) : (zOo B).flat = true := by cases B <;> rfl
@[go_sem] theorem zP8 (B : Option (List Nat)) : (zOo B).sized = true := by cases B <;> rfl
abbrev zPj : AV := fnV 103
abbrev zP1 (c : List Nat) : Prop := c.length ≤ 1000
theorem ysp_firstI0 (fn : FuncId) (c : List Nat) : e7 prog [zPW c] [.loopo (zPX fn) [(3, .ptr 1 0), (6, .ptr 2 0), (7, .ptr 3 0)] (some none), .box [zPj], .box [.raw (.slice none 0 0)], .box [bV false]] (bV true)
  [.loopo (zPX fn) [(3, .ptr 1 0), (6, .ptr 2 0), (7, .ptr 3 0)] (some none), .box [zPj], .box [zPW c], .box [bV true]] := by
 refine S9 (L := zPX fn) (env := [(3, .ptr 1 0), (6, .ptr 2 0), (7, .ptr 3 0)]) (j := none) rfl rfl (fun E l hE => ?_)
 refine l5 rfl ?_
 simp only [zPX, d8, go_sem]
 repeat' (first | (refine Qr (ops := _ :: _) rfl ?_; try intro _ hK; try simp only [go_sem, *]) | (refine Qi rfl rfl rfl rfl ?_ ?_ <;> (intro hb; (try intro _ hK); have hc := hb; try simp only [go_sem] at hc; simp only [go_sem, *])) | (refine Qb ?_ ?_; focus kernel_rfl) | ((with_reducible apply And.intro); focus omega) | (refine q7 hK ?_; clear hK; simp only [go_sem, *]) | simp only [q6, z8, go_sem, *])
 refine r9 ?_
 refine ⟨by simp only [go_sem], ?_⟩
 refine T9 (id := 1) rfl ?_
 refine Q2 rfl ?_
 refine l5 rfl ?_
 simp only [go_sem]
 repeat' (first | (refine Qr (ops := _ :: _) rfl ?_; try intro _ hK; try simp only [go_sem, *]) | (refine Qi rfl rfl rfl rfl ?_ ?_ <;> (intro hb; (try intro _ hK); have hc := hb; try simp only [go_sem] at hc; simp only [go_sem, *])) | (refine Qb ?_ ?_; focus kernel_rfl) | ((with_reducible apply And.intro); focus omega) | (refine q7 hK ?_; clear hK; simp only [go_sem, *]) | simp only [q6, z8, go_sem, *])
 refine r9 ?_
 refine U0 (t := true) rfl (by simp only [go_sem]) (fun _ => ?_) (fun h => by cases h)
 refine l5 rfl ?_
 simp only [go_sem]
 repeat' (first | (refine Qr (ops := _ :: _) rfl ?_; try intro _ hK; try simp only [go_sem, *]) | (refine Qi rfl rfl rfl rfl ?_ ?_ <;> (intro hb; (try intro _ hK); have hc := hb; try simp only [go_sem] at hc; simp only [go_sem, *])) | (refine Qb ?_ ?_; focus kernel_rfl) | ((with_reducible apply And.intro); focus omega) | (refine q7 hK ?_; clear hK; simp only [go_sem, *]) | simp only [q6, z8, go_sem, *])
 refine r9 ?_
 simp only [z8, go_sem]
 refine ⟨rfl, [some 0, some 1, some 2, some 3], [], ?_⟩
 simp only [go_sem, *]
theorem ysp_firstI1 (fn : FuncId) (b c : List Nat) (hb1 : b.length ≤ 1000) (hc1 : c.length ≤ 1000) : e7 prog [zPW c] [.loopo (zPX fn) [(3, .ptr 1 0), (6, .ptr 2 0), (7, .ptr 3 0)] (some none), .box [zPj], .box [zPW b], .box [bV true]] (bV true)
  [.loopo (zPX fn) [(3, .ptr 1 0), (6, .ptr 2 0), (7, .ptr 3 0)] (some none), .box [zPj], .box [zPW (if zHb c b < 0 then c else b)], .box [bV true]] := by
 have hca : t7 prog 103 = true := by kernel_rfl
 have sc := sp_shorter c b (by omega) (by omega)
 refine S9 (L := zPX fn) (env := [(3, .ptr 1 0), (6, .ptr 2 0), (7, .ptr 3 0)]) (j := none) rfl rfl (fun E l hE => ?_)
 refine l5 rfl ?_
 simp only [zPX, d8, go_sem]
 repeat' (first | (refine Qr (ops := _ :: _) rfl ?_; try intro _ hK; try simp only [go_sem, *]) | (refine Qi rfl rfl rfl rfl ?_ ?_ <;> (intro hb; (try intro _ hK); have hc := hb; try simp only [go_sem] at hc; simp only [go_sem, *])) | (refine Qb ?_ ?_; focus kernel_rfl) | ((with_reducible apply And.intro); focus omega) | (refine q7 hK ?_; clear hK; simp only [go_sem, *]) | simp only [q6, z8, go_sem, *])
 refine r9 ?_
 refine ⟨by simp only [go_sem], ?_⟩
 refine T9 (id := 1) rfl ?_
 refine Q2 rfl ?_
 refine l5 rfl ?_
 simp only [go_sem]
 repeat' (first | (refine Qr (ops := _ :: _) rfl ?_; try intro _ hK; try simp only [go_sem, *]) | (refine Qi rfl rfl rfl rfl ?_ ?_ <;> (intro hb; (try intro _ hK); have hc := hb; try simp only [go_sem] at hc; simp only [go_sem, *])) | (refine Qb ?_ ?_; focus kernel_rfl) | ((with_reducible apply And.intro); focus omega) | (refine q7 hK ?_; clear hK; simp only [go_sem, *]) | simp only [q6, z8, go_sem, *])
 refine y5 sc ?_
 simp only [go_sem]
 repeat' (first | (refine Qr (ops := _ :: _) rfl ?_; try intro _ hK; try simp only [go_sem, *]) | (refine Qi rfl rfl rfl rfl ?_ ?_ <;> (intro hb; (try intro _ hK); have hc := hb; try simp only [go_sem] at hc; simp only [go_sem, *])) | (refine Qb ?_ ?_; focus kernel_rfl) | ((with_reducible apply And.intro); focus omega) | (refine q7 hK ?_; clear hK; simp only [go_sem, *]) | simp only [q6, z8, go_sem, *])
 refine r9 ?_
 refine U0 (t := decide (zHb c b < 0)) rfl (by simp only [go_sem]) (fun h => ?_) (fun h => ?_)
 ·rw [if_pos (by simpa using h)]
  refine l5 rfl ?_
  simp only [go_sem]
  repeat' (first | (refine Qr (ops := _ :: _) rfl ?_; try intro _ hK; try simp only [go_sem, *]) | (refine Qi rfl rfl rfl rfl ?_ ?_ <;> (intro hb; (try intro _ hK); have hc := hb; try simp only [go_sem] at hc; simp only [go_sem, *])) | (refine Qb ?_ ?_; focus kernel_rfl) | ((with_reducible apply And.intro); focus omega) | (refine q7 hK ?_; clear hK; simp only [go_sem, *]) | simp only [q6, z8, go_sem, *])
  refine r9 ?_
  simp only [z8, go_sem]
  refine ⟨rfl, [some 0, some 1, some 2, some 3], [], ?_⟩
  simp only [go_sem, *]
 ·rw [if_neg (by simpa using h)]
  refine J4 rfl ?_
  simp only [z8, go_sem]
  refine ⟨rfl, [some 0, some 1, some 2, some 3], [], ?_⟩
  simp only [go_sem, *]
theorem ysp_firstI (fn : FuncId) (B : Option (List Nat)) (c : List Nat) (hb1 : ∀ b, B = some b → b.length ≤ 1000) (hc1 : c.length ≤ 1000) : e7 prog [zPW c] [.loopo (zPX fn) [(3, .ptr 1 0), (6, .ptr 2 0), (7, .ptr 3 0)] (some none), .box [zPj], .box [zOo B], .box [bV B.isSome]] (bV true)
  [.loopo (zPX fn) [(3, .ptr 1 0), (6, .ptr 2 0), (7, .ptr 3 0)] (some none), .box [zPj], .box [zOo (x6 zHb B [c])], .box [bV (x6 zHb B [c]).isSome]] := by
 cases B with
 | none => exact ysp_firstI0 fn c
 | some b =>
  have := ysp_firstI1 fn b c (hb1 b rfl) hc1
  rw [zBR]
  by_cases h : zHb c b < 0
  ·simp only [if_pos h] at this ⊢; exact this
  ·simp only [if_neg h] at this ⊢; exact this
end Go.Abs

namespace Go.Abs
open Go Go.Proofs Tryz
attribute [local irreducible] y4 Hold y9
set_option maxRecDepth 10000
set_option maxHeartbeats 8000000

def zP6 (l : List Str) (s : Nat) : List (List Nat) := (List.range' s (2 ^ l.length - s)).filterMap fun set => if J3 (zHA l set) = true then some (zGs l.length set) else none
theorem rightFrom_zero (l : List Str) : zP6 l 0 = zHD l := by
 unfold zP6 zHD
 rw [List.range_eq_range']; rfl
theorem rightFrom_step {l : List Str} {s : Nat} (h : s < 2 ^ l.length) : zP6 l s = (if J3 (zHA l s) = true then [zGs l.length s] else []) ++ zP6 l (s + 1) := by
 unfold zP6
 rw [show 2 ^ l.length - s = (2 ^ l.length - (s + 1)) + 1 by omega, List.range'_succ, List.filterMap_cons]
 split <;> rename_i h2 <;> split at h2 <;> simp_all
theorem rightFrom_end {l : List Str} {s : Nat} (h : ¬ s < 2 ^ l.length) : zP6 l s = [] := by
 unfold zP6
 rw [show 2 ^ l.length - s = 0 by omega]; rfl
def zP5 (l : List Str) (set i : Nat) : List Str := ((List.range i).filter fun i => !set.testBit i).map fun i => l.getD i default
theorem outIdx_step (set i : Nat) : zGs (i + 1) set = if set.testBit i = true then zGs i set ++ [i] else zGs i set := by
 unfold zGs
 rw [List.range_succ, List.filter_append]
 cases h : set.testBit i <;> simp [h]
theorem restTo_step (l : List Str) (set i : Nat) : zP5 l set (i + 1) = if set.testBit i = true then zP5 l set i else zP5 l set i ++ [l.getD i default] := by
 unfold zP5
 rw [List.range_succ, List.filter_append]
 cases h : set.testBit i <;> simp [h]
theorem outIdx_len (set i : Nat) : (zGs i set).length ≤ i := by
 unfold zGs
 have := List.length_filter_le (fun i => set.testBit i) (List.range i)
 simpa using this
theorem restTo_len (l : List Str) (set i : Nat) : (zP5 l set i).length ≤ i := by
 unfold zP5
 have := List.length_filter_le (fun i => !set.testBit i) (List.range i)
 simpa using this
theorem shl_small : ∀ n, n < 7 → IntKind.i64.wrap (1 * 2 ^ (min n 64)) = ((2 ^ n : Nat) : Int) := by decide
def zPE (a b : Int) : Int := IntKind.i64.wrap (BitVec.ofInt IntKind.i64.bits a &&& BitVec.ofInt IntKind.i64.bits b).toNat
def zPK (a : Int) (k : Nat) : Int := a.fdiv (2 ^ (min k IntKind.i64.bits))
@[go_sem ↓] theorem zP0 (a b : Int) (K : Cont) : zNy .and .i64 a b K = K (iV (zPE a b)) [] [] := rfl
@[go_sem ↓] theorem zP7 (a b : Int) (K : Cont) : S5 .shr .i64 a b K = (0 ≤ b ∧ K (iV (zPK a b.toNat)) [] []) := rfl
def zQI (set i : Nat) : Int := zPE (zPK set i) 1
set_option maxRecDepth 100000 in
theorem bitV_all : ((List.range 64).all fun set => (List.range 6).all fun i => decide (zQI set i = if set.testBit i = true then 1 else 0)) = true := by kernel_rfl
theorem bitV_eq {set i : Nat} (h1 : set < 64) (h2 : i < 6) : zQI set i = if set.testBit i = true then 1 else 0 := by
 have := List.all_eq_true.1 (List.all_eq_true.1 bitV_all set (List.mem_range.2 h1)) i (List.mem_range.2 h2)
 exact of_decide_eq_true this
noncomputable abbrev zPy (fn : FuncId) (B : Option (List Nat)) : List AObj := [.loopo (zPX fn) [(3, .ptr 1 0), (6, .ptr 2 0), (7, .ptr 3 0)] (some none), .box [zPj], .box [zOo B], .box [bV B.isSome]]
theorem sp_Wrong1 (fn : FuncId) (l : List Str) (hv : ∀ s, s ∈ l → ValidN s) (h6 : l.length ≤ 6) (B : Option (List Nat)) (hB : ∀ b, B = some b → b.length ≤ 1000) :
  zNF prog 100 [.yld 0, .ptr 4 0] (zPy fn B ++ [.box [y7 l]]) (.tup []) (zPy fn (x6 zHb B (zHD l)) ++ [.box [y7 l]]) := by
 obtain ⟨T, hT⟩ : ∃ T, x6 zHb B (zHD l) = T := ⟨_, rfl⟩
 rw [hT]
 rw [← rightFrom_zero] at hT
 have hpw : (2 : Nat) ^ l.length ≤ 64 := Nat.pow_le_pow_right (by decide) h6
 have hsh := shl_small l.length (by omega)
 simp only [zPy, List.cons_append, List.nil_append]
 refine q9 func100 rfl (fun E hE => ?_); simp only [go_sem, ntmps100]
 repeat' (first | (refine Qr rfl ?_; try intro _ hK; try simp only [go_sem, *]) | (refine Qi rfl rfl rfl rfl ?_ ?_ <;> (intro hb; (try intro _ hK); have hc := hb; try simp only [go_sem] at hc; simp only [go_sem, *])) | refine Qh rfl ?_ | (refine Qc rfl rfl ?_ ?_ <;> (intro hb; have hc := hb; try simp only [go_sem] at hc)) | refine q8 rfl ?_ | ((with_reducible apply And.intro); focus omega) | (refine q7 hK ?_; clear hK; simp only [go_sem, *]) | simp only [q6, z8, go_sem, *])
 refine c7 rfl (2 ^ l.length) (fun s (Z : Option (List Nat)) => x6 zHb Z (zP6 l s) = T ∧ ∀ b, Z = some b → b.length ≤ 1000) 44 (fun s Z => [(11, iV s), (10, iV ((2 ^ l.length : Nat) : Int)), (0, .yld 0), (1, .ptr 4 0)]) (fun s Z => zPy fn Z ++ [.box [y7 l]]) [some 0, some 1, some 2, some 3, some 4] [] (B) (by exact ⟨hT, hB⟩) ?_; intro s Z hs hP
 clear hT hB hsh
 obtain ⟨hP, hZ⟩ := hP
 by_cases hs2 : s < 2 ^ l.length
 ·have hsi : (s : Int) < ((2 ^ l.length : Nat) : Int) := by omega
  repeat' (first | (refine Qr rfl ?_; try intro _ hK; try simp only [go_sem, *]) | (refine Qi rfl rfl rfl rfl ?_ ?_ <;> (intro hb; (try intro _ hK); have hc := hb; try simp only [go_sem] at hc; simp only [go_sem, *])) | refine Qh rfl ?_ | (refine Qc rfl rfl ?_ ?_ <;> (intro hb; have hc := hb; try simp only [go_sem] at hc)) | refine q8 rfl ?_ | ((with_reducible apply And.intro); focus omega) | (refine q7 hK ?_; clear hK; simp only [go_sem, *]) | simp only [q6, z8, go_sem, *])
  all_goals first | contradiction | omega | skip
  refine O0 rfl (l.length) (fun i (o : List Nat) (q : List Str) => o = zGs i s ∧ q = zP5 l s i) 44 (fun i o q => [(16, iV i), (15, iV l.length), (14, y7 l), (3, iV s), (4, .own 5 1 0 o.length), (5, .own 6 1 0 q.length), (11, iV s), (10, iV ((2 ^ l.length : Nat) : Int)), (0, .yld 0), (1, .ptr 4 0)]) (fun i o q => zPy fn Z ++ [.box [y7 l], .row 1 (o.map nV), .row 1 (q.map sV)]) [some 0, some 1, some 2, some 3, some 4, none, none] [] ([]) ([]) (by exact ⟨rfl, rfl⟩) ?_; intro i o q hi hQ
  obtain ⟨hQ1, hQ2⟩ := hQ
  by_cases hi2 : i < l.length
  ·have hii : (i : Int) < (l.length : Int) := by omega
   have hwi : IntKind.i64.wrap ((i : Int) + 1) = ((i + 1 : Nat) : Int) := t6 (by omega)
   have hbe := bitV_eq (set := s) (i := i) (by omega) (by omega)
   have hol := outIdx_len s i
   have hql := restTo_len l s i
   have hos := outIdx_step s i
   have hqs := restTo_step l s i
   rw [← hQ1] at hol hos
   rw [← hQ2] at hql hqs
   clear hQ1 hQ2 hP hZ
   unfold zQI at hbe
   cases htb : s.testBit i
   ·rw [htb] at hbe hos hqs
    have hbe2 := hbe.trans (if_neg (by decide))
    clear hbe
    repeat' (first | (refine Qr rfl ?_; try intro _ hK; try simp only [go_sem, *]) | (refine Qi rfl rfl rfl rfl ?_ ?_ <;> (intro hb; (try intro _ hK); have hc := hb; try simp only [go_sem] at hc; simp only [go_sem, *])) | refine Qh rfl ?_ | (refine Qc rfl rfl ?_ ?_ <;> (intro hb; have hc := hb; try simp only [go_sem] at hc)) | refine q8 rfl ?_ | ((with_reducible apply And.intro); focus omega) | (refine q7 hK ?_; clear hK; simp only [go_sem, *]) | simp only [q6, z8, go_sem, *])
    all_goals first | contradiction | omega | skip
    exact i7 (i' := i + 1) [some 0, some 1, some 2, some 3, some 4, some 5, some 8] [] (o) (q ++ [l.getD i default]) (by exact ⟨hos.symm, hqs.symm⟩)
   ·rw [htb] at hbe hos hqs
    have hbe2 := hbe.trans (if_pos rfl)
    clear hbe
    repeat' (first | (refine Qr rfl ?_; try intro _ hK; try simp only [go_sem, *]) | (refine Qi rfl rfl rfl rfl ?_ ?_ <;> (intro hb; (try intro _ hK); have hc := hb; try simp only [go_sem] at hc; simp only [go_sem, *])) | refine Qh rfl ?_ | (refine Qc rfl rfl ?_ ?_ <;> (intro hb; have hc := hb; try simp only [go_sem] at hc)) | refine q8 rfl ?_ | ((with_reducible apply And.intro); focus omega) | (refine q7 hK ?_; clear hK; simp only [go_sem, *]) | simp only [q6, z8, go_sem, *])
    all_goals first | contradiction | omega | skip
    exact i7 (i' := i + 1) [some 0, some 1, some 2, some 3, some 4, some 8, some 6] [] (o ++ [i]) (q) (by exact ⟨hos.symm, hqs.symm⟩)
  ·have hil : i = l.length := by omega
   have hii : ¬ (i : Int) < (l.length : Int) := by omega
   have hol := outIdx_len s i
   have hql := restTo_len l s i
   have hqv : ∀ x, x ∈ zP5 l s i → ValidN x := fun x hx => by
    unfold zP5 at hx
    obtain ⟨j, hj, rfl⟩ := List.mem_map.1 hx
    have := List.mem_range.1 (List.mem_filter.1 hj).1
    exact hv _ (o7 (by omega))
   rw [rightFrom_step hs2] at hP
   have e1 : zHA l s = q := by rw [hQ2, hil]; rfl
   have e2 : zGs l.length s = o := by rw [hQ1, hil]
   rw [e1, e2] at hP
   rw [← hQ1] at hol
   rw [← hQ2] at hql hqv
   clear hQ1 hQ2 e1 e2 hv
   have so := sp_IsSorted q hqv (by omega)
   have htq : List.take q.length (List.map sV q) = List.map sV q := List.take_of_length_le (by simp)
   have hto : List.take o.length (List.map nV o) = List.map nV o := List.take_of_length_le (by simp)
   have hws : IntKind.i64.wrap ((s : Int) + 1) = ((s + 1 : Nat) : Int) := t6 (by omega)
   clear hqv
   cases hord : J3 q
   ·rw [hord] at hP so
    have hP2 : x6 zHb Z (zP6 l (s + 1)) = T := hP
    clear hord hP
    repeat' (first | ((with_reducible refine zM2 [0, 1, 1, 1, 1, 0, 0, 1, 1, 0, 0, 1] ?_)) | (refine Qr rfl ?_; try intro _ hK; try simp only [go_sem, *]) | (refine Qi rfl rfl rfl rfl ?_ ?_ <;> (intro hb; (try intro _ hK); have hc := hb; try simp only [go_sem] at hc; simp only [go_sem, *])) | refine Qh rfl ?_ | (refine Qc rfl rfl ?_ ?_ <;> (intro hb; have hc := hb; try simp only [go_sem] at hc)) | refine q8 rfl ?_ | ((with_reducible apply And.intro); focus omega) | (refine q7 hK ?_; clear hK; simp only [go_sem, *]) | simp only [q6, z8, go_sem, *])
    all_goals first | contradiction | omega | skip
    refine ⟨?_⟩
    refine T5 (N := 44) (env := [(4, zPW o), (5, y7 q), (11, iV s), (10, iV ((2 ^ l.length : Nat) : Int)), (0, .yld 0), (1, .ptr 4 0)]) (As := zPy fn Z ++ [.box [y7 l]]) [some 0, some 1, some 2, some 3, some 4] [5, 6] (by (simp only [Weak, go_sem, List.map_append, List.map_set, *] <;> (try simp (disch := omega) only [t6]) <;> (try simp) <;> (try omega))) ?_
    refine I3 5 rfl rfl rfl ?_
    simp only [List.take_succ_cons, List.take_zero, List.drop_succ_cons, List.drop_zero]
    repeat' (first | (refine Qr rfl ?_; try intro _ hK; try simp only [go_sem, *]) | (refine Qi rfl rfl rfl rfl ?_ ?_ <;> (intro hb; (try intro _ hK); have hc := hb; try simp only [go_sem] at hc; simp only [go_sem, *])) | refine Qh rfl ?_ | (refine Qc rfl rfl ?_ ?_ <;> (intro hb; have hc := hb; try simp only [go_sem] at hc)) | refine q8 rfl ?_ | (refine y5 (so) ?_; simp only [go_sem, *]) | ((with_reducible apply And.intro); focus omega) | (refine q7 hK ?_; clear hK; simp only [go_sem, *]) | simp only [q6, z8, go_sem, *])
    all_goals first | contradiction | omega | skip
    refine zBg rfl rfl (by simp only [go_sem]) ?_
    repeat' (first | (refine Qr rfl ?_; try intro _ hK; try simp only [go_sem, *]) | (refine Qi rfl rfl rfl rfl ?_ ?_ <;> (intro hb; (try intro _ hK); have hc := hb; try simp only [go_sem] at hc; simp only [go_sem, *])) | refine Qh rfl ?_ | (refine Qc rfl rfl ?_ ?_ <;> (intro hb; have hc := hb; try simp only [go_sem] at hc)) | refine q8 rfl ?_ | ((with_reducible apply And.intro); focus omega) | (refine q7 hK ?_; clear hK; simp only [go_sem, *]) | simp only [q6, z8, go_sem, *])
    all_goals first | contradiction | omega | skip
    exact p5 (i' := s + 1) [some 0, some 1, some 2, some 3, some 4] [] (Z) (by exact ⟨hP2, hZ⟩)
   ·rw [hord] at hP so
    have hP2 : x6 zHb (x6 zHb Z [o]) (zP6 l (s + 1)) = T := by rw [← hP, ← L4]; rfl
    have hy := ysp_firstI fn Z o hZ (by omega)
    have hZ2 : ∀ b, x6 zHb Z [o] = some b → b.length ≤ 1000 := fun b hb2 => by
     rcases L5 hb2 with h | h
     ·exact hZ b h
     ·rw [List.mem_singleton.1 h]; omega
    generalize x6 zHb Z [o] = Z2 at *
    clear hord hP hZ
    repeat' (first | ((with_reducible refine zM2 [0, 1, 1, 1, 1, 0, 0, 1, 1, 0, 0, 1] ?_)) | (refine Qr rfl ?_; try intro _ hK; try simp only [go_sem, *]) | (refine Qi rfl rfl rfl rfl ?_ ?_ <;> (intro hb; (try intro _ hK); have hc := hb; try simp only [go_sem] at hc; simp only [go_sem, *])) | refine Qh rfl ?_ | (refine Qc rfl rfl ?_ ?_ <;> (intro hb; have hc := hb; try simp only [go_sem] at hc)) | refine q8 rfl ?_ | ((with_reducible apply And.intro); focus omega) | (refine q7 hK ?_; clear hK; simp only [go_sem, *]) | simp only [q6, z8, go_sem, *])
    all_goals first | contradiction | omega | skip
    refine ⟨?_⟩
    refine T5 (N := 44) (env := [(4, zPW o), (5, y7 q), (11, iV s), (10, iV ((2 ^ l.length : Nat) : Int)), (0, .yld 0), (1, .ptr 4 0)]) (As := zPy fn Z ++ [.box [y7 l]]) [some 0, some 1, some 2, some 3, some 4] [5, 6] (by (simp only [Weak, go_sem, List.map_append, List.map_set, *] <;> (try simp (disch := omega) only [t6]) <;> (try simp) <;> (try omega))) ?_
    refine I3 5 rfl rfl rfl ?_
    simp only [List.take_succ_cons, List.take_zero, List.drop_succ_cons, List.drop_zero]
    repeat' (first | (refine Qr rfl ?_; try intro _ hK; try simp only [go_sem, *]) | (refine Qi rfl rfl rfl rfl ?_ ?_ <;> (intro hb; (try intro _ hK); have hc := hb; try simp only [go_sem] at hc; simp only [go_sem, *])) | refine Qh rfl ?_ | (refine Qc rfl rfl ?_ ?_ <;> (intro hb; have hc := hb; try simp only [go_sem] at hc)) | refine q8 rfl ?_ | (refine y5 (so) ?_; simp only [go_sem, *]) | ((with_reducible apply And.intro); focus omega) | (refine q7 hK ?_; clear hK; simp only [go_sem, *]) | simp only [q6, z8, go_sem, *])
    all_goals first | contradiction | omega | skip
    refine zBi rfl rfl (by simp only [go_sem]) ?_
    refine D0 [0, 1, 2, 3] [] hy rfl rfl (by simp) (by simp only [go_sem]) (by simp only [go_sem]) (by simp) (.inl rfl) (by simp [go_sem]) (by simp [go_sem]) ?_
    simp only [go_sem]
    repeat' (first | (refine Qr rfl ?_; try intro _ hK; try simp only [go_sem, *]) | (refine Qi rfl rfl rfl rfl ?_ ?_ <;> (intro hb; (try intro _ hK); have hc := hb; try simp only [go_sem] at hc; simp only [go_sem, *])) | refine Qh rfl ?_ | (refine Qc rfl rfl ?_ ?_ <;> (intro hb; have hc := hb; try simp only [go_sem] at hc)) | refine q8 rfl ?_ | ((with_reducible apply And.intro); focus omega) | (refine q7 hK ?_; clear hK; simp only [go_sem, *]) | simp only [q6, z8, go_sem, *])
    all_goals first | contradiction | omega | skip
    exact p5 (i' := s + 1) [some 0, some 1, some 2, some 3, some 4] [] (Z2) (by exact ⟨hP2, hZ2⟩)
 ·rw [rightFrom_end hs2] at hP
  have hP2 : Z = T := by cases Z <;> exact hP
  subst hP2
  have hsi : ¬ (s : Int) < ((2 ^ l.length : Nat) : Int) := by omega
  clear hP
  repeat' (first | (refine Qr rfl ?_; try intro _ hK; try simp only [go_sem, *]) | (refine Qi rfl rfl rfl rfl ?_ ?_ <;> (intro hb; (try intro _ hK); have hc := hb; try simp only [go_sem] at hc; simp only [go_sem, *])) | refine Qh rfl ?_ | (refine Qc rfl rfl ?_ ?_ <;> (intro hb; have hc := hb; try simp only [go_sem] at hc)) | refine q8 rfl ?_ | ((with_reducible apply And.intro); focus omega) | (refine q7 hK ?_; clear hK; simp only [go_sem, *]) | simp only [q6, z8, go_sem, *])
  all_goals first | contradiction | omega | skip
  refine ⟨[], [some 0, some 1, some 2, some 3, some 4], [], trivial, ?_⟩
  simp only [go_sem, f5, *]
end Go.Abs

namespace Go.Abs
open Go Go.Proofs Tryz
attribute [local irreducible] y4 Hold y9
set_option maxRecDepth 10000
set_option maxHeartbeats 8000000

theorem sp_firstI (l : List Str) (hv : ∀ s, s ∈ l → ValidN s) (h6 : l.length ≤ 6) :
  zNF prog 102 [.fn 100 [.ptr 0 0], zPj] [.box [y7 l]] (.tup [zOo (c5 zHb (zHD l)), bV (c5 zHb (zHD l)).isSome]) [.box [y7 l]] := by
 have s1 := fun fn => sp_Wrong1 fn l hv h6 none (fun b h => by cases h)
 have e : c5 zHb (zHD l) = x6 zHb none (zHD l) := rfl
 rw [e]
 generalize x6 zHb none (zHD l) = B at *
 clear hv e
 simp only [zPy, List.cons_append, List.nil_append, Option.isSome_none] at s1
 refine q9 func102 rfl (fun E hE => ?_); simp only [go_sem, ntmps102]
 repeat' (first | (refine Qr rfl ?_; try intro _ hK; try simp only [go_sem, *]) | refine Qh rfl ?_ | refine Qd rfl (by kernel_rfl) ?_ | (refine Qc rfl rfl ?_ ?_ <;> (intro hb; have hc := hb; try simp only [go_sem] at hc)) | refine q8 rfl ?_ | (refine Qb ?_ ?_; focus kernel_rfl) | ((with_reducible apply And.intro); focus omega) | (refine q7 hK ?_; clear hK; simp only [go_sem, *]) | simp only [q6, z8, go_sem, *])
 refine T5 (N := 23) (env := [(9, .fn 100 [.ptr 0 0]), (3, .ptr 1 0), (6, .ptr 2 0), (7, .ptr 3 0)]) (As := [.box [y7 l], .box [zPj], .box [zOo none], .box [bV false]]) [some 0, some 1, some 2, some 3] [] (by (simp only [Weak, go_sem, List.map_append, List.map_set, *] <;> (try simp (disch := omega) only [t6]) <;> (try simp) <;> (try omega))) ?_
 refine E0 (f := 100) (caps := [.ptr 0 0]) rfl (by simp only [go_sem]) (by kernel_rfl) (nx := 4) (by simp only [go_sem]) (fun fn => ⟨5, ?_⟩)
 refine r7 [4, 1, 2, 3, 0] [] (s1 fn) (by simp) (by simp only [go_sem]) ?_ (by simp) (.inl rfl) (by simp [go_sem]) (by simp [go_sem]) ?_
 ·simp only [go_sem, *]
  first | rfl | exact ⟨rfl, rfl⟩
 ·simp only [go_sem, *]
  refine ⟨zPX fn, [(3, .ptr 1 0), (6, .ptr 2 0), (7, .ptr 3 0)], none, by simp only [go_sem], ?_⟩
  simp only [go_sem]
  repeat' (first | (refine Qr rfl ?_; try intro _ hK; try simp only [go_sem, *]) | refine Qh rfl ?_ | refine Qd rfl (by kernel_rfl) ?_ | (refine Qc rfl rfl ?_ ?_ <;> (intro hb; have hc := hb; try simp only [go_sem] at hc)) | refine q8 rfl ?_ | (refine Qb ?_ ?_; focus kernel_rfl) | ((with_reducible apply And.intro); focus omega) | (refine q7 hK ?_; clear hK; simp only [go_sem, *]) | simp only [q6, z8, go_sem, *])
  refine ⟨[_, _], [some 0], [], ⟨rfl, rfl, trivial⟩, ?_⟩
  simp only [go_sem, *]
theorem wrong_some (l : List Str) : c5 zHb (zHD l) = some (zNE l) := by
 have hl := (wrongN_least l).1
 cases h : c5 zHb (zHD l) with
 | some c =>
  have : zNE l = c := by unfold zNE; rw [h]; rfl
  rw [this]
 | none =>
  exfalso
  have hm : zNE l ∈ zHD l := mem_rightSets.2 hl
  have hne : zHD l ≠ [] := fun e => by rw [e] at hm; cases hm
  obtain ⟨b, hb2, _⟩ := P5 (cmp := zHb) (fun x y z => ge_shorter) (fun x y => asy_shorter x y) hne
  rw [h] at hb2; cases hb2
theorem sp_Wrong_ok (l : List Str) (q : u9 l = 0) : zNF prog 56 [y7 l] [] (.tup [zPW (zNE l), iV 0]) [] := by
 have hv := K4 q
 have h6 := G4 q
 have s1 := E6 l (by omega)
 rw [q] at s1
 have s2 := sp_firstI l hv h6
 rw [wrong_some] at s2
 have s2 : zNF prog 102 [.fn 100 [.ptr 0 0], zPj] [.box [y7 l]] (.tup [zPW (zNE l), bV true]) [.box [y7 l]] := s2
 generalize zNE l = w at *
 clear hv q h6
 refine q9 func56 rfl (fun E hE => ?_); simp only [go_sem, ntmps56]
 repeat' (first | (refine Qr rfl ?_; try intro _ hK; try simp only [go_sem, *]) | refine Qh rfl ?_ | (refine Qc rfl rfl ?_ ?_ <;> (intro hb; have hc := hb; try simp only [go_sem] at hc)) | refine q8 rfl ?_ | (refine y5 (s1) ?_; simp only [go_sem, *]) | (refine v8 [0] (s2) ?_; simp only [go_sem, *]) | ((with_reducible apply And.intro); focus omega) | (refine q7 hK ?_; clear hK; simp only [go_sem, *]) | simp only [q6, z8, go_sem, *])
 all_goals try contradiction
 (refine ⟨[_, _], [], [], ⟨rfl, rfl, trivial⟩, ?_⟩; simp only [go_sem, *])
end Go.Abs

namespace Go.Abs
open Go

theorem all_range {n : Nat} {p : Nat → Bool} (h : (List.range n).all p = true) {i : Nat} (hi : i < n) : p i = true := List.all_eq_true.1 h i (List.mem_range.2 hi)
def nYN : Str := [89, 78]
def nJan : Str := [106, 97, 110]
def nRalf : Str := [114, 97, 108, 102]
def yN1 : List Str := [K9, zN0, [67, 97, 68], [72, 65, 84], [], [99, 104, 97, 100, 119, 105, 107]]
def yD1 : List Int := [0, 0, 2, 2, 7, 10]
theorem y1 : ((List.range 6).all fun i => x4 (yN1.getD i default) == yD1.getD i default) = true := by kernel_rfl
def yN2 : List Str := [nYN, [74, 82, 73], [88, 65, 86]]
def yK2 : List Str := [nJan, [106, 117, 114, 105], [115, 104, 97, 118]]
theorem y2 : ((List.range 3).all fun i => x4 (yN2.getD i default) == 0 && zNG (yN2.getD i default) == yK2.getD i default) = true := by kernel_rfl
def yN3 : List Str := [K9, nJan, zN0]
def yK3 : List Str := [zN0, nYN, zN0]
theorem y3 : ((List.range 3).all fun i => zL4 (yN3.getD i default) == 0 && zL6 (yN3.getD i default) == yK3.getD i default) = true := by kernel_rfl
def yA4 : List Str := [K9, zOI, zN0]
def yB4 : List Str := [zN0, K9, zN0]
def yR4 : List Int := [-1, -1, 0]
theorem ly4l : ((List.range 3).all fun i => v6 [yA4.getD i default, yB4.getD i default] == 0 && o5 (yA4.getD i default) (yB4.getD i default) == yR4.getD i default) = true := by kernel_rfl
theorem y5a : zL4 [106, 111, 104, 110] = 11 := by kernel_rfl
theorem y5b : zMH [G5, zOI, zN0] K9 = 2 := by kernel_rfl
theorem y5c : zGx [G5, zOI, zN0] K9 = 0 := by kernel_rfl
theorem y5d : zGx [K9, G5] K9 = 5 := by kernel_rfl
theorem y5e : zNE [G5, zOI, K9, zN0] = [] := by kernel_rfl
theorem y5f : zNE [zN0, G5, zOI] = [0] := by kernel_rfl
theorem y5g : u9 [G5, zOI, K9, zN0] = 0 := by kernel_rfl
theorem y5h : u9 [zN0, G5, zOI] = 0 := by kernel_rfl
def yA6 : List Str := [Z1, Y1, [114, 97, 108, 112, 104]]
def yB6 : List Str := [zAG, Z1, [82, 65, 76, 70]]
def yR6 : List Int := [1, 2, 1]
theorem ly6l : ((List.range 3).all fun i => e8 rulesX (yA6.getD i default) (yB6.getD i default) == 0 && zDK rulesX (yA6.getD i default) (yB6.getD i default) == yR6.getD i default) = true := by kernel_rfl
def yA7 : List Str := [Z1, K9, Z1]
def yB7 : List Str := [zAG, zN0, nRalf]
def yR7 : List Int := [3, 1, 2]
theorem ly7l : ((List.range 3).all fun i => zM9 rulesX (yA7.getD i default) (yB7.getD i default) == 0 && zNA rulesX (yA7.getD i default) (yB7.getD i default) == yR7.getD i default) = true := by kernel_rfl
theorem y8a : e8 rulesX Z1 nRalf = 11 := by kernel_rfl
theorem y8b : zLm rulesX Z1 [nRalf, zAG, Y1, Z1] = 0 := by kernel_rfl
theorem y8c : zLn rulesX Z1 [nRalf, zAG, Y1, Z1] = [3, 1, 2] := by kernel_rfl
def yS9 : List Str := [[99, 100, 46], [104, 100, 46], [99, 104, 97, 100, 46]]
def yR9 : List Bool := [true, false, false]
theorem ly9l : ((List.range 3).all fun i => zNk (yS9.getD i default) K9 == 0 && zNu (yS9.getD i default) K9 == yR9.getD i false) = true := by kernel_rfl
theorem y10a : zNk [99, 100] K9 = 2 := by kernel_rfl
theorem y10b : Z4 [115, 109, 46] smithsX = 0 := by kernel_rfl
theorem y10c : zNv [115, 109, 46] smithsX = [0, 1, 2] := by kernel_rfl
theorem y10d : Z4 [115, 121, 46] smithsX = 0 := by kernel_rfl
theorem y10e : zNv [115, 121, 46] smithsX = [1] := by kernel_rfl
theorem y10f : N6 smithsX 1 = [115, 121, 46] := by kernel_rfl
theorem y10g : N5 smithsX 1 = 0 := by kernel_rfl
theorem y10h : N6 smithsX 2 = [115, 97, 46] := by kernel_rfl
theorem y10i : N5 smithsX 2 = 0 := by kernel_rfl
theorem y11a : N5 smithsX 3 = 3 := by kernel_rfl
theorem y11b : N6 [K9, zN0] 0 = [99, 46] := by kernel_rfl
theorem y11c : N5 [K9, zN0] 0 = 0 := by kernel_rfl
theorem y11d : zOP smithsX 0 5 = Z1 := by kernel_rfl
theorem y11e : B0 smithsX 0 5 = 0 := by kernel_rfl
theorem y11f : zOP smithsX 0 3 = [115, 105, 46] := by kernel_rfl
theorem y11g : B0 smithsX 0 3 = 0 := by kernel_rfl
theorem y11h : B0 smithsX 0 2 = 11 := by kernel_rfl
end Go.Abs

namespace Go.Abs
open Go Go.Proofs Tryz
attribute [local irreducible] y4 Hold y9
set_option maxRecDepth 10000
set_option maxHeartbeats 16000000

theorem rulesX_len : rulesX.length ≤ 4294967296 ∧ ∀ x, x ∈ rulesX → x.src.length ≤ 4294967296 ∧ x.dst.length ≤ 4294967296 := by
 refine ⟨by decide, fun x hx => ?_⟩
 simp only [rulesX, List.mem_cons, List.not_mem_nil, or_false] at hx
 rcases hx with rfl | rfl | rfl <;> exact ⟨by decide, by decide⟩
theorem y_check {i : Nat} (h : i < 6) : zNF prog 44 [sV (yN1.getD i default)] [] (iV (yD1.getD i default)) [] := by
 have := zAT (yN1.getD i default)
 rw [eq_of_beq (all_range y1 h)] at this; exact this
theorem y_key {i : Nat} (h : i < 3) : zNF prog 37 [sV (yN2.getD i default)] [] (.tup [sV (yK2.getD i default), iV 0]) [] := by
 have := zCt (yN2.getD i default)
 have h2 := all_range y2 h
 rw [Bool.and_eq_true] at h2
 rw [eq_of_beq h2.1, eq_of_beq h2.2, if_pos rfl] at this; exact this
theorem y_other {i : Nat} (h : i < 3) : zNF prog 42 [sV (yN3.getD i default)] [] (.tup [sV (yK3.getD i default), iV 0]) [] := by
 have := sp_Other (yN3.getD i default)
 have h2 := all_range y3 h
 rw [Bool.and_eq_true] at h2
 rw [eq_of_beq h2.1, eq_of_beq h2.2] at this; exact this
theorem y_compare {i : Nat} (h : i < 3) : zNF prog 48 [sV (yA4.getD i default), sV (yB4.getD i default)] [] (.tup [iV (yR4.getD i default), iV 0]) [] := by
 have := sp_NCompare (yA4.getD i default) (yB4.getD i default)
 have h2 := all_range ly4l h
 rw [Bool.and_eq_true] at h2
 have e : zKS (yA4.getD i default) (yB4.getD i default) = 0 := eq_of_beq h2.1
 rw [e, if_pos rfl, eq_of_beq h2.2] at this; exact this
theorem y_uses {i : Nat} (h : i < 3) : zNF prog 49 [w8 rulesX, sV (yA6.getD i default), sV (yB6.getD i default)] [] (.tup [iV (yR6.getD i default), iV 0]) [] := by
 have := sp_Uses rulesX (yA6.getD i default) (yB6.getD i default) rulesX_len.1 rulesX_len.2
 have h2 := all_range ly6l h
 rw [Bool.and_eq_true] at h2
 rw [eq_of_beq h2.1, eq_of_beq h2.2] at this; exact this
theorem y_verdict {i : Nat} (h : i < 3) : zNF prog 39 [w8 rulesX, sV (yA7.getD i default), sV (yB7.getD i default)] [] (.tup [iV (yR7.getD i default), iV 0]) [] := by
 have := sp_Verdict rulesX (yA7.getD i default) (yB7.getD i default) rulesX_len.1 rulesX_len.2
 have h2 := all_range ly7l h
 rw [Bool.and_eq_true] at h2
 rw [eq_of_beq h2.1, eq_of_beq h2.2] at this; exact this
theorem y_short {i : Nat} (h : i < 3) : zNF prog 70 [sV (yS9.getD i default), sV K9] [] (.tup [bV (yR9.getD i default), iV 0]) [] := by
 have h3 : (yS9.getD i default).length ≤ 4294967296 := by
  have : ((List.range 3).all fun i => decide ((yS9.getD i default).length ≤ 1000)) = true := by kernel_rfl
  have := of_decide_eq_true (all_range this h)
  omega
 have := zMs (yS9.getD i default) K9 h3
 have h2 := all_range ly9l h
 rw [Bool.and_eq_true] at h2
 rw [eq_of_beq h2.1, eq_of_beq h2.2] at this; exact this
theorem sp_NameKnown : zNF prog 20 [] [] (bV true) [] := by
 have sS := zMz
 refine q9 func20 rfl (fun E hE => ?_); simp only [go_sem, ntmps20]
 repeat' (first | ((with_reducible refine zM2 [0, 1, 1] ?_)) | (refine Qr rfl ?_; try intro _ hK; try simp only [go_sem, *]) | (refine Qi rfl rfl rfl rfl ?_ ?_ <;> (intro hb; (try intro _ hK); have hc := hb; try simp only [go_sem] at hc; simp only [go_sem, *])) | refine Qh rfl ?_ | refine Qd rfl (by kernel_rfl) ?_ | (refine Qc rfl rfl ?_ ?_ <;> (intro hb; have hc := hb; try simp only [go_sem] at hc)) | refine q8 rfl ?_ | (refine Qb ?_ ?_; focus kernel_rfl) | ((with_reducible apply And.intro); focus omega) | (refine q7 hK ?_; clear hK; simp only [go_sem, *]) | simp only [q6, z8, go_sem, *])
 all_goals try contradiction
 refine ⟨?_⟩
 obtain ⟨lN1l, hN1⟩ : ∃ x, x = yN1 := ⟨_, rfl⟩
 obtain ⟨lD1l, hD1⟩ : ∃ x, x = yD1 := ⟨_, rfl⟩
 refine T5 (N := 433) (env := [(1, y7 lN1l), (2, T1 lD1l)]) (As := []) [] [0, 1] (by (rw [hN1, hD1]; simp only [yN1, yD1, yN2, yK2, yN3, yK3, yA4, yB4, yR4, yA6, yB6, yR6, yA7, yB7, yR7, yS9, yR9, nYN, nJan, nRalf, zN0, K9, G5, zOI, Y1, J0, Z1, zAG, zOT]; (simp only [Weak, go_sem, List.map_append, List.map_set, *] <;> (try simp (disch := omega) only [t6]) <;> (try simp) <;> (try omega)))) ?_
 have c2 := fun i (h : i < 6) => y_check h
 simp only [← hN1, ← hD1] at c2
 have lN1 : lN1l.length = 6 := by rw [hN1]; rfl
 have lD1 : lD1l.length = 6 := by rw [hD1]; rfl
 clear hN1 hD1
 repeat' (first | (refine Qr rfl ?_; try intro _ hK; try simp only [go_sem, *]) | (refine Qi rfl rfl rfl rfl ?_ ?_ <;> (intro hb; (try intro _ hK); have hc := hb; try simp only [go_sem] at hc; simp only [go_sem, *])) | refine Qh rfl ?_ | refine Qd rfl (by kernel_rfl) ?_ | (refine Qc rfl rfl ?_ ?_ <;> (intro hb; have hc := hb; try simp only [go_sem] at hc)) | refine q8 rfl ?_ | (refine Qb ?_ ?_; focus kernel_rfl) | ((with_reducible apply And.intro); focus omega) | (refine q7 hK ?_; clear hK; simp only [go_sem, *]) | simp only [q6, z8, go_sem, *])
 all_goals try contradiction
 refine n0 rfl (6) (fun i => NoQ i) 433 (fun i => [(3, iV i), (1, y7 lN1l), (2, T1 lD1l)]) (fun i => []) [] [] (by trivial) ?_; intro i hi hP
 have hwi : IntKind.i64.wrap ((i : Int) + 1) = ((i + 1 : Nat) : Int) := t6 (by omega)
 rcases Nat.lt_or_ge i 6 with hi | hi
 ·have hii : (i : Int) < 6 := by omega
  have t := c2 i hi
  clear c2
  generalize hx0 : lN1l.getD i default = x0 at *
  generalize hx1 : lD1l.getD i default = x1 at *
  have b1 : (x1 != x1) = false := by simp
  repeat' (first | (refine Qr rfl ?_; try intro _ hK; try simp only [go_sem, *]) | (refine Qi rfl rfl rfl rfl ?_ ?_ <;> (intro hb; (try intro _ hK); have hc := hb; try simp only [go_sem] at hc; simp only [go_sem, *])) | refine Qh rfl ?_ | refine Qd rfl (by kernel_rfl) ?_ | (refine Qc rfl rfl ?_ ?_ <;> (intro hb; have hc := hb; try simp only [go_sem] at hc)) | refine q8 rfl ?_ | (refine Qb ?_ ?_; focus kernel_rfl) | (refine y5 (t) ?_; simp only [go_sem, *]) | ((with_reducible apply And.intro); focus omega) | (refine q7 hK ?_; clear hK; simp only [go_sem, *]) | simp only [q6, z8, go_sem, *])
  all_goals first | contradiction | omega | skip
  exact d7 (i' := i + 1) [] [] (by trivial)
 have hii : ¬ (i : Int) < 6 := by omega
 clear c2 hwi hP
 repeat' (first | ((with_reducible refine zM2 [0, 1, 1, 1, 1] ?_)) | (refine Qr rfl ?_; try intro _ hK; try simp only [go_sem, *]) | (refine Qi rfl rfl rfl rfl ?_ ?_ <;> (intro hb; (try intro _ hK); have hc := hb; try simp only [go_sem] at hc; simp only [go_sem, *])) | refine Qh rfl ?_ | refine Qd rfl (by kernel_rfl) ?_ | (refine Qc rfl rfl ?_ ?_ <;> (intro hb; have hc := hb; try simp only [go_sem] at hc)) | refine q8 rfl ?_ | (refine Qb ?_ ?_; focus kernel_rfl) | ((with_reducible apply And.intro); focus omega) | (refine q7 hK ?_; clear hK; simp only [go_sem, *]) | simp only [q6, z8, go_sem, *])
 all_goals try contradiction
 refine ⟨?_⟩
 obtain ⟨lN2l, hN2⟩ : ∃ x, x = yN2 := ⟨_, rfl⟩
 obtain ⟨lK2l, hK2⟩ : ∃ x, x = yK2 := ⟨_, rfl⟩
 refine T5 (N := 433) (env := [(1, y7 lN2l), (4, y7 lK2l)]) (As := []) [] [0, 1] (by (rw [hN2, hK2]; simp only [yN1, yD1, yN2, yK2, yN3, yK3, yA4, yB4, yR4, yA6, yB6, yR6, yA7, yB7, yR7, yS9, yR9, nYN, nJan, nRalf, zN0, K9, G5, zOI, Y1, J0, Z1, zAG, zOT]; (simp only [Weak, go_sem, List.map_append, List.map_set, *] <;> (try simp (disch := omega) only [t6]) <;> (try simp) <;> (try omega)))) ?_
 have c4 := fun i (h : i < 3) => y_key h
 simp only [← hN2, ← hK2] at c4
 have lN2 : lN2l.length = 3 := by rw [hN2]; rfl
 have lK2 : lK2l.length = 3 := by rw [hK2]; rfl
 clear hN2 hK2
 repeat' (first | (refine Qr rfl ?_; try intro _ hK; try simp only [go_sem, *]) | (refine Qi rfl rfl rfl rfl ?_ ?_ <;> (intro hb; (try intro _ hK); have hc := hb; try simp only [go_sem] at hc; simp only [go_sem, *])) | refine Qh rfl ?_ | refine Qd rfl (by kernel_rfl) ?_ | (refine Qc rfl rfl ?_ ?_ <;> (intro hb; have hc := hb; try simp only [go_sem] at hc)) | refine q8 rfl ?_ | (refine Qb ?_ ?_; focus kernel_rfl) | ((with_reducible apply And.intro); focus omega) | (refine q7 hK ?_; clear hK; simp only [go_sem, *]) | simp only [q6, z8, go_sem, *])
 all_goals try contradiction
 refine n0 rfl (3) (fun i => NoQ i) 433 (fun i => [(5, iV i), (1, y7 lN2l), (4, y7 lK2l)]) (fun i => []) [] [] (by trivial) ?_; intro i hi hP
 have hwi : IntKind.i64.wrap ((i : Int) + 1) = ((i + 1 : Nat) : Int) := t6 (by omega)
 rcases Nat.lt_or_ge i 3 with hi | hi
 ·have hii : (i : Int) < 3 := by omega
  have t := c4 i hi
  clear c4
  generalize hx0 : lN2l.getD i default = x0 at *
  generalize hx1 : lK2l.getD i default = x1 at *
  have b1 : (x1 == x1) = true := by simp
  repeat' (first | (refine Qr rfl ?_; try intro _ hK; try simp only [go_sem, *]) | (refine Qi rfl rfl rfl rfl ?_ ?_ <;> (intro hb; (try intro _ hK); have hc := hb; try simp only [go_sem] at hc; simp only [go_sem, *])) | refine Qh rfl ?_ | refine Qd rfl (by kernel_rfl) ?_ | (refine Qc rfl rfl ?_ ?_ <;> (intro hb; have hc := hb; try simp only [go_sem] at hc)) | refine q8 rfl ?_ | (refine Qb ?_ ?_; focus kernel_rfl) | (refine y5 (t) ?_; simp only [go_sem, *]) | ((with_reducible apply And.intro); focus omega) | (refine q7 hK ?_; clear hK; simp only [go_sem, *]) | simp only [q6, z8, go_sem, *])
  all_goals first | contradiction | omega | skip
  exact d7 (i' := i + 1) [] [] (by trivial)
 have hii : ¬ (i : Int) < 3 := by omega
 clear c4 hwi hP
 repeat' (first | ((with_reducible refine zM2 [0, 1, 1, 1, 1, 1, 1] ?_)) | (refine Qr rfl ?_; try intro _ hK; try simp only [go_sem, *]) | (refine Qi rfl rfl rfl rfl ?_ ?_ <;> (intro hb; (try intro _ hK); have hc := hb; try simp only [go_sem] at hc; simp only [go_sem, *])) | refine Qh rfl ?_ | refine Qd rfl (by kernel_rfl) ?_ | (refine Qc rfl rfl ?_ ?_ <;> (intro hb; have hc := hb; try simp only [go_sem] at hc)) | refine q8 rfl ?_ | (refine Qb ?_ ?_; focus kernel_rfl) | ((with_reducible apply And.intro); focus omega) | (refine q7 hK ?_; clear hK; simp only [go_sem, *]) | simp only [q6, z8, go_sem, *])
 all_goals try contradiction
 refine ⟨?_⟩
 obtain ⟨lN3l, hN3⟩ : ∃ x, x = yN3 := ⟨_, rfl⟩
 obtain ⟨lK3l, hK3⟩ : ∃ x, x = yK3 := ⟨_, rfl⟩
 refine T5 (N := 433) (env := [(1, y7 lN3l), (4, y7 lK3l)]) (As := []) [] [0, 1] (by (rw [hN3, hK3]; simp only [yN1, yD1, yN2, yK2, yN3, yK3, yA4, yB4, yR4, yA6, yB6, yR6, yA7, yB7, yR7, yS9, yR9, nYN, nJan, nRalf, zN0, K9, G5, zOI, Y1, J0, Z1, zAG, zOT]; (simp only [Weak, go_sem, List.map_append, List.map_set, *] <;> (try simp (disch := omega) only [t6]) <;> (try simp) <;> (try omega)))) ?_
 have lc6l := fun i (h : i < 3) => y_other h
 simp only [← hN3, ← hK3] at lc6l
 have lN3 : lN3l.length = 3 := by rw [hN3]; rfl
 have lK3 : lK3l.length = 3 := by rw [hK3]; rfl
 clear hN3 hK3
 repeat' (first | (refine Qr rfl ?_; try intro _ hK; try simp only [go_sem, *]) | (refine Qi rfl rfl rfl rfl ?_ ?_ <;> (intro hb; (try intro _ hK); have hc := hb; try simp only [go_sem] at hc; simp only [go_sem, *])) | refine Qh rfl ?_ | refine Qd rfl (by kernel_rfl) ?_ | (refine Qc rfl rfl ?_ ?_ <;> (intro hb; have hc := hb; try simp only [go_sem] at hc)) | refine q8 rfl ?_ | (refine Qb ?_ ?_; focus kernel_rfl) | ((with_reducible apply And.intro); focus omega) | (refine q7 hK ?_; clear hK; simp only [go_sem, *]) | simp only [q6, z8, go_sem, *])
 all_goals try contradiction
 refine n0 rfl (3) (fun i => NoQ i) 433 (fun i => [(8, iV i), (1, y7 lN3l), (4, y7 lK3l)]) (fun i => []) [] [] (by trivial) ?_; intro i hi hP
 have hwi : IntKind.i64.wrap ((i : Int) + 1) = ((i + 1 : Nat) : Int) := t6 (by omega)
 rcases Nat.lt_or_ge i 3 with hi | hi
 ·have hii : (i : Int) < 3 := by omega
  have t := lc6l i hi
  clear lc6l
  generalize hx0 : lN3l.getD i default = x0 at *
  generalize hx1 : lK3l.getD i default = x1 at *
  have b1 : (x1 == x1) = true := by simp
  repeat' (first | (refine Qr rfl ?_; try intro _ hK; try simp only [go_sem, *]) | (refine Qi rfl rfl rfl rfl ?_ ?_ <;> (intro hb; (try intro _ hK); have hc := hb; try simp only [go_sem] at hc; simp only [go_sem, *])) | refine Qh rfl ?_ | refine Qd rfl (by kernel_rfl) ?_ | (refine Qc rfl rfl ?_ ?_ <;> (intro hb; have hc := hb; try simp only [go_sem] at hc)) | refine q8 rfl ?_ | (refine Qb ?_ ?_; focus kernel_rfl) | (refine y5 (t) ?_; simp only [go_sem, *]) | ((with_reducible apply And.intro); focus omega) | (refine q7 hK ?_; clear hK; simp only [go_sem, *]) | simp only [q6, z8, go_sem, *])
  all_goals first | contradiction | omega | skip
  exact d7 (i' := i + 1) [] [] (by trivial)
 have hii : ¬ (i : Int) < 3 := by omega
 clear lc6l hwi hP
 repeat' (first | ((with_reducible refine zM2 [0, 1, 1, 1, 1, 1, 1, 1, 1] ?_)) | (refine Qr rfl ?_; try intro _ hK; try simp only [go_sem, *]) | (refine Qi rfl rfl rfl rfl ?_ ?_ <;> (intro hb; (try intro _ hK); have hc := hb; try simp only [go_sem] at hc; simp only [go_sem, *])) | refine Qh rfl ?_ | refine Qd rfl (by kernel_rfl) ?_ | (refine Qc rfl rfl ?_ ?_ <;> (intro hb; have hc := hb; try simp only [go_sem] at hc)) | refine q8 rfl ?_ | (refine Qb ?_ ?_; focus kernel_rfl) | ((with_reducible apply And.intro); focus omega) | (refine q7 hK ?_; clear hK; simp only [go_sem, *]) | simp only [q6, z8, go_sem, *])
 all_goals try contradiction
 refine ⟨?_⟩
 obtain ⟨lA4l, hA4⟩ : ∃ x, x = yA4 := ⟨_, rfl⟩
 obtain ⟨lB4l, hB4⟩ : ∃ x, x = yB4 := ⟨_, rfl⟩
 obtain ⟨lR4l, hR4⟩ : ∃ x, x = yR4 := ⟨_, rfl⟩
 refine T5 (N := 433) (env := [(11, y7 lA4l), (12, y7 lB4l), (13, T1 lR4l)]) (As := []) [] [0, 1, 2] (by (rw [hA4, hB4, hR4]; simp only [yN1, yD1, yN2, yK2, yN3, yK3, yA4, yB4, yR4, yA6, yB6, yR6, yA7, yB7, yR7, yS9, yR9, nYN, nJan, nRalf, zN0, K9, G5, zOI, Y1, J0, Z1, zAG, zOT]; (simp only [Weak, go_sem, List.map_append, List.map_set, *] <;> (try simp (disch := omega) only [t6]) <;> (try simp) <;> (try omega)))) ?_
 have lc8l := fun i (h : i < 3) => y_compare h
 simp only [← hA4, ← hB4, ← hR4] at lc8l
 have lA4 : lA4l.length = 3 := by rw [hA4]; rfl
 have lB4 : lB4l.length = 3 := by rw [hB4]; rfl
 have lR4 : lR4l.length = 3 := by rw [hR4]; rfl
 clear hA4 hB4 hR4
 repeat' (first | (refine Qr rfl ?_; try intro _ hK; try simp only [go_sem, *]) | (refine Qi rfl rfl rfl rfl ?_ ?_ <;> (intro hb; (try intro _ hK); have hc := hb; try simp only [go_sem] at hc; simp only [go_sem, *])) | refine Qh rfl ?_ | refine Qd rfl (by kernel_rfl) ?_ | (refine Qc rfl rfl ?_ ?_ <;> (intro hb; have hc := hb; try simp only [go_sem] at hc)) | refine q8 rfl ?_ | (refine Qb ?_ ?_; focus kernel_rfl) | ((with_reducible apply And.intro); focus omega) | (refine q7 hK ?_; clear hK; simp only [go_sem, *]) | simp only [q6, z8, go_sem, *])
 all_goals try contradiction
 refine n0 rfl (3) (fun i => NoQ i) 433 (fun i => [(14, iV i), (11, y7 lA4l), (12, y7 lB4l), (13, T1 lR4l)]) (fun i => []) [] [] (by trivial) ?_; intro i hi hP
 have hwi : IntKind.i64.wrap ((i : Int) + 1) = ((i + 1 : Nat) : Int) := t6 (by omega)
 rcases Nat.lt_or_ge i 3 with hi | hi
 ·have hii : (i : Int) < 3 := by omega
  have t := lc8l i hi
  clear lc8l
  generalize hx0 : lA4l.getD i default = x0 at *
  generalize hx1 : lB4l.getD i default = x1 at *
  generalize hx2 : lR4l.getD i default = x2 at *
  have b2 : (x2 != x2) = false := by simp
  repeat' (first | (refine Qr rfl ?_; try intro _ hK; try simp only [go_sem, *]) | (refine Qi rfl rfl rfl rfl ?_ ?_ <;> (intro hb; (try intro _ hK); have hc := hb; try simp only [go_sem] at hc; simp only [go_sem, *])) | refine Qh rfl ?_ | refine Qd rfl (by kernel_rfl) ?_ | (refine Qc rfl rfl ?_ ?_ <;> (intro hb; have hc := hb; try simp only [go_sem] at hc)) | refine q8 rfl ?_ | (refine Qb ?_ ?_; focus kernel_rfl) | (refine y5 (t) ?_; simp only [go_sem, *]) | ((with_reducible apply And.intro); focus omega) | (refine q7 hK ?_; clear hK; simp only [go_sem, *]) | simp only [q6, z8, go_sem, *])
  all_goals first | contradiction | omega | skip
  exact d7 (i' := i + 1) [] [] (by trivial)
 have hii : ¬ (i : Int) < 3 := by omega
 clear lc8l hwi hP
 have u1 := sp_Other [106, 111, 104, 110]
 rw [y5a] at u1
 have u2 := sp_Place [G5, zOI, zN0] K9 (by decide)
 rw [y5b, y5c] at u2
 have u3 := sp_Place [K9, G5] K9 (by decide)
 rw [y5d] at u3
 have u4 := sp_Wrong_ok [G5, zOI, K9, zN0] y5g
 rw [y5e] at u4
 have lu5l := sp_Wrong_ok [zN0, G5, zOI] y5h
 rw [y5f] at lu5l
 have lu6l : zNF prog 54 [.list [nV 0], T1 [0]] [] (bV true) [] := by
  have := zHw [0] [0] (by decide)
  rw [decide_eq_true rfl] at this
  exact this
 generalize zL6 [106, 111, 104, 110] = g1 at *
 generalize zMH [K9, G5] K9 = g2 at *
 simp only [y7, T1, w8, zPW, zEA, rulesX, smithsX, Rule.enc, List.map_cons, List.map_nil, List.length_cons, List.length_nil, yN1, yD1, yN2, yK2, yN3, yK3, yA4, yB4, yR4, yA6, yB6, yR6, yA7, yB7, yR7, yS9, yR9, nYN, nJan, nRalf, zN0, K9, G5, zOI, Y1, J0, Z1, zAG, zOT] at u2 u3 u4 lu5l lu6l
 repeat' (first | (refine Qr rfl ?_; try intro _ hK; try simp only [go_sem, *]) | (refine Qi rfl rfl rfl rfl ?_ ?_ <;> (intro hb; (try intro _ hK); have hc := hb; try simp only [go_sem] at hc; simp only [go_sem, *])) | refine Qh rfl ?_ | refine Qd rfl (by kernel_rfl) ?_ | (refine Qc rfl rfl ?_ ?_ <;> (intro hb; have hc := hb; try simp only [go_sem] at hc)) | refine q8 rfl ?_ | (refine Qb ?_ ?_; focus kernel_rfl) | (refine x5 (u1) ?_ ?_; (focus (simp only [go_sem, *]; done)); simp only [go_sem, *]) | ((with_reducible apply And.intro); focus omega) | (refine q7 hK ?_; clear hK; simp only [go_sem, *]) | simp only [q6, z8, go_sem, *])
 refine Q4 [] [0] u2 rfl (by simp only [go_sem]) (by simp) ?_ ?_ (by simp [go_sem]) (by simp [go_sem]) ?_
 ·simp only [go_sem, *]
 ·simp only [go_sem, *]
 simp only [go_sem, u6, *]
 repeat' (first | (refine Qr rfl ?_; try intro _ hK; try simp only [go_sem, *]) | (refine Qi rfl rfl rfl rfl ?_ ?_ <;> (intro hb; (try intro _ hK); have hc := hb; try simp only [go_sem] at hc; simp only [go_sem, *])) | refine Qh rfl ?_ | refine Qd rfl (by kernel_rfl) ?_ | (refine Qc rfl rfl ?_ ?_ <;> (intro hb; have hc := hb; try simp only [go_sem] at hc)) | refine q8 rfl ?_ | (refine Qb ?_ ?_; focus kernel_rfl) | ((with_reducible apply And.intro); focus omega) | (refine q7 hK ?_; clear hK; simp only [go_sem, *]) | simp only [q6, z8, go_sem, *])
 refine Q4 [] [1] u3 rfl (by simp only [go_sem]) (by simp) ?_ ?_ (by simp [go_sem]) (by simp [go_sem]) ?_
 ·simp only [go_sem, *]
 ·simp only [go_sem, *]
 simp only [go_sem, u6, *]
 repeat' (first | (refine Qr rfl ?_; try intro _ hK; try simp only [go_sem, *]) | (refine Qi rfl rfl rfl rfl ?_ ?_ <;> (intro hb; (try intro _ hK); have hc := hb; try simp only [go_sem] at hc; simp only [go_sem, *])) | refine Qh rfl ?_ | refine Qd rfl (by kernel_rfl) ?_ | (refine Qc rfl rfl ?_ ?_ <;> (intro hb; have hc := hb; try simp only [go_sem] at hc)) | refine q8 rfl ?_ | (refine Qb ?_ ?_; focus kernel_rfl) | ((with_reducible apply And.intro); focus omega) | (refine q7 hK ?_; clear hK; simp only [go_sem, *]) | simp only [q6, z8, go_sem, *])
 refine Q4 [] [2] u4 rfl (by simp only [go_sem]) (by simp) ?_ ?_ (by simp [go_sem]) (by simp [go_sem]) ?_
 ·simp only [go_sem, *]
 ·simp only [go_sem, *]
 simp only [go_sem, u6, *]
 repeat' (first | (refine Qr rfl ?_; try intro _ hK; try simp only [go_sem, *]) | (refine Qi rfl rfl rfl rfl ?_ ?_ <;> (intro hb; (try intro _ hK); have hc := hb; try simp only [go_sem] at hc; simp only [go_sem, *])) | refine Qh rfl ?_ | refine Qd rfl (by kernel_rfl) ?_ | (refine Qc rfl rfl ?_ ?_ <;> (intro hb; have hc := hb; try simp only [go_sem] at hc)) | refine q8 rfl ?_ | (refine Qb ?_ ?_; focus kernel_rfl) | ((with_reducible apply And.intro); focus omega) | (refine q7 hK ?_; clear hK; simp only [go_sem, *]) | simp only [q6, z8, go_sem, *])
 refine Q4 [] [3] lu5l rfl (by simp only [go_sem]) (by simp) ?_ ?_ (by simp [go_sem]) (by simp [go_sem]) ?_
 ·simp only [go_sem, *]
 ·simp only [go_sem, *]
 simp only [go_sem, u6, *]
 repeat' (first | (refine Qr rfl ?_; try intro _ hK; try simp only [go_sem, *]) | (refine Qi rfl rfl rfl rfl ?_ ?_ <;> (intro hb; (try intro _ hK); have hc := hb; try simp only [go_sem] at hc; simp only [go_sem, *])) | refine Qh rfl ?_ | refine Qd rfl (by kernel_rfl) ?_ | (refine Qc rfl rfl ?_ ?_ <;> (intro hb; have hc := hb; try simp only [go_sem] at hc)) | refine q8 rfl ?_ | (refine Qb ?_ ?_; focus kernel_rfl) | (refine x5 (sS) ?_ ?_; (focus (simp only [go_sem, *]; done)); simp only [go_sem, *]) | ((with_reducible apply And.intro); focus omega) | (refine q7 hK ?_; clear hK; simp only [go_sem, *]) | simp only [q6, z8, go_sem, *])
 refine Q4 [] [4] lu6l rfl (by simp only [go_sem]) (by simp) ?_ ?_ (by simp [go_sem]) (by simp [go_sem]) ?_
 ·simp only [go_sem, *]
 ·simp only [go_sem, *]
 simp only [go_sem, u6, *]
 clear u1 u2 u3 u4 lu5l lu6l
 repeat' (first | ((with_reducible refine zM2 [0, 1, 1, 1, 1, 1, 1, 1, 1, 1, 1, 1, 1, 1, 1, 1] ?_)) | (refine Qr rfl ?_; try intro _ hK; try simp only [go_sem, *]) | (refine Qi rfl rfl rfl rfl ?_ ?_ <;> (intro hb; (try intro _ hK); have hc := hb; try simp only [go_sem] at hc; simp only [go_sem, *])) | refine Qh rfl ?_ | refine Qd rfl (by kernel_rfl) ?_ | (refine Qc rfl rfl ?_ ?_ <;> (intro hb; have hc := hb; try simp only [go_sem] at hc)) | refine q8 rfl ?_ | (refine Qb ?_ ?_; focus kernel_rfl) | ((with_reducible apply And.intro); focus omega) | (refine q7 hK ?_; clear hK; simp only [go_sem, *]) | simp only [q6, z8, go_sem, *])
 all_goals try contradiction
 refine ⟨?_⟩
 refine T5 (N := 433) (env := []) (As := []) [] [] (by (simp only [Weak, go_sem, List.map_append, List.map_set, *] <;> (try simp (disch := omega) only [t6]) <;> (try simp) <;> (try omega))) ?_
 repeat' (first | ((with_reducible refine zM2 [0, 1, 1, 1, 1, 1, 1, 1, 1, 1, 1, 1, 1, 1, 1, 1, 1] ?_)) | (refine Qr rfl ?_; try intro _ hK; try simp only [go_sem, *]) | (refine Qi rfl rfl rfl rfl ?_ ?_ <;> (intro hb; (try intro _ hK); have hc := hb; try simp only [go_sem] at hc; simp only [go_sem, *])) | refine Qh rfl ?_ | refine Qd rfl (by kernel_rfl) ?_ | (refine Qc rfl rfl ?_ ?_ <;> (intro hb; have hc := hb; try simp only [go_sem] at hc)) | refine q8 rfl ?_ | (refine Qb ?_ ?_; focus kernel_rfl) | ((with_reducible apply And.intro); focus omega) | (refine q7 hK ?_; clear hK; simp only [go_sem, *]) | simp only [q6, z8, go_sem, *])
 all_goals try contradiction
 refine ⟨?_⟩
 obtain ⟨lA6l, hA6⟩ : ∃ x, x = yA6 := ⟨_, rfl⟩
 obtain ⟨lB6l, hB6⟩ : ∃ x, x = yB6 := ⟨_, rfl⟩
 obtain ⟨lR6l, hR6⟩ : ∃ x, x = yR6 := ⟨_, rfl⟩
 refine T5 (N := 433) (env := [(11, y7 lA6l), (12, y7 lB6l), (13, T1 lR6l)]) (As := []) [] [0, 1, 2] (by (rw [hA6, hB6, hR6]; simp only [yN1, yD1, yN2, yK2, yN3, yK3, yA4, yB4, yR4, yA6, yB6, yR6, yA7, yB7, yR7, yS9, yR9, nYN, nJan, nRalf, zN0, K9, G5, zOI, Y1, J0, Z1, zAG, zOT]; (simp only [Weak, go_sem, List.map_append, List.map_set, *] <;> (try simp (disch := omega) only [t6]) <;> (try simp) <;> (try omega)))) ?_
 have c16 := fun i (h : i < 3) => y_uses h
 simp only [← hA6, ← hB6, ← hR6] at c16
 have lA6 : lA6l.length = 3 := by rw [hA6]; rfl
 have lB6 : lB6l.length = 3 := by rw [hB6]; rfl
 have lR6 : lR6l.length = 3 := by rw [hR6]; rfl
 clear hA6 hB6 hR6
 repeat' (first | (refine Qr rfl ?_; try intro _ hK; try simp only [go_sem, *]) | (refine Qi rfl rfl rfl rfl ?_ ?_ <;> (intro hb; (try intro _ hK); have hc := hb; try simp only [go_sem] at hc; simp only [go_sem, *])) | refine Qh rfl ?_ | refine Qd rfl (by kernel_rfl) ?_ | (refine Qc rfl rfl ?_ ?_ <;> (intro hb; have hc := hb; try simp only [go_sem] at hc)) | refine q8 rfl ?_ | (refine Qb ?_ ?_; focus kernel_rfl) | ((with_reducible apply And.intro); focus omega) | (refine q7 hK ?_; clear hK; simp only [go_sem, *]) | simp only [q6, z8, go_sem, *])
 all_goals try contradiction
 refine n0 rfl (3) (fun i => NoQ i) 433 (fun i => [(27, iV i), (11, y7 lA6l), (12, y7 lB6l), (13, T1 lR6l)]) (fun i => []) [] [] (by trivial) ?_; intro i hi hP
 have hwi : IntKind.i64.wrap ((i : Int) + 1) = ((i + 1 : Nat) : Int) := t6 (by omega)
 rcases Nat.lt_or_ge i 3 with hi | hi
 ·have hii : (i : Int) < 3 := by omega
  have t := c16 i hi
  clear c16
  generalize hx0 : lA6l.getD i default = x0 at *
  generalize hx1 : lB6l.getD i default = x1 at *
  generalize hx2 : lR6l.getD i default = x2 at *
  have b2 : (x2 != x2) = false := by simp
  have sR := zIi
  simp only [y7, T1, w8, zPW, zEA, rulesX, smithsX, Rule.enc, List.map_cons, List.map_nil, List.length_cons, List.length_nil, yN1, yD1, yN2, yK2, yN3, yK3, yA4, yB4, yR4, yA6, yB6, yR6, yA7, yB7, yR7, yS9, yR9, nYN, nJan, nRalf, zN0, K9, G5, zOI, Y1, J0, Z1, zAG, zOT] at t sR
  repeat' (first | (refine Qr rfl ?_; try intro _ hK; try simp only [go_sem, *]) | (refine Qi rfl rfl rfl rfl ?_ ?_ <;> (intro hb; (try intro _ hK); have hc := hb; try simp only [go_sem] at hc; simp only [go_sem, *])) | refine Qh rfl ?_ | refine Qd rfl (by kernel_rfl) ?_ | (refine Qc rfl rfl ?_ ?_ <;> (intro hb; have hc := hb; try simp only [go_sem] at hc)) | refine q8 rfl ?_ | (refine Qb ?_ ?_; focus kernel_rfl) | (refine j1 (sR) ?_; simp only [go_sem, *]) | ((with_reducible apply And.intro); focus omega) | (refine q7 hK ?_; clear hK; simp only [go_sem, *]) | simp only [q6, z8, go_sem, *])
  refine Q4 [] [0] t rfl (by simp only [go_sem]) (by simp) ?_ ?_ (by simp [go_sem]) (by simp [go_sem]) ?_
  ·simp only [go_sem, *]
  ·simp only [go_sem, *]
  simp only [go_sem, u6, *]
  repeat' (first | (refine Qr rfl ?_; try intro _ hK; try simp only [go_sem, *]) | (refine Qi rfl rfl rfl rfl ?_ ?_ <;> (intro hb; (try intro _ hK); have hc := hb; try simp only [go_sem] at hc; simp only [go_sem, *])) | refine Qh rfl ?_ | refine Qd rfl (by kernel_rfl) ?_ | (refine Qc rfl rfl ?_ ?_ <;> (intro hb; have hc := hb; try simp only [go_sem] at hc)) | refine q8 rfl ?_ | (refine Qb ?_ ?_; focus kernel_rfl) | ((with_reducible apply And.intro); focus omega) | (refine q7 hK ?_; clear hK; simp only [go_sem, *]) | simp only [q6, z8, go_sem, *])
  all_goals first | contradiction | omega | skip
  exact d7 (i' := i + 1) [] [] (by trivial)
 have hii : ¬ (i : Int) < 3 := by omega
 clear c16 hwi hP
 repeat' (first | ((with_reducible refine zM2 [0, 1, 1, 1, 1, 1, 1, 1, 1, 1, 1, 1, 1, 1, 1, 1, 1, 1, 1] ?_)) | (refine Qr rfl ?_; try intro _ hK; try simp only [go_sem, *]) | (refine Qi rfl rfl rfl rfl ?_ ?_ <;> (intro hb; (try intro _ hK); have hc := hb; try simp only [go_sem] at hc; simp only [go_sem, *])) | refine Qh rfl ?_ | refine Qd rfl (by kernel_rfl) ?_ | (refine Qc rfl rfl ?_ ?_ <;> (intro hb; have hc := hb; try simp only [go_sem] at hc)) | refine q8 rfl ?_ | (refine Qb ?_ ?_; focus kernel_rfl) | ((with_reducible apply And.intro); focus omega) | (refine q7 hK ?_; clear hK; simp only [go_sem, *]) | simp only [q6, z8, go_sem, *])
 all_goals try contradiction
 refine ⟨?_⟩
 obtain ⟨lA7l, hA7⟩ : ∃ x, x = yA7 := ⟨_, rfl⟩
 obtain ⟨lB7l, hB7⟩ : ∃ x, x = yB7 := ⟨_, rfl⟩
 obtain ⟨lR7l, hR7⟩ : ∃ x, x = yR7 := ⟨_, rfl⟩
 refine T5 (N := 433) (env := [(11, y7 lA7l), (12, y7 lB7l), (13, T1 lR7l)]) (As := []) [] [0, 1, 2] (by (rw [hA7, hB7, hR7]; simp only [yN1, yD1, yN2, yK2, yN3, yK3, yA4, yB4, yR4, yA6, yB6, yR6, yA7, yB7, yR7, yS9, yR9, nYN, nJan, nRalf, zN0, K9, G5, zOI, Y1, J0, Z1, zAG, zOT]; (simp only [Weak, go_sem, List.map_append, List.map_set, *] <;> (try simp (disch := omega) only [t6]) <;> (try simp) <;> (try omega)))) ?_
 have c18 := fun i (h : i < 3) => y_verdict h
 simp only [← hA7, ← hB7, ← hR7] at c18
 have lA7 : lA7l.length = 3 := by rw [hA7]; rfl
 have lB7 : lB7l.length = 3 := by rw [hB7]; rfl
 have lR7 : lR7l.length = 3 := by rw [hR7]; rfl
 clear hA7 hB7 hR7
 repeat' (first | (refine Qr rfl ?_; try intro _ hK; try simp only [go_sem, *]) | (refine Qi rfl rfl rfl rfl ?_ ?_ <;> (intro hb; (try intro _ hK); have hc := hb; try simp only [go_sem] at hc; simp only [go_sem, *])) | refine Qh rfl ?_ | refine Qd rfl (by kernel_rfl) ?_ | (refine Qc rfl rfl ?_ ?_ <;> (intro hb; have hc := hb; try simp only [go_sem] at hc)) | refine q8 rfl ?_ | (refine Qb ?_ ?_; focus kernel_rfl) | ((with_reducible apply And.intro); focus omega) | (refine q7 hK ?_; clear hK; simp only [go_sem, *]) | simp only [q6, z8, go_sem, *])
 all_goals try contradiction
 refine n0 rfl (3) (fun i => NoQ i) 433 (fun i => [(30, iV i), (11, y7 lA7l), (12, y7 lB7l), (13, T1 lR7l)]) (fun i => []) [] [] (by trivial) ?_; intro i hi hP
 have hwi : IntKind.i64.wrap ((i : Int) + 1) = ((i + 1 : Nat) : Int) := t6 (by omega)
 rcases Nat.lt_or_ge i 3 with hi | hi
 ·have hii : (i : Int) < 3 := by omega
  have t := c18 i hi
  clear c18
  generalize hx0 : lA7l.getD i default = x0 at *
  generalize hx1 : lB7l.getD i default = x1 at *
  generalize hx2 : lR7l.getD i default = x2 at *
  have b2 : (x2 != x2) = false := by simp
  have sR := zIi
  simp only [y7, T1, w8, zPW, zEA, rulesX, smithsX, Rule.enc, List.map_cons, List.map_nil, List.length_cons, List.length_nil, yN1, yD1, yN2, yK2, yN3, yK3, yA4, yB4, yR4, yA6, yB6, yR6, yA7, yB7, yR7, yS9, yR9, nYN, nJan, nRalf, zN0, K9, G5, zOI, Y1, J0, Z1, zAG, zOT] at t sR
  repeat' (first | (refine Qr rfl ?_; try intro _ hK; try simp only [go_sem, *]) | (refine Qi rfl rfl rfl rfl ?_ ?_ <;> (intro hb; (try intro _ hK); have hc := hb; try simp only [go_sem] at hc; simp only [go_sem, *])) | refine Qh rfl ?_ | refine Qd rfl (by kernel_rfl) ?_ | (refine Qc rfl rfl ?_ ?_ <;> (intro hb; have hc := hb; try simp only [go_sem] at hc)) | refine q8 rfl ?_ | (refine Qb ?_ ?_; focus kernel_rfl) | (refine j1 (sR) ?_; simp only [go_sem, *]) | ((with_reducible apply And.intro); focus omega) | (refine q7 hK ?_; clear hK; simp only [go_sem, *]) | simp only [q6, z8, go_sem, *])
  refine Q4 [] [0] t rfl (by simp only [go_sem]) (by simp) ?_ ?_ (by simp [go_sem]) (by simp [go_sem]) ?_
  ·simp only [go_sem, *]
  ·simp only [go_sem, *]
  simp only [go_sem, u6, *]
  repeat' (first | (refine Qr rfl ?_; try intro _ hK; try simp only [go_sem, *]) | (refine Qi rfl rfl rfl rfl ?_ ?_ <;> (intro hb; (try intro _ hK); have hc := hb; try simp only [go_sem] at hc; simp only [go_sem, *])) | refine Qh rfl ?_ | refine Qd rfl (by kernel_rfl) ?_ | (refine Qc rfl rfl ?_ ?_ <;> (intro hb; have hc := hb; try simp only [go_sem] at hc)) | refine q8 rfl ?_ | (refine Qb ?_ ?_; focus kernel_rfl) | ((with_reducible apply And.intro); focus omega) | (refine q7 hK ?_; clear hK; simp only [go_sem, *]) | simp only [q6, z8, go_sem, *])
  all_goals first | contradiction | omega | skip
  exact d7 (i' := i + 1) [] [] (by trivial)
 have hii : ¬ (i : Int) < 3 := by omega
 clear c18 hwi hP
 have sR := zIi
 have v1 := sp_Uses rulesX Z1 nRalf rulesX_len.1 rulesX_len.2
 rw [y8a] at v1
 generalize zDK rulesX Z1 nRalf = g3 at *
 have v2 := sp_Near_ok rulesX Z1 [nRalf, zAG, Y1, Z1] y8b
 rw [y8c] at v2
 have v3 := zHw [3, 1, 2] [3, 1, 2] (by decide)
 rw [decide_eq_true rfl] at v3
 simp only [y7, T1, w8, zPW, zEA, rulesX, smithsX, Rule.enc, List.map_cons, List.map_nil, List.length_cons, List.length_nil, yN1, yD1, yN2, yK2, yN3, yK3, yA4, yB4, yR4, yA6, yB6, yR6, yA7, yB7, yR7, yS9, yR9, nYN, nJan, nRalf, zN0, K9, G5, zOI, Y1, J0, Z1, zAG, zOT] at sR v1 v2 v3
 repeat' (first | (refine Qr rfl ?_; try intro _ hK; try simp only [go_sem, *]) | (refine Qi rfl rfl rfl rfl ?_ ?_ <;> (intro hb; (try intro _ hK); have hc := hb; try simp only [go_sem] at hc; simp only [go_sem, *])) | refine Qh rfl ?_ | refine Qd rfl (by kernel_rfl) ?_ | (refine Qc rfl rfl ?_ ?_ <;> (intro hb; have hc := hb; try simp only [go_sem] at hc)) | refine q8 rfl ?_ | (refine Qb ?_ ?_; focus kernel_rfl) | (refine j1 (sR) ?_; simp only [go_sem, *]) | ((with_reducible apply And.intro); focus omega) | (refine q7 hK ?_; clear hK; simp only [go_sem, *]) | simp only [q6, z8, go_sem, *])
 refine Q4 [] [0] v1 rfl (by simp only [go_sem]) (by simp) ?_ ?_ (by simp [go_sem]) (by simp [go_sem]) ?_
 ·simp only [go_sem, *]
 ·simp only [go_sem, *]
 simp only [go_sem, u6, *]
 repeat' (first | (refine Qr rfl ?_; try intro _ hK; try simp only [go_sem, *]) | (refine Qi rfl rfl rfl rfl ?_ ?_ <;> (intro hb; (try intro _ hK); have hc := hb; try simp only [go_sem] at hc; simp only [go_sem, *])) | refine Qh rfl ?_ | refine Qd rfl (by kernel_rfl) ?_ | (refine Qc rfl rfl ?_ ?_ <;> (intro hb; have hc := hb; try simp only [go_sem] at hc)) | refine q8 rfl ?_ | (refine Qb ?_ ?_; focus kernel_rfl) | (refine j1 (sR) ?_; simp only [go_sem, *]) | ((with_reducible apply And.intro); focus omega) | (refine q7 hK ?_; clear hK; simp only [go_sem, *]) | simp only [q6, z8, go_sem, *])
 refine Q4 [] [1, 2] v2 rfl (by simp only [go_sem]) (by simp) ?_ ?_ (by simp [go_sem]) (by simp [go_sem]) ?_
 ·simp only [go_sem, *]
 ·simp only [go_sem, *]
 simp only [go_sem, u6, *]
 repeat' (first | (refine Qr rfl ?_; try intro _ hK; try simp only [go_sem, *]) | (refine Qi rfl rfl rfl rfl ?_ ?_ <;> (intro hb; (try intro _ hK); have hc := hb; try simp only [go_sem] at hc; simp only [go_sem, *])) | refine Qh rfl ?_ | refine Qd rfl (by kernel_rfl) ?_ | (refine Qc rfl rfl ?_ ?_ <;> (intro hb; have hc := hb; try simp only [go_sem] at hc)) | refine q8 rfl ?_ | (refine Qb ?_ ?_; focus kernel_rfl) | ((with_reducible apply And.intro); focus omega) | (refine q7 hK ?_; clear hK; simp only [go_sem, *]) | simp only [q6, z8, go_sem, *])
 refine Q4 [] [3, 4] v3 rfl (by simp only [go_sem]) (by simp) ?_ ?_ (by simp [go_sem]) (by simp [go_sem]) ?_
 ·simp only [go_sem, *]
 ·simp only [go_sem, *]
 simp only [go_sem, u6, *]
 clear sR v1 v2 v3
 repeat' (first | ((with_reducible refine zM2 [0, 1, 1, 1, 1, 1, 1, 1, 1, 1, 1, 1, 1, 1, 1, 1, 1, 1, 1, 1, 1, 1, 1] ?_)) | (refine Qr rfl ?_; try intro _ hK; try simp only [go_sem, *]) | (refine Qi rfl rfl rfl rfl ?_ ?_ <;> (intro hb; (try intro _ hK); have hc := hb; try simp only [go_sem] at hc; simp only [go_sem, *])) | refine Qh rfl ?_ | refine Qd rfl (by kernel_rfl) ?_ | (refine Qc rfl rfl ?_ ?_ <;> (intro hb; have hc := hb; try simp only [go_sem] at hc)) | refine q8 rfl ?_ | (refine Qb ?_ ?_; focus kernel_rfl) | ((with_reducible apply And.intro); focus omega) | (refine q7 hK ?_; clear hK; simp only [go_sem, *]) | simp only [q6, z8, go_sem, *])
 all_goals try contradiction
 refine ⟨?_⟩
 refine T5 (N := 433) (env := []) (As := []) [] [] (by (simp only [Weak, go_sem, List.map_append, List.map_set, *] <;> (try simp (disch := omega) only [t6]) <;> (try simp) <;> (try omega))) ?_
 repeat' (first | ((with_reducible refine zM2 [0, 1, 1, 1, 1, 1, 1, 1, 1, 1, 1, 1, 1, 1, 1, 1, 1, 1, 1, 1, 1, 1, 1, 1] ?_)) | (refine Qr rfl ?_; try intro _ hK; try simp only [go_sem, *]) | (refine Qi rfl rfl rfl rfl ?_ ?_ <;> (intro hb; (try intro _ hK); have hc := hb; try simp only [go_sem] at hc; simp only [go_sem, *])) | refine Qh rfl ?_ | refine Qd rfl (by kernel_rfl) ?_ | (refine Qc rfl rfl ?_ ?_ <;> (intro hb; have hc := hb; try simp only [go_sem] at hc)) | refine q8 rfl ?_ | (refine Qb ?_ ?_; focus kernel_rfl) | ((with_reducible apply And.intro); focus omega) | (refine q7 hK ?_; clear hK; simp only [go_sem, *]) | simp only [q6, z8, go_sem, *])
 all_goals try contradiction
 refine ⟨?_⟩
 obtain ⟨lS9l, hS9⟩ : ∃ x, x = yS9 := ⟨_, rfl⟩
 obtain ⟨lR9l, hR9⟩ : ∃ x, x = yR9 := ⟨_, rfl⟩
 refine T5 (N := 433) (env := [(33, y7 lS9l), (34, .list (lR9l.map bV))]) (As := []) [] [0, 1] (by (rw [hS9, hR9]; simp only [yN1, yD1, yN2, yK2, yN3, yK3, yA4, yB4, yR4, yA6, yB6, yR6, yA7, yB7, yR7, yS9, yR9, nYN, nJan, nRalf, zN0, K9, G5, zOI, Y1, J0, Z1, zAG, zOT]; (simp only [Weak, go_sem, List.map_append, List.map_set, *] <;> (try simp (disch := omega) only [t6]) <;> (try simp) <;> (try omega)))) ?_
 have c23 := fun i (h : i < 3) => y_short h
 simp only [← hS9, ← hR9] at c23
 have lS9 : lS9l.length = 3 := by rw [hS9]; rfl
 have lR9 : lR9l.length = 3 := by rw [hR9]; rfl
 clear hS9 hR9
 repeat' (first | (refine Qr rfl ?_; try intro _ hK; try simp only [go_sem, *]) | (refine Qi rfl rfl rfl rfl ?_ ?_ <;> (intro hb; (try intro _ hK); have hc := hb; try simp only [go_sem] at hc; simp only [go_sem, *])) | refine Qh rfl ?_ | refine Qd rfl (by kernel_rfl) ?_ | (refine Qc rfl rfl ?_ ?_ <;> (intro hb; have hc := hb; try simp only [go_sem] at hc)) | refine q8 rfl ?_ | (refine Qb ?_ ?_; focus kernel_rfl) | ((with_reducible apply And.intro); focus omega) | (refine q7 hK ?_; clear hK; simp only [go_sem, *]) | simp only [q6, z8, go_sem, *])
 all_goals try contradiction
 refine n0 rfl (3) (fun i => NoQ i) 433 (fun i => [(35, iV i), (33, y7 lS9l), (34, .list (lR9l.map bV))]) (fun i => []) [] [] (by trivial) ?_; intro i hi hP
 have hwi : IntKind.i64.wrap ((i : Int) + 1) = ((i + 1 : Nat) : Int) := t6 (by omega)
 rcases Nat.lt_or_ge i 3 with hi | hi
 ·have hii : (i : Int) < 3 := by omega
  have t := c23 i hi
  clear c23
  generalize hx0 : lS9l.getD i default = x0 at *
  generalize hx1 : lR9l.getD i default = x1 at *
  simp only [K9] at t
  have b1 : (x1 == x1) = true := by simp
  repeat' (first | (refine Qr rfl ?_; try intro _ hK; try simp only [go_sem, *]) | (refine Qi rfl rfl rfl rfl ?_ ?_ <;> (intro hb; (try intro _ hK); have hc := hb; try simp only [go_sem] at hc; simp only [go_sem, *])) | refine Qh rfl ?_ | refine Qd rfl (by kernel_rfl) ?_ | (refine Qc rfl rfl ?_ ?_ <;> (intro hb; have hc := hb; try simp only [go_sem] at hc)) | refine q8 rfl ?_ | (refine Qb ?_ ?_; focus kernel_rfl) | (refine y5 (t) ?_; simp only [go_sem, *]) | ((with_reducible apply And.intro); focus omega) | (refine q7 hK ?_; clear hK; simp only [go_sem, *]) | simp only [q6, z8, go_sem, *])
  all_goals first | contradiction | omega | skip
  exact d7 (i' := i + 1) [] [] (by trivial)
 have hii : ¬ (i : Int) < 3 := by omega
 clear c23 hwi hP
 have sM := zIj
 have w1 := zMs [99, 100] K9 (by decide)
 rw [y10a] at w1
 generalize zNu [99, 100] K9 = g4 at *
 have w2 := zMu [115, 109, 46] smithsX y10b
 rw [y10c] at w2
 have lw3l := zMu [115, 121, 46] smithsX y10d
 rw [y10e] at lw3l
 have lw4l := zH7 smithsX 1 (by decide)
 rw [y10f, y10g] at lw4l
 have lw5l := zH7 smithsX 2 (by decide)
 rw [y10h, y10i] at lw5l
 have lw6l := zHw [0, 1, 2] [0, 1, 2] (by decide)
 rw [decide_eq_true rfl] at lw6l
 have lw7l := zHw [1] [1] (by decide)
 rw [decide_eq_true rfl] at lw7l
 simp only [y7, T1, w8, zPW, zEA, rulesX, smithsX, Rule.enc, List.map_cons, List.map_nil, List.length_cons, List.length_nil, yN1, yD1, yN2, yK2, yN3, yK3, yA4, yB4, yR4, yA6, yB6, yR6, yA7, yB7, yR7, yS9, yR9, nYN, nJan, nRalf, zN0, K9, G5, zOI, Y1, J0, Z1, zAG, zOT] at sM w1 w2 lw3l lw4l lw5l lw6l lw7l
 repeat' (first | (refine Qr rfl ?_; try intro _ hK; try simp only [go_sem, *]) | (refine Qi rfl rfl rfl rfl ?_ ?_ <;> (intro hb; (try intro _ hK); have hc := hb; try simp only [go_sem] at hc; simp only [go_sem, *])) | refine Qh rfl ?_ | refine Qd rfl (by kernel_rfl) ?_ | (refine Qc rfl rfl ?_ ?_ <;> (intro hb; have hc := hb; try simp only [go_sem] at hc)) | refine q8 rfl ?_ | (refine Qb ?_ ?_; focus kernel_rfl) | (refine x5 (w1) ?_ ?_; (focus (simp only [go_sem, *]; done)); simp only [go_sem, *]) | (refine j1 (sM) ?_; simp only [go_sem, *]) | ((with_reducible apply And.intro); focus omega) | (refine q7 hK ?_; clear hK; simp only [go_sem, *]) | simp only [q6, z8, go_sem, *])
 refine Q4 [] [0] w2 rfl (by simp only [go_sem]) (by simp) ?_ ?_ (by simp [go_sem]) (by simp [go_sem]) ?_
 ·simp only [go_sem, *]
 ·simp only [go_sem, *]
 simp only [go_sem, u6, *]
 repeat' (first | (refine Qr rfl ?_; try intro _ hK; try simp only [go_sem, *]) | (refine Qi rfl rfl rfl rfl ?_ ?_ <;> (intro hb; (try intro _ hK); have hc := hb; try simp only [go_sem] at hc; simp only [go_sem, *])) | refine Qh rfl ?_ | refine Qd rfl (by kernel_rfl) ?_ | (refine Qc rfl rfl ?_ ?_ <;> (intro hb; have hc := hb; try simp only [go_sem] at hc)) | refine q8 rfl ?_ | (refine Qb ?_ ?_; focus kernel_rfl) | (refine j1 (sM) ?_; simp only [go_sem, *]) | ((with_reducible apply And.intro); focus omega) | (refine q7 hK ?_; clear hK; simp only [go_sem, *]) | simp only [q6, z8, go_sem, *])
 refine Q4 [] [2] lw3l rfl (by simp only [go_sem]) (by simp) ?_ ?_ (by simp [go_sem]) (by simp [go_sem]) ?_
 ·simp only [go_sem, *]
 ·simp only [go_sem, *]
 simp only [go_sem, u6, *]
 repeat' (first | (refine Qr rfl ?_; try intro _ hK; try simp only [go_sem, *]) | (refine Qi rfl rfl rfl rfl ?_ ?_ <;> (intro hb; (try intro _ hK); have hc := hb; try simp only [go_sem] at hc; simp only [go_sem, *])) | refine Qh rfl ?_ | refine Qd rfl (by kernel_rfl) ?_ | (refine Qc rfl rfl ?_ ?_ <;> (intro hb; have hc := hb; try simp only [go_sem] at hc)) | refine q8 rfl ?_ | (refine Qb ?_ ?_; focus kernel_rfl) | (refine j1 (sM) ?_; simp only [go_sem, *]) | ((with_reducible apply And.intro); focus omega) | (refine q7 hK ?_; clear hK; simp only [go_sem, *]) | simp only [q6, z8, go_sem, *])
 refine Q4 [] [4] lw4l rfl (by simp only [go_sem]) (by simp) ?_ ?_ (by simp [go_sem]) (by simp [go_sem]) ?_
 ·simp only [go_sem, *]
 ·simp only [go_sem, *]
 simp only [go_sem, u6, *]
 repeat' (first | (refine Qr rfl ?_; try intro _ hK; try simp only [go_sem, *]) | (refine Qi rfl rfl rfl rfl ?_ ?_ <;> (intro hb; (try intro _ hK); have hc := hb; try simp only [go_sem] at hc; simp only [go_sem, *])) | refine Qh rfl ?_ | refine Qd rfl (by kernel_rfl) ?_ | (refine Qc rfl rfl ?_ ?_ <;> (intro hb; have hc := hb; try simp only [go_sem] at hc)) | refine q8 rfl ?_ | (refine Qb ?_ ?_; focus kernel_rfl) | (refine j1 (sM) ?_; simp only [go_sem, *]) | ((with_reducible apply And.intro); focus omega) | (refine q7 hK ?_; clear hK; simp only [go_sem, *]) | simp only [q6, z8, go_sem, *])
 refine Q4 [] [5] lw5l rfl (by simp only [go_sem]) (by simp) ?_ ?_ (by simp [go_sem]) (by simp [go_sem]) ?_
 ·simp only [go_sem, *]
 ·simp only [go_sem, *]
 simp only [go_sem, u6, *]
 repeat' (first | (refine Qr rfl ?_; try intro _ hK; try simp only [go_sem, *]) | (refine Qi rfl rfl rfl rfl ?_ ?_ <;> (intro hb; (try intro _ hK); have hc := hb; try simp only [go_sem] at hc; simp only [go_sem, *])) | refine Qh rfl ?_ | refine Qd rfl (by kernel_rfl) ?_ | (refine Qc rfl rfl ?_ ?_ <;> (intro hb; have hc := hb; try simp only [go_sem] at hc)) | refine q8 rfl ?_ | (refine Qb ?_ ?_; focus kernel_rfl) | ((with_reducible apply And.intro); focus omega) | (refine q7 hK ?_; clear hK; simp only [go_sem, *]) | simp only [q6, z8, go_sem, *])
 refine Q4 [] [1, 6] lw6l rfl (by simp only [go_sem]) (by simp) ?_ ?_ (by simp [go_sem]) (by simp [go_sem]) ?_
 ·simp only [go_sem, *]
 ·simp only [go_sem, *]
 simp only [go_sem, u6, *]
 repeat' (first | (refine Qr rfl ?_; try intro _ hK; try simp only [go_sem, *]) | (refine Qi rfl rfl rfl rfl ?_ ?_ <;> (intro hb; (try intro _ hK); have hc := hb; try simp only [go_sem] at hc; simp only [go_sem, *])) | refine Qh rfl ?_ | refine Qd rfl (by kernel_rfl) ?_ | (refine Qc rfl rfl ?_ ?_ <;> (intro hb; have hc := hb; try simp only [go_sem] at hc)) | refine q8 rfl ?_ | (refine Qb ?_ ?_; focus kernel_rfl) | ((with_reducible apply And.intro); focus omega) | (refine q7 hK ?_; clear hK; simp only [go_sem, *]) | simp only [q6, z8, go_sem, *])
 refine Q4 [] [3, 7] lw7l rfl (by simp only [go_sem]) (by simp) ?_ ?_ (by simp [go_sem]) (by simp [go_sem]) ?_
 ·simp only [go_sem, *]
 ·simp only [go_sem, *]
 simp only [go_sem, u6, *]
 clear w1 w2 lw3l lw4l lw5l lw6l lw7l
 repeat' (first | ((with_reducible refine zM2 [0, 1, 1, 1, 1, 1, 1, 1, 1, 1, 1, 1, 1, 1, 1, 1, 1, 1, 1, 1, 1, 1, 1, 1, 1, 1, 1, 1, 1, 1, 1] ?_)) | (refine Qr rfl ?_; try intro _ hK; try simp only [go_sem, *]) | (refine Qi rfl rfl rfl rfl ?_ ?_ <;> (intro hb; (try intro _ hK); have hc := hb; try simp only [go_sem] at hc; simp only [go_sem, *])) | refine Qh rfl ?_ | refine Qd rfl (by kernel_rfl) ?_ | (refine Qc rfl rfl ?_ ?_ <;> (intro hb; have hc := hb; try simp only [go_sem] at hc)) | refine q8 rfl ?_ | (refine Qb ?_ ?_; focus kernel_rfl) | ((with_reducible apply And.intro); focus omega) | (refine q7 hK ?_; clear hK; simp only [go_sem, *]) | simp only [q6, z8, go_sem, *])
 all_goals try contradiction
 refine ⟨?_⟩
 refine T5 (N := 433) (env := []) (As := []) [] [] (by (simp only [Weak, go_sem, List.map_append, List.map_set, *] <;> (try simp (disch := omega) only [t6]) <;> (try simp) <;> (try omega))) ?_
 have z1 := zH7 smithsX 3 (by decide)
 rw [y11a] at z1
 generalize N6 smithsX 3 = g5 at *
 have z2 := zH7 [K9, zN0] 0 (by decide)
 rw [y11b, y11c] at z2
 have z3 := zHy smithsX 0 5 (by decide)
 rw [y11d, y11e] at z3
 have z4 := zHy smithsX 0 3 (by decide)
 rw [y11f, y11g] at z4
 have z5 := zHy smithsX 0 2 (by decide)
 rw [y11h] at z5
 generalize zOP smithsX 0 2 = g6 at *
 simp only [y7, T1, w8, zPW, zEA, rulesX, smithsX, Rule.enc, List.map_cons, List.map_nil, List.length_cons, List.length_nil, yN1, yD1, yN2, yK2, yN3, yK3, yA4, yB4, yR4, yA6, yB6, yR6, yA7, yB7, yR7, yS9, yR9, nYN, nJan, nRalf, zN0, K9, G5, zOI, Y1, J0, Z1, zAG, zOT] at z1 z2 z3 z4 z5
 repeat' (first | (refine Qr rfl ?_; try intro _ hK; try simp only [go_sem, *]) | (refine Qi rfl rfl rfl rfl ?_ ?_ <;> (intro hb; (try intro _ hK); have hc := hb; try simp only [go_sem] at hc; simp only [go_sem, *])) | refine Qh rfl ?_ | refine Qd rfl (by kernel_rfl) ?_ | (refine Qc rfl rfl ?_ ?_ <;> (intro hb; have hc := hb; try simp only [go_sem] at hc)) | refine q8 rfl ?_ | (refine Qb ?_ ?_; focus kernel_rfl) | (refine j1 (sM) ?_; simp only [go_sem, *]) | ((with_reducible apply And.intro); focus omega) | (refine q7 hK ?_; clear hK; simp only [go_sem, *]) | simp only [q6, z8, go_sem, *])
 refine Q4 [] [0] z1 rfl (by simp only [go_sem]) (by simp) ?_ ?_ (by simp [go_sem]) (by simp [go_sem]) ?_
 ·simp only [go_sem, *]
 ·simp only [go_sem, *]
 simp only [go_sem, u6, *]
 repeat' (first | (refine Qr rfl ?_; try intro _ hK; try simp only [go_sem, *]) | (refine Qi rfl rfl rfl rfl ?_ ?_ <;> (intro hb; (try intro _ hK); have hc := hb; try simp only [go_sem] at hc; simp only [go_sem, *])) | refine Qh rfl ?_ | refine Qd rfl (by kernel_rfl) ?_ | (refine Qc rfl rfl ?_ ?_ <;> (intro hb; have hc := hb; try simp only [go_sem] at hc)) | refine q8 rfl ?_ | (refine Qb ?_ ?_; focus kernel_rfl) | ((with_reducible apply And.intro); focus omega) | (refine q7 hK ?_; clear hK; simp only [go_sem, *]) | simp only [q6, z8, go_sem, *])
 refine Q4 [] [1] z2 rfl (by simp only [go_sem]) (by simp) ?_ ?_ (by simp [go_sem]) (by simp [go_sem]) ?_
 ·simp only [go_sem, *]
 ·simp only [go_sem, *]
 simp only [go_sem, u6, *]
 repeat' (first | (refine Qr rfl ?_; try intro _ hK; try simp only [go_sem, *]) | (refine Qi rfl rfl rfl rfl ?_ ?_ <;> (intro hb; (try intro _ hK); have hc := hb; try simp only [go_sem] at hc; simp only [go_sem, *])) | refine Qh rfl ?_ | refine Qd rfl (by kernel_rfl) ?_ | (refine Qc rfl rfl ?_ ?_ <;> (intro hb; have hc := hb; try simp only [go_sem] at hc)) | refine q8 rfl ?_ | (refine Qb ?_ ?_; focus kernel_rfl) | (refine j1 (sM) ?_; simp only [go_sem, *]) | ((with_reducible apply And.intro); focus omega) | (refine q7 hK ?_; clear hK; simp only [go_sem, *]) | simp only [q6, z8, go_sem, *])
 refine Q4 [] [2] z3 rfl (by simp only [go_sem]) (by simp) ?_ ?_ (by simp [go_sem]) (by simp [go_sem]) ?_
 ·simp only [go_sem, *]
 ·simp only [go_sem, *]
 simp only [go_sem, u6, *]
 repeat' (first | (refine Qr rfl ?_; try intro _ hK; try simp only [go_sem, *]) | (refine Qi rfl rfl rfl rfl ?_ ?_ <;> (intro hb; (try intro _ hK); have hc := hb; try simp only [go_sem] at hc; simp only [go_sem, *])) | refine Qh rfl ?_ | refine Qd rfl (by kernel_rfl) ?_ | (refine Qc rfl rfl ?_ ?_ <;> (intro hb; have hc := hb; try simp only [go_sem] at hc)) | refine q8 rfl ?_ | (refine Qb ?_ ?_; focus kernel_rfl) | (refine j1 (sM) ?_; simp only [go_sem, *]) | ((with_reducible apply And.intro); focus omega) | (refine q7 hK ?_; clear hK; simp only [go_sem, *]) | simp only [q6, z8, go_sem, *])
 refine Q4 [] [3] z4 rfl (by simp only [go_sem]) (by simp) ?_ ?_ (by simp [go_sem]) (by simp [go_sem]) ?_
 ·simp only [go_sem, *]
 ·simp only [go_sem, *]
 simp only [go_sem, u6, *]
 repeat' (first | (refine Qr rfl ?_; try intro _ hK; try simp only [go_sem, *]) | (refine Qi rfl rfl rfl rfl ?_ ?_ <;> (intro hb; (try intro _ hK); have hc := hb; try simp only [go_sem] at hc; simp only [go_sem, *])) | refine Qh rfl ?_ | refine Qd rfl (by kernel_rfl) ?_ | (refine Qc rfl rfl ?_ ?_ <;> (intro hb; have hc := hb; try simp only [go_sem] at hc)) | refine q8 rfl ?_ | (refine Qb ?_ ?_; focus kernel_rfl) | (refine j1 (sM) ?_; simp only [go_sem, *]) | ((with_reducible apply And.intro); focus omega) | (refine q7 hK ?_; clear hK; simp only [go_sem, *]) | simp only [q6, z8, go_sem, *])
 refine Q4 [] [4] z5 rfl (by simp only [go_sem]) (by simp) ?_ ?_ (by simp [go_sem]) (by simp [go_sem]) ?_
 ·simp only [go_sem, *]
 ·simp only [go_sem, *]
 simp only [go_sem, u6, *]
 repeat' (first | (refine Qr rfl ?_; try intro _ hK; try simp only [go_sem, *]) | (refine Qi rfl rfl rfl rfl ?_ ?_ <;> (intro hb; (try intro _ hK); have hc := hb; try simp only [go_sem] at hc; simp only [go_sem, *])) | refine Qh rfl ?_ | refine Qd rfl (by kernel_rfl) ?_ | (refine Qc rfl rfl ?_ ?_ <;> (intro hb; have hc := hb; try simp only [go_sem] at hc)) | refine q8 rfl ?_ | (refine Qb ?_ ?_; focus kernel_rfl) | ((with_reducible apply And.intro); focus omega) | (refine q7 hK ?_; clear hK; simp only [go_sem, *]) | simp only [q6, z8, go_sem, *])
 all_goals try contradiction
 (refine ⟨[_], [], [], ⟨rfl, trivial⟩, ?_⟩; simp only [go_sem, *])
end Go.Abs

