/-
  WHAT THE PROOF STANDS ON, PART 3: contracts of the program's functions and the logic that they are proved in. No condition.
-/
import Derived.Maps.Keyed
import Derived.DeepKeys3
import Derived.Test.YtmhleaopjcfjnaaGreatQ2
set_option linter.unusedVariables false
set_option linter.unusedSimpArgs false
set_option linter.unusedSectionVars false
namespace Go.Abs
open Go
theorem oddB_iff (x : Plate) : oddB x = true ↔ x.number % 2 = 1 := by simp [oddB]
theorem oddB_eq (x y : Plate) : (oddB x == oddB y) = true ↔ x.number % 2 = y.number % 2 := by
 rw [beq_iff_eq, Bool.eq_iff_iff, oddB_iff, oddB_iff]; omega
theorem own_ok {p : Plan} {c : Change} {x : Plate} (hx : x ∈ rowAt p c.street) (j : Nat) :
  let o := (rowAt p c.street).filter (fun y => oddB y == oddB x)
  o.getD (o.length - 1 - j) default ∈ rowAt p c.street ∧ (o.getD (o.length - 1 - j) default).number % 2 = x.number % 2 := by
 intro o
 have hm := mem_own hx
 have hpos : 0 < o.length := List.length_pos_of_mem hm
 have := getD_mem (l := o) (i := o.length - 1 - j) (by omega)
 obtain ⟨h1, h2⟩ := List.mem_filter.1 this
 exact ⟨h1, (oddB_eq _ _).1 h2⟩
theorem idxP_of {l : List Plate} {x : Plate} (h : x ∈ l) : idxP l x = (l.idxOf x : Nat) := by simp [idxP, h]
theorem sorted_lt_idx {l : List Plate} (hs : l.Pairwise (fun x y => x.lt y = true)) {x y : Plate} (hx : x ∈ l) (hy : y ∈ l) : x.lt y = true ↔ l.idxOf x < l.idxOf y := by
 have key : ∀ {a b : Plate}, a ∈ l → b ∈ l → l.idxOf a < l.idxOf b → a.lt b = true := fun {a b} ha hb h => by
  have := (List.pairwise_iff_getElem.1 hs) _ _ (idx_lt ha) (idx_lt hb) h
  rwa [idx_get ha, idx_get hb] at this
 constructor
 ·intro h
  rcases Nat.lt_trichotomy (l.idxOf x) (l.idxOf y) with h' | h' | h'
  ·exact h'
  ·exact absurd h (by rw [idx_inj hx hy h']; exact Plate.lt_irrefl _)
  ·exact absurd (Plate.lt_trans h (key hy hx h')) (Plate.lt_irrefl _)
 ·exact key hx hy
theorem kinds {k : Int} (h : 1 ≤ k ∧ k ≤ 7) : k = 1 ∨ k = 2 ∨ k = 3 ∨ k = 4 ∨ k = 5 ∨ k = 6 ∨ k = 7 := by omega
theorem toP_in {p : Plan} {c : Change} (v : Valid p) (f : Fit p c) {x : Plate} (hx : x ∈ rowAt p c.street) {z : House} (hz : z ∈ toP p c x) :
  (z.street = c.street ∨ ((c.kind = 4 ∨ c.kind = 7) ∧ z.street = c.other)) ∧ z.plate.ok = true := by
 have hs := v.row c.street
 have hxo := (ok_iff x).1 (hs.ok x hx)
 rcases kinds f.kind with h | h | h | h | h | h | h
 ·rw [to_turn h] at hz
  simp only [List.mem_cons, List.not_mem_nil, or_false] at hz
  subst hz
  exact ⟨.inl rfl, hs.ok _ (own_ok hx _).1⟩
 ·rw [to_swap h] at hz
  simp only [List.mem_cons, List.not_mem_nil, or_false] at hz
  subst hz
  refine ⟨.inl rfl, (ok_iff _).2 ?_⟩
  simp only
  split
  ·rename_i ho; rw [oddB_iff] at ho; omega
  ·rename_i ho; rw [oddB_iff] at ho; omega
 ·rw [to_count h] at hz
  simp only [List.mem_cons, List.not_mem_nil, or_false] at hz
  subst hz
  refine ⟨.inl rfl, (ok_iff _).2 ?_⟩
  have h1 := idx_lt (mem_own hx)
  have h2 := List.length_filter_le (fun y => oddB y == oddB x) (rowAt p c.street)
  have h3 := hs.len
  simp only
  omega
 ·rw [to_join h] at hz
  simp only [List.mem_cons, List.not_mem_nil, or_false] at hz
  subst hz
  refine ⟨.inr ⟨.inl h, rfl⟩, (ok_iff _).2 ?_⟩
  have h1 := (fits_join h f.fits).2 x hx
  have h2 := base_nonneg (rowAt p c.other)
  simp only
  omega
 ·rw [to_divide h] at hz
  split at hz
  ·rename_i e
   simp only [List.mem_cons, List.not_mem_nil, or_false] at hz
   rcases hz with rfl | rfl
   ·exact ⟨.inl rfl, hs.ok x hx⟩
   ·subst e
    have := letter_spec (fits_divide h f.fits).2.2
    exact ⟨.inl rfl, (ok_iff _).2 (by simp only; omega)⟩
  ·simp only [List.mem_cons, List.not_mem_nil, or_false] at hz
   subst hz
   exact ⟨.inl rfl, hs.ok x hx⟩
 ·rw [to_fell h] at hz
  split at hz
  ·simp at hz
  ·simp only [List.mem_cons, List.not_mem_nil, or_false] at hz
   subst hz
   exact ⟨.inl rfl, hs.ok x hx⟩
 ·rw [to_court h] at hz
  obtain ⟨g1, g2, g3, g4⟩ := fits_court h f.fits
  split at hz
  ·rename_i e
   simp only [List.mem_cons, List.not_mem_nil, or_false] at hz
   subst hz
   refine ⟨.inr ⟨.inr h, rfl⟩, (ok_iff _).2 ?_⟩
   rw [idxP_of hx, idxP_of g1]
   have h1 := idx_lt hx
   have h3 := hs.len
   have h4 : ¬ (rowAt p c.street).idxOf x < (rowAt p c.street).idxOf c.src := fun hlt => by
    have := (sorted_lt_idx hs.sorted hx g1).2 hlt
    rw [this] at e; exact absurd e.1 (by simp)
   simp only
   omega
  ·simp only [List.mem_cons, List.not_mem_nil, or_false] at hz
   subst hz
   exact ⟨.inl rfl, hs.ok x hx⟩
theorem mv_in {p : Plan} {c : Change} (v : Valid p) (f : Fit p c) {h : House} (hh : h ∈ housesOf p) {z : House} (hz : z ∈ mv p c h) : 0 ≤ z.street ∧ z.street < p.length ∧ z.plate.ok = true := by
 obtain ⟨h0, h1, h2⟩ := mem_houses.1 hh
 unfold mv at hz
 split at hz
 ·rename_i e
  rw [e] at h2
  obtain ⟨g1, g2⟩ := toP_in v f h2 hz
  have := f.street
  rcases g1 with g | ⟨g, g'⟩
  ·exact ⟨by omega, by omega, g2⟩
  ·have := f.other g; exact ⟨by omega, by omega, g2⟩
 ·simp only [List.mem_cons, List.not_mem_nil, or_false] at hz
  subst hz
  exact ⟨h0, h1, (v.row z.street).ok _ h2⟩
theorem toP_inj {p : Plan} {c : Change} (v : Valid p) (f : Fit p c) {x y : Plate} (hx : x ∈ rowAt p c.street) (hy : y ∈ rowAt p c.street) {z : House} (hzx : z ∈ toP p c x) (hzy : z ∈ toP p c y) : x = y := by
 have hs := v.row c.street
 rcases kinds f.kind with h | h | h | h | h | h | h
 ·rw [to_turn h] at hzx hzy
  simp only [List.mem_cons, List.not_mem_nil, or_false] at hzx hzy
  have px := (own_ok hx ((((rowAt p c.street).filter (fun y => oddB y == oddB x))).idxOf x)).2
  have py := (own_ok hy ((((rowAt p c.street).filter (fun z => oddB z == oddB y))).idxOf y)).2
  have e := hzx.symm.trans hzy
  have e2 := congrArg (fun h : House => h.plate) e
  simp only at e2 px py
  have hpar : x.number % 2 = y.number % 2 := by rw [← px, ← py, e2]
  have hob : oddB x = oddB y := by have := (oddB_eq x y).2 hpar; simpa using this
  rw [← hob] at e2
  have hmx := mem_own hx
  have hmy : y ∈ (rowAt p c.street).filter (fun z => oddB z == oddB x) := by rw [hob]; exact mem_own hy
  have hnd : ((rowAt p c.street).filter (fun z => oddB z == oddB x)).Nodup := hs.nodup.filter _
  revert e2 hmx hmy hnd
  generalize (rowAt p c.street).filter (fun z => oddB z == oddB x) = o
  intro e2 hmx hmy hnd
  have hlx := idx_lt hmx
  have hly := idx_lt hmy
  simp only [List.getD_eq_getElem?_getD] at e2
  rw [List.getElem?_eq_getElem (by omega), List.getElem?_eq_getElem (by omega)] at e2
  simp only [Option.getD_some] at e2
  have := (nodup_inj hnd).1 e2
  exact idx_inj hmx hmy (by omega)
 ·rw [to_swap h] at hzx hzy
  simp only [List.mem_cons, List.not_mem_nil, or_false] at hzx hzy
  have e := hzx.symm.trans hzy
  rw [House.eq_iff] at e
  rw [Plate.eq_iff]
  simp only at e
  have := oddB_iff x; have := oddB_iff y
  split at e <;> split at e <;> simp_all <;> omega
 ·rw [to_count h] at hzx hzy
  simp only [List.mem_cons, List.not_mem_nil, or_false] at hzx hzy
  have e := hzx.symm.trans hzy
  rw [House.eq_iff] at e
  simp only at e
  have hpar : x.number % 2 = y.number % 2 := by omega
  have hob : oddB x = oddB y := by have := (oddB_eq x y).2 hpar; simpa using this
  rw [← hob] at e
  have hmy : y ∈ (rowAt p c.street).filter (fun z => oddB z == oddB x) := by rw [hob]; exact mem_own hy
  exact idx_inj (mem_own hx) hmy (by omega)
 ·rw [to_join h] at hzx hzy
  simp only [List.mem_cons, List.not_mem_nil, or_false] at hzx hzy
  have e := hzx.symm.trans hzy
  rw [House.eq_iff] at e
  rw [Plate.eq_iff]
  simp only at e
  omega
 ·rw [to_divide h] at hzx hzy
  have hl := letter_spec (fits_divide h f.fits).2.2
  have hsrc := (fits_divide h f.fits).1
  split at hzx <;> split at hzy
  ·simp_all
  ·rename_i e1 e2
   simp only [List.mem_cons, List.not_mem_nil, or_false] at hzx hzy
   subst hzy
   rcases hzx with e | e
   ·exact ((House.mk.injEq ..).mp e).2.symm
   ·have := ((House.mk.injEq ..).mp e).2
    rw [e1] at this
    exact absurd (this ▸ hy) hl.2.2
  ·rename_i e1 e2
   simp only [List.mem_cons, List.not_mem_nil, or_false] at hzx hzy
   subst hzx
   rcases hzy with e | e
   ·exact ((House.mk.injEq ..).mp e).2
   ·have := ((House.mk.injEq ..).mp e).2
    rw [e2] at this
    exact absurd (this ▸ hx) hl.2.2
  ·simp only [List.mem_cons, List.not_mem_nil, or_false] at hzx hzy
   have e := hzx.symm.trans hzy
   exact ((House.mk.injEq ..).mp e).2
 ·rw [to_fell h] at hzx hzy
  split at hzx <;> split at hzy <;> simp_all
 ·rw [to_court h] at hzx hzy
  have hne := (f.other (.inr h)).2.2
  obtain ⟨g1, _⟩ := fits_court h f.fits
  split at hzx <;> split at hzy <;> simp only [List.mem_cons, List.not_mem_nil, or_false] at hzx hzy
  ·have e := hzx.symm.trans hzy
   rw [House.eq_iff] at e
   simp only at e
   rw [idxP_of hx, idxP_of hy] at e
   exact idx_inj hx hy (by omega)
  ·have e := hzx.symm.trans hzy
   exact absurd ((House.mk.injEq ..).mp e).1 hne
  ·have e := hzy.symm.trans hzx
   exact absurd ((House.mk.injEq ..).mp e).1 hne
  ·have e := hzx.symm.trans hzy
   exact ((House.mk.injEq ..).mp e).2
theorem toP_apart {p : Plan} {c : Change} (v : Valid p) (f : Fit p c) {x : Plate} (hx : x ∈ rowAt p c.street) {z : House} (hz : z ∈ toP p c x) (hne : z.street ≠ c.street) : z ∉ housesOf p := by
 intro hm
 obtain ⟨_, _, hm⟩ := mem_houses.1 hm
 obtain ⟨h1, _⟩ := toP_in v f hx hz
 rcases h1 with h1 | ⟨hk, h1⟩
 ·exact hne h1
 rw [h1] at hm
 rcases hk with h | h
 ·rw [to_join h] at hz
  simp only [List.mem_cons, List.not_mem_nil, or_false] at hz
  subst hz
  have := base_ge hm
  have := (ok_iff x).1 ((v.row c.street).ok x hx)
  simp only at *
  omega
 ·rw [(fits_court h f.fits).2.2.2] at hm
  simp at hm
theorem mv_inj {p : Plan} {c : Change} (v : Valid p) (f : Fit p c) {a b : House} (ha : a ∈ housesOf p) (hb : b ∈ housesOf p) {z : House} (hza : z ∈ mv p c a) (hzb : z ∈ mv p c b) : a = b := by
 have ha' := mem_houses.1 ha
 have hb' := mem_houses.1 hb
 unfold mv at hza hzb
 split at hza <;> split at hzb
 ·rename_i e1 e2
  rw [e1] at ha'; rw [e2] at hb'
  have := toP_inj v f ha'.2.2 hb'.2.2 hza hzb
  cases a; cases b; simp_all
 ·rename_i e1 e2
  rw [e1] at ha'
  simp only [List.mem_cons, List.not_mem_nil, or_false] at hzb
  subst hzb
  exact absurd hb (toP_apart v f ha'.2.2 hza e2)
 ·rename_i e1 e2
  rw [e2] at hb'
  simp only [List.mem_cons, List.not_mem_nil, or_false] at hza
  subst hza
  exact absurd ha (toP_apart v f hb'.2.2 hzb e1)
 ·simp only [List.mem_cons, List.not_mem_nil, or_false] at hza hzb
  exact hza.symm.trans hzb
theorem mv_nodup {p : Plan} {c : Change} (f : Fit p c) {h : House} (hh : h ∈ housesOf p) : (mv p c h).Nodup := by
 obtain ⟨_, _, hm⟩ := mem_houses.1 hh
 unfold mv
 split
 ·rename_i e
  rw [e] at hm
  rcases kinds f.kind with k | k | k | k | k | k | k
  ·rw [to_turn k]; simp
  ·rw [to_swap k]; simp
  ·rw [to_count k]; simp
  ·rw [to_join k]; simp
  ·rw [to_divide k]
   split
   ·rename_i e
    have := letter_spec (fits_divide k f.fits).2.2
    rw [← e] at this
    have hne : h.plate ≠ ⟨h.plate.number, letter (rowAt p c.street) h.plate.number⟩ := fun e => this.2.2 (e ▸ hm)
    simpa using hne
   ·simp
  ·rw [to_fell k]; split <;> simp
  ·rw [to_court k]; split <;> simp
 ·simp
theorem nodup_flatMap {α β : Type} {f : α → List β} : ∀ {l : List α}, l.Nodup → (∀ a, a ∈ l → (f a).Nodup) → (∀ a b, a ∈ l → b ∈ l → ∀ z, z ∈ f a → z ∈ f b → a = b) → (l.flatMap f).Nodup
 | [], _, _, _ => by simp
 | x :: r, hn, h1, h2 => by
  obtain ⟨hx, hr⟩ := List.nodup_cons.1 hn
  rw [List.flatMap_cons, List.nodup_append]
  refine ⟨h1 x (by simp), nodup_flatMap hr (fun a ha => h1 a (by simp [ha])) (fun a b ha hb => h2 a b (by simp [ha]) (by simp [hb])), fun a ha b hb e => ?_⟩
  subst e
  obtain ⟨y, hy, hay⟩ := List.mem_flatMap.1 hb
  exact hx (h2 x y (by simp) (by simp [hy]) a ha hay ▸ hy)
theorem flatMv_nodup {p : Plan} {c : Change} (v : Valid p) (f : Fit p c) : (flatMv p c).Nodup :=
 nodup_flatMap (strict_houses v).nodup (fun _ ha => mv_nodup f ha) (fun _ _ ha hb _ hza hzb => mv_inj v f ha hb hza hzb)
theorem mem_flatMv {p : Plan} {c : Change} {z : House} : z ∈ flatMv p c ↔ ∃ h, h ∈ housesOf p ∧ z ∈ mv p c h := by simp [flatMv, List.mem_flatMap]
theorem flatMv_in {p : Plan} {c : Change} (v : Valid p) (f : Fit p c) {z : House} (hz : z ∈ flatMv p c) : 0 ≤ z.street ∧ z.street < p.length ∧ z.plate.ok = true := by
 obtain ⟨h, hh, hz⟩ := mem_flatMv.1 hz
 exact mv_in v f hh hz
theorem houses_after {p : Plan} {c : Change} (v : Valid p) (f : Fit p c) : housesOf (afterOf p c) = sortH (flatMv p c) := houses_laid (fun z hz => ⟨(flatMv_in v f hz).1, (flatMv_in v f hz).2.1⟩)
theorem flatMap_len_le {α β : Type} [DecidableEq α] {f : α → List β} (a : α) : ∀ {l : List α}, l.Nodup → (∀ x, x ∈ l → x ≠ a → (f x).length ≤ 1) → (a ∈ l → (f a).length ≤ 2) → (l.flatMap f).length ≤ l.length + 1 ∧ (a ∉ l → (l.flatMap f).length ≤ l.length)
 | [], _, _, _ => by simp
 | x :: r, hn, h1, h2 => by
  obtain ⟨hx, hr⟩ := List.nodup_cons.1 hn
  obtain ⟨i1, i2⟩ := flatMap_len_le a (l := r) hr (fun y hy => h1 y (by simp [hy])) (fun ha => h2 (by simp [ha]))
  simp only [List.flatMap_cons, List.length_append, List.length_cons]
  by_cases e : x = a
  ·subst e
   have := h2 (by simp); have := i2 hx
   exact ⟨by omega, fun hn => absurd (by simp) hn⟩
  ·have := h1 x (by simp) e
   refine ⟨by omega, fun hn => ?_⟩
   have := i2 (fun h => hn (by simp [h]))
   omega
theorem after_row_len {p : Plan} {c : Change} (v : Valid p) (f : Fit p c) {s : Int} (h0 : 0 ≤ s) (h1 : s < p.length) : (rowAt (afterOf p c) s).length ≤ 8 := by
  have hlen : ∀ s, (rowAt p s).length ≤ 8 := fun s => (v.row s).len
  have hnd : (rowAt (afterOf p c) s).Nodup := (sorted_laid_row (l := flatMv p c) (n := p.length) h0 h1).imp (fun {a b} hab e => by subst e; exact Plate.lt_irrefl _ hab)
  have hmem : ∀ x, x ∈ rowAt (afterOf p c) s → (s ≠ c.street ∧ x ∈ rowAt p s) ∨ ∃ y, y ∈ rowAt p c.street ∧ (⟨s, x⟩ : House) ∈ toP p c y := fun x hx => by
    rw [afterOf, mem_laid_row h0 h1, mem_flatMv] at hx
    obtain ⟨h, hh, hz⟩ := hx
    obtain ⟨_, _, hm⟩ := mem_houses.1 hh
    unfold mv at hz
    split at hz
    · rename_i e; rw [e] at hm; exact .inr ⟨_, hm, hz⟩
    · rename_i e
      simp only [List.mem_cons, List.not_mem_nil, or_false] at hz
      subst hz
      exact .inl ⟨e, hm⟩
  have one : ∀ {x : Plate}, c.kind ≠ 5 → x ∈ rowAt p c.street → (toP p c x).length ≤ 1 := fun {x} hk hx => by
    rcases kinds f.kind with k | k | k | k | k | k | k
    · rw [to_turn k]; simp
    · rw [to_swap k]; simp
    · rw [to_count k]; simp
    · rw [to_join k]; simp
    · exact absurd k hk
    · rw [to_fell k]; split <;> simp
    · rw [to_court k]; split <;> simp
  have total : ((rowAt p c.street).flatMap (toP p c)).length ≤ 8 ∧ (c.kind ≠ 5 → ((rowAt p c.street).flatMap (toP p c)).length ≤ (rowAt p c.street).length) := by
    by_cases hk : c.kind = 5
    · have hf := fits_divide hk f.fits
      have := (flatMap_len_le (f := toP p c) c.src (v.row c.street).nodup (fun x hx hne => by rw [to_divide hk, if_neg hne]; simp) (fun _ => by rw [to_divide hk]; simp)).1
      have := hlen c.street
      exact ⟨by omega, fun h => absurd hk h⟩
    · have key : ∀ l : List Plate, (∀ x, x ∈ l → x ∈ rowAt p c.street) → (l.flatMap (toP p c)).length ≤ l.length := by
        intro l
        induction l with
        | nil => simp
        | cons y r ih =>
          intro hl
          have h1 := one hk (hl y (by simp))
          have h2 := ih (fun x hx => hl x (by simp [hx]))
          simp only [List.flatMap_cons, List.length_append, List.length_cons]; omega
      have := key _ (fun _ h => h)
      have := hlen c.street
      exact ⟨by omega, fun _ => by omega⟩
  by_cases hs : s = c.street
  · refine Nat.le_trans ?_ total.1
    rw [show ((rowAt p c.street).flatMap (toP p c)).length = (((rowAt p c.street).flatMap (toP p c)).map House.plate).length by rw [List.length_map]]
    refine nodup_len hnd (fun x hx => ?_)
    rcases hmem x hx with ⟨h, _⟩ | ⟨y, hy, hz⟩
    · exact absurd hs h
    · exact List.mem_map.2 ⟨_, List.mem_flatMap.2 ⟨y, hy, hz⟩, rfl⟩
  · by_cases hk : (c.kind = 4 ∨ c.kind = 7) ∧ s = c.other
    · obtain ⟨hk, rfl⟩ := hk
      have hb : (rowAt p c.other).length + (rowAt p c.street).length ≤ 8 := by
        rcases hk with k | k
        · have := (fits_join k f.fits).1; omega
        · rw [(fits_court k f.fits).2.2.2]; have := hlen c.street; simpa using this
      have := total.2 (by omega)
      refine Nat.le_trans ?_ (show (rowAt p c.other ++ ((rowAt p c.street).flatMap (toP p c)).map House.plate).length ≤ 8 by simp only [List.length_append, List.length_map]; omega)
      refine nodup_len hnd (fun x hx => ?_)
      rcases hmem x hx with ⟨_, h⟩ | ⟨y, hy, hz⟩
      · exact List.mem_append.2 (.inl h)
      · exact List.mem_append.2 (.inr (List.mem_map.2 ⟨_, List.mem_flatMap.2 ⟨y, hy, hz⟩, rfl⟩))
    · refine Nat.le_trans ?_ (hlen s)
      refine nodup_len hnd (fun x hx => ?_)
      rcases hmem x hx with ⟨_, h⟩ | ⟨y, hy, hz⟩
      · exact h
      · rcases (toP_in v f hy hz).1 with h | h
        · exact absurd h hs
        · exact absurd h hk
theorem valid_after {p : Plan} {c : Change} (v : Valid p) (f : Fit p c) : Valid (afterOf p c) := by
 have hl : (afterOf p c).length = p.length := laid_length _ _
 refine ⟨by rw [hl]; exact v.ne, by rw [hl]; exact v.len, fun l hm => ?_⟩
 obtain ⟨s, h0, h1, rfl⟩ := mem_rowAt hm
 rw [hl] at h1
 refine ⟨after_row_len v f h0 h1, fun x hx => ?_, sorted_laid_row h0 h1⟩
 exact (flatMv_in v f ((mem_laid_row h0 h1).1 hx)).2.2
end Go.Abs

namespace Go.Abs
open Go
attribute [go_sem] bne_eq_false_iff_eq Bool.not_eq_true' Bool.not_eq_false'
@[go_sem] theorem natCast_pos' (n : Nat) : ((0 : Int) < (n : Int)) = (0 < n) := by simp
@[go_sem] theorem natCast_le0 (n : Nat) : ((n : Int) ≤ 0) = (n ≤ 0) := by simp
@[go_sem] theorem plate_beq (a b : Plate) : (a.number == b.number && a.letter == b.letter) = decide (a = b) := by
 rw [Bool.eq_iff_iff]; simp [Plate.eq_iff]
@[go_sem] theorem house_beq (a b : House) : (a.street == b.street && a.plate.number == b.plate.number && a.plate.letter == b.plate.letter) = decide (a = b) := by
 rw [Bool.eq_iff_iff]; simp [House.eq_iff, and_assoc]
theorem Change.eq_iff (a b : Change) : a = b ↔ a.kind = b.kind ∧ a.street = b.street ∧ a.other = b.other ∧ a.src = b.src ∧ a.dst = b.dst := by cases a; cases b; simp
@[go_sem] theorem change_beq (a b : Change) : (a.kind == b.kind && a.street == b.street && a.other == b.other && a.src.number == b.src.number && a.src.letter == b.src.letter && a.dst.number == b.dst.number && a.dst.letter == b.dst.letter) = decide (a = b) := by
 rw [Bool.eq_iff_iff]; simp [Change.eq_iff, Plate.eq_iff, and_assoc]
theorem call_s {P : Program} {f : FuncId} {avs : List AV} {H : Nat → AObj} {nx : Nat} {K : Cont} {r : AV} (sp : Spec P f avs [] r []) (h : XpL H [] [] avs avs) (hk : K (r.ren (backId [] nx)) [] []) : callA P f avs H nx K :=
 call_of [] [] sp (by simp) h trivial (by simp) (.inl rfl) (fun j hj => by simp at hj) (fun A hA => by simp at hA) hk
theorem call_x (ex : List Nat) {P : Program} {f : FuncId} {avs : List AV} {H : Nat → AObj} {nx : Nat} {K : Cont} {args : List AV} {r : AV} (sp : Spec P f args [] r []) (h : XpL H [] ex args avs) (hs : Scal r) (hk : K (r.ren (backId [] nx)) ex []) : callA P f avs H nx K :=
 call_of [] ex sp (by simp) h trivial (by simp) (.inr ⟨hs, fun A hA => by simp at hA⟩) (fun j hj => by simp at hj) (fun A hA => by simp at hA) (by simpa [newIds, backObjs, numO] using hk)
theorem bool_eq {a b : Bool} (h : a = true ↔ b = true) : Value.bool a = Value.bool b := by rw [Bool.eq_iff_iff.2 h]
theorem int_eq {k : IntKind} {a b : Int} (h : a = b) : Value.int k a = Value.int k b := by rw [h]
end Go.Abs

namespace Go.Abs
open Go Go.Proofs
set_option maxRecDepth 10000
theorem sp_between (n a b : Int) : Spec Tryz.prog 128 [iV n, iV a, iV b] [] (bV (betw n a b)) [] := by
 refine spec_body Tryz.func128 rfl (fun E hE => ?_); simp only [go_sem, Tryz.ntmps128]
 repeat' (first | (with_reducible (show runOps ..); first | (refine Qr rfl ?_; try intro K' hK; try simp only [go_sem, *]) | (refine Qi rfl rfl rfl rfl (fun hb K' hK => ?_) (fun hb => ?_) <;> (have hc := hb; try simp only [go_sem] at hc; simp only [go_sem, *]))) | (with_reducible (show Hold ..); first | refine Qh rfl ?_ | (refine s_cond rfl ⟨_, rfl, fun hb => ?_, fun hb => ?_⟩ <;> (have hc := hb; try simp only [go_sem] at hc)) | refine s_ret rfl ?_) | ((with_reducible refine Qb ?_ ?_); focus kernel_rfl) | ((with_reducible refine And.intro ?_ ?_); focus omega) | (refine contA_of hK ?_; clear hK K'; simp only [go_sem, *]) | (simp only [thenA, inBlockA, go_sem, *]))
 all_goals (refine ⟨[_], [], [], ⟨rfl, trivial⟩, ?_⟩; simp only [go_sem, *])
 all_goals (refine bool_eq ?_; simp [betw] at *; omega)
theorem sp_within (n a b : Int) : Spec Tryz.prog 114 [iV n, iV a, iV b] [] (bV (betw n a b)) [] := by
 refine spec_body Tryz.func114 rfl (fun E hE => ?_); simp only [go_sem, Tryz.ntmps114]
 repeat' (first | (with_reducible (show runOps ..); first | (refine Qr rfl ?_; try intro K' hK; try simp only [go_sem, *]) | (refine Qi rfl rfl rfl rfl (fun hb K' hK => ?_) (fun hb => ?_) <;> (have hc := hb; try simp only [go_sem] at hc; simp only [go_sem, *]))) | (with_reducible (show Hold ..); first | refine Qh rfl ?_ | (refine s_cond rfl ⟨_, rfl, fun hb => ?_, fun hb => ?_⟩ <;> (have hc := hb; try simp only [go_sem] at hc)) | refine s_ret rfl ?_) | ((with_reducible refine Qb ?_ ?_); focus kernel_rfl) | ((with_reducible refine And.intro ?_ ?_); focus omega) | (refine contA_of hK ?_; clear hK K'; simp only [go_sem, *]) | (simp only [thenA, inBlockA, go_sem, *]))
 all_goals (refine ⟨[_], [], [], ⟨rfl, trivial⟩, ?_⟩; simp only [go_sem, *])
 all_goals (refine bool_eq ?_; simp [betw] at *; omega)
theorem sp_validPlate (x : Plate) : Spec Tryz.prog 92 [x.enc] [] (bV x.ok) [] := by
 refine spec_body Tryz.func92 rfl (fun E hE => ?_); simp only [go_sem, Tryz.ntmps92]
 repeat' (first | (with_reducible (show runOps ..); first | (refine Qr rfl ?_; try intro K' hK; try simp only [go_sem, *]) | (refine Qi rfl rfl rfl rfl (fun hb K' hK => ?_) (fun hb => ?_) <;> (have hc := hb; try simp only [go_sem] at hc; simp only [go_sem, *]))) | (with_reducible (show Hold ..); first | refine Qh rfl ?_ | (refine s_cond rfl ⟨_, rfl, fun hb => ?_, fun hb => ?_⟩ <;> (have hc := hb; try simp only [go_sem] at hc)) | refine s_ret rfl ?_) | (with_reducible (show callA ..); first | (refine call_s (sp_between _ _ _) ?_ ?_; (focus (simp only [go_sem, *]; done)); simp only [go_sem, *])) | ((with_reducible refine Qb ?_ ?_); focus kernel_rfl) | ((with_reducible refine And.intro ?_ ?_); focus omega) | (refine contA_of hK ?_; clear hK K'; simp only [go_sem, *]) | (simp only [thenA, inBlockA, go_sem, *]))
 all_goals (refine ⟨[_], [], [], ⟨rfl, trivial⟩, ?_⟩; simp only [go_sem, *])
 all_goals simp_all [Plate.ok]
theorem sp_Plated (x : Plate) : Spec Tryz.prog 59 [x.enc] [] (bV x.ok) [] := by
 refine spec_body Tryz.func59 rfl (fun E hE => ?_); simp only [go_sem, Tryz.ntmps59]
 repeat' (first | (with_reducible (show runOps ..); first | (refine Qr rfl ?_; try intro K' hK; try simp only [go_sem, *]) | (refine Qi rfl rfl rfl rfl (fun hb K' hK => ?_) (fun hb => ?_) <;> (have hc := hb; try simp only [go_sem] at hc; simp only [go_sem, *]))) | (with_reducible (show Hold ..); first | refine Qh rfl ?_ | (refine s_cond rfl ⟨_, rfl, fun hb => ?_, fun hb => ?_⟩ <;> (have hc := hb; try simp only [go_sem] at hc)) | refine s_ret rfl ?_) | (with_reducible (show callA ..); first | (refine call_s (sp_within _ _ _) ?_ ?_; (focus (simp only [go_sem, *]; done)); simp only [go_sem, *])) | ((with_reducible refine Qb ?_ ?_); focus kernel_rfl) | ((with_reducible refine And.intro ?_ ?_); focus omega) | (refine contA_of hK ?_; clear hK K'; simp only [go_sem, *]) | (simp only [thenA, inBlockA, go_sem, *]))
 all_goals (refine ⟨[_], [], [], ⟨rfl, trivial⟩, ?_⟩; simp only [go_sem, *])
 all_goals simp_all [Plate.ok]
theorem sp_isNaN (n : Int) : Spec Tryz.prog 155 [iV n] [] (bV false) [] := by
 refine spec_body Tryz.func155 rfl (fun E hE => ?_); simp only [go_sem, Tryz.ntmps155]
 repeat' (first | (with_reducible (show runOps ..); first | (refine Qr rfl ?_; try intro K' hK; try simp only [go_sem, *])) | (with_reducible (show Hold ..); first | refine Qh rfl ?_ | (refine s_cond rfl ⟨_, rfl, fun hb => ?_, fun hb => ?_⟩ <;> (have hc := hb; try simp only [go_sem] at hc)) | refine s_ret rfl ?_) | ((with_reducible refine Qb ?_ ?_); focus kernel_rfl) | ((with_reducible refine And.intro ?_ ?_); focus omega) | (refine contA_of hK ?_; clear hK K'; simp only [go_sem, *]) | (simp only [thenA, inBlockA, go_sem, *]))
 all_goals (refine ⟨[_], [], [], ⟨rfl, trivial⟩, ?_⟩; simp only [go_sem, *])
 all_goals simp_all
theorem sp_Compare (a b : Int) : Spec Tryz.prog 130 [iV a, iV b] [] (iV (cmpN a b)) [] := by
 refine spec_body Tryz.func130 rfl (fun E hE => ?_); simp only [go_sem, Tryz.ntmps130]
 repeat' (first | (with_reducible (show runOps ..); first | (refine Qr rfl ?_; try intro K' hK; try simp only [go_sem, *])) | (with_reducible (show Hold ..); first | refine Qh rfl ?_ | (refine s_cond rfl ⟨_, rfl, fun hb => ?_, fun hb => ?_⟩ <;> (have hc := hb; try simp only [go_sem] at hc)) | refine s_ret rfl ?_) | (with_reducible (show callA ..); first | (refine call_s (sp_isNaN _) ?_ ?_; (focus (simp only [go_sem, *]; done)); simp only [go_sem, *])) | ((with_reducible refine Qb ?_ ?_); focus kernel_rfl) | ((with_reducible refine And.intro ?_ ?_); focus omega) | (refine contA_of hK ?_; clear hK K'; simp only [go_sem, *]) | (simp only [thenA, inBlockA, go_sem, *]))
 all_goals (refine ⟨[_], [], [], ⟨rfl, trivial⟩, ?_⟩; simp only [go_sem, *])
 all_goals (refine int_eq ?_; unfold cmpN; repeat' split)
 all_goals omega
theorem sp_Before (a b : Plate) : Spec Tryz.prog 94 [a.enc, b.enc] [] (bV (a.lt b)) [] := by
 refine spec_body Tryz.func94 rfl (fun E hE => ?_); simp only [go_sem, Tryz.ntmps94]
 repeat' (first | (with_reducible (show runOps ..); first | (refine Qr rfl ?_; try intro K' hK; try simp only [go_sem, *]) | (refine Qi rfl rfl rfl rfl (fun hb K' hK => ?_) (fun hb => ?_) <;> (have hc := hb; try simp only [go_sem] at hc; simp only [go_sem, *]))) | (with_reducible (show Hold ..); first | refine Qh rfl ?_ | (refine s_cond rfl ⟨_, rfl, fun hb => ?_, fun hb => ?_⟩ <;> (have hc := hb; try simp only [go_sem] at hc)) | refine s_ret rfl ?_) | ((with_reducible refine Qb ?_ ?_); focus kernel_rfl) | ((with_reducible refine And.intro ?_ ?_); focus omega) | (refine contA_of hK ?_; clear hK K'; simp only [go_sem, *]) | (simp only [thenA, inBlockA, go_sem, *]))
 all_goals (refine ⟨[_], [], [], ⟨rfl, trivial⟩, ?_⟩; simp only [go_sem, *])
 all_goals (refine bool_eq ?_; rw [Plate.lt_iff]; simp at *; omega)
theorem sp_before (a b : Plate) : Spec Tryz.prog 87 [a.enc, b.enc] [] (bV (a.lt b)) [] := by
 refine spec_body Tryz.func87 rfl (fun E hE => ?_); simp only [go_sem, Tryz.ntmps87]
 repeat' (first | (with_reducible (show runOps ..); first | (refine Qr rfl ?_; try intro K' hK; try simp only [go_sem, *]) | (refine Qi rfl rfl rfl rfl (fun hb K' hK => ?_) (fun hb => ?_) <;> (have hc := hb; try simp only [go_sem] at hc; simp only [go_sem, *]))) | (with_reducible (show Hold ..); first | refine Qh rfl ?_ | (refine s_cond rfl ⟨_, rfl, fun hb => ?_, fun hb => ?_⟩ <;> (have hc := hb; try simp only [go_sem] at hc)) | refine s_ret rfl ?_) | ((with_reducible refine Qb ?_ ?_); focus kernel_rfl) | ((with_reducible refine And.intro ?_ ?_); focus omega) | (refine contA_of hK ?_; clear hK K'; simp only [go_sem, *]) | (simp only [thenA, inBlockA, go_sem, *]))
 all_goals (refine ⟨[_], [], [], ⟨rfl, trivial⟩, ?_⟩; simp only [go_sem, *])
 all_goals (refine bool_eq ?_; rw [Plate.lt_iff]; simp at *; omega)
theorem sp_Ahead (a b : House) : Spec Tryz.prog 50 [a.enc, b.enc] [] (bV (a.lt b)) [] := by
 obtain ⟨a1, a2, a3⟩ := a
 obtain ⟨b1, b2, b3⟩ := b
 refine spec_body Tryz.func50 rfl (fun E hE => ?_); simp only [go_sem, Tryz.ntmps50]
 repeat' (first | (with_reducible (show runOps ..); first | (refine Qr rfl ?_; try intro K' hK; try simp only [go_sem, *]) | (refine Qi rfl rfl rfl rfl (fun hb K' hK => ?_) (fun hb => ?_) <;> (have hc := hb; try simp only [go_sem] at hc; simp only [go_sem, *]))) | (with_reducible (show Hold ..); first | refine Qh rfl ?_ | (refine s_cond rfl ⟨_, rfl, fun hb => ?_, fun hb => ?_⟩ <;> (have hc := hb; try simp only [go_sem] at hc)) | refine s_ret rfl ?_) | (with_reducible (show callA ..); first | (refine call_s (sp_Before ⟨_, _⟩ ⟨_, _⟩) ?_ ?_; (focus (simp only [go_sem, *]; done)); simp only [go_sem, *])) | ((with_reducible refine Qb ?_ ?_); focus kernel_rfl) | ((with_reducible refine And.intro ?_ ?_); focus omega) | (refine contA_of hK ?_; clear hK K'; simp only [go_sem, *]) | (simp only [thenA, inBlockA, go_sem, *]))
 all_goals (refine ⟨[_], [], [], ⟨rfl, trivial⟩, ?_⟩; simp only [go_sem, *])
 all_goals (refine bool_eq ?_; simp only [House.lt_iff, Plate.lt_iff]; simp at *; try omega)
theorem sp_odd (a : Plate) : Spec Tryz.prog 195 [a.enc] [] (bV (a.number.tmod 2 != 0)) [] := by
 refine spec_body Tryz.func195 rfl (fun E hE => ?_); simp only [go_sem, Tryz.ntmps195]
 repeat' (first | (with_reducible (show runOps ..); first | (refine Qr rfl ?_; try intro K' hK; try simp only [go_sem, *])) | (with_reducible (show Hold ..); first | refine Qh rfl ?_ | (refine s_cond rfl ⟨_, rfl, fun hb => ?_, fun hb => ?_⟩ <;> (have hc := hb; try simp only [go_sem] at hc)) | refine s_ret rfl ?_) | ((with_reducible refine Qb ?_ ?_); focus kernel_rfl) | ((with_reducible refine And.intro ?_ ?_); focus omega) | (refine contA_of hK ?_; clear hK K'; simp only [go_sem, *]) | (simp only [thenA, inBlockA, go_sem, *]))
 all_goals (refine ⟨[_], [], [], ⟨rfl, trivial⟩, ?_⟩; simp only [go_sem, *])
theorem sp_even (a : Plate) : Spec Tryz.prog 196 [a.enc] [] (bV (a.number.tmod 2 == 0)) [] := by
 refine spec_body Tryz.func196 rfl (fun E hE => ?_); simp only [go_sem, Tryz.ntmps196]
 repeat' (first | (with_reducible (show runOps ..); first | (refine Qr rfl ?_; try intro K' hK; try simp only [go_sem, *])) | (with_reducible (show Hold ..); first | refine Qh rfl ?_ | (refine s_cond rfl ⟨_, rfl, fun hb => ?_, fun hb => ?_⟩ <;> (have hc := hb; try simp only [go_sem] at hc)) | refine s_ret rfl ?_) | ((with_reducible refine Qb ?_ ?_); focus kernel_rfl) | ((with_reducible refine And.intro ?_ ?_); focus omega) | (refine contA_of hK ?_; clear hK K'; simp only [go_sem, *]) | (simp only [thenA, inBlockA, go_sem, *]))
 all_goals (refine ⟨[_], [], [], ⟨rfl, trivial⟩, ?_⟩; simp only [go_sem, *])
def orL : List Int → Int
 | [] => 0
 | x :: r => if x = 0 then orL r else x
theorem sp_Or (l : List Int) (hl : l.length ≤ 4294967296) : Spec Tryz.prog 129 [.list (l.map iV)] [] (iV (orL l)) [] := by
 refine spec_body Tryz.func129 rfl (fun E hE => ?_); simp only [go_sem, Tryz.ntmps129]
 repeat' (first | (with_reducible (show runOps ..); first | (refine Qr rfl ?_; try intro K' hK; try simp only [go_sem, *])) | (with_reducible (show Hold ..); first | refine Qh rfl ?_ | (refine s_cond rfl ⟨_, rfl, fun hb => ?_, fun hb => ?_⟩ <;> (have hc := hb; try simp only [go_sem] at hc)) | refine s_ret rfl ?_) | ((with_reducible refine Qb ?_ ?_); focus kernel_rfl) | ((with_reducible refine And.intro ?_ ?_); focus omega) | (refine contA_of hK ?_; clear hK K'; simp only [go_sem, *]) | (simp only [thenA, inBlockA, go_sem, *]))
 refine s_loop rfl (fun n N env As => ∃ i : Nat, n = l.length - i ∧ i ≤ l.length ∧ orL (l.drop i) = orL l ∧ N = 18 ∧ env = [(8, iV i), (7, iV l.length), (6, .list (l.map iV)), (3, iV 0)] ∧ As = []) l.length ⟨[], [], _, _, _, ?_, 0, by simp, by simp, by simp, rfl, rfl, rfl⟩ ?_
 ·(simp only [Weak, go_sem, List.map_append, List.map_set, *] <;> (try simp (disch := omega) only [wrap_succ]) <;> (try simp) <;> (try omega))
 rintro _ _ _ _ ⟨i, rfl, hi, ho, rfl, rfl, rfl⟩
 repeat' (first | (with_reducible (show runOps ..); first | (refine Qr rfl ?_; try intro K' hK; try simp only [go_sem, *])) | (with_reducible (show Hold ..); first | refine Qh rfl ?_ | (refine s_cond rfl ⟨_, rfl, fun hb => ?_, fun hb => ?_⟩ <;> (have hc := hb; try simp only [go_sem] at hc)) | refine s_ret rfl ?_) | ((with_reducible refine Qb ?_ ?_); focus kernel_rfl) | ((with_reducible refine And.intro ?_ ?_); focus omega) | (refine contA_of hK ?_; clear hK K'; simp only [go_sem, *]) | (simp only [thenA, inBlockA, go_sem, *]))
 ·(refine ⟨[_], [], [], ⟨rfl, trivial⟩, ?_⟩; simp only [go_sem, *])
  rw [← ho, drop_cons ‹_›, orL, if_neg ‹_›]
 ·refine ⟨_, ?_, [], [], _, _, _, ?_, i + 1, rfl, ?_, ?_, rfl, rfl, rfl⟩
  ·omega
  ·(simp only [Weak, go_sem, List.map_append, List.map_set, *] <;> (try simp (disch := omega) only [wrap_succ]) <;> (try simp) <;> (try omega))
  ·omega
  ·rw [← ho, drop_cons (i := i) ‹_›, orL, if_pos ‹_›]
 ·(refine ⟨[_], [], [], ⟨rfl, trivial⟩, ?_⟩; simp only [go_sem, *])
  rw [← ho, drop_end (by omega), orL]
theorem orL_two (a b : Int) : orL [a, b] = orI a b := by
 simp only [orL, orI]; repeat' split
 all_goals omega
theorem sp_comparePlates (a b : Plate) : Spec Tryz.prog 93 [a.enc, b.enc] [] (iV (cmpP a b)) [] := by
 refine spec_body Tryz.func93 rfl (fun E hE => ?_); simp only [go_sem, Tryz.ntmps93]
 repeat' (first | (with_reducible (show runOps ..); first | (refine Qr rfl ?_; try intro K' hK; try simp only [go_sem, *])) | (with_reducible (show Hold ..); first | refine Qh rfl ?_ | refine s_draw rfl Tryz.mixed (by kernel_rfl) ?_ | (refine s_cond rfl ⟨_, rfl, fun hb => ?_, fun hb => ?_⟩ <;> (have hc := hb; try simp only [go_sem] at hc)) | refine s_ret rfl ?_) | (with_reducible (show callA ..); first | (refine call_s (sp_Compare _ _) ?_ ?_; (focus (simp only [go_sem, *]; done)); simp only [go_sem, *])) | ((with_reducible refine Qb ?_ ?_); focus kernel_rfl) | ((with_reducible refine And.intro ?_ ?_); focus omega) | (refine contA_of hK ?_; clear hK K'; simp only [go_sem, *]) | (simp only [thenA, inBlockA, go_sem, *]))
 (refine call_x [2] (sp_Or [cmpN a.number b.number, cmpN a.letter b.letter] (by simp)) (by simp only [go_sem, *]) (by first | exact .raw _) ?_; simp only [go_sem, *])
 repeat' (first | (with_reducible (show runOps ..); first | (refine Qr rfl ?_; try intro K' hK; try simp only [go_sem, *])) | (with_reducible (show Hold ..); first | refine Qh rfl ?_ | refine s_draw rfl Tryz.mixed (by kernel_rfl) ?_ | (refine s_cond rfl ⟨_, rfl, fun hb => ?_, fun hb => ?_⟩ <;> (have hc := hb; try simp only [go_sem] at hc)) | refine s_ret rfl ?_) | ((with_reducible refine Qb ?_ ?_); focus kernel_rfl) | ((with_reducible refine And.intro ?_ ?_); focus omega) | (refine contA_of hK ?_; clear hK K'; simp only [go_sem, *]) | (simp only [thenA, inBlockA, go_sem, *]))
 (refine ⟨[_], [], [], ⟨rfl, trivial⟩, ?_⟩; simp only [go_sem, *])
 rw [orL_two, cmpP]
theorem sp_comparePlaces (a b : House) : Spec Tryz.prog 136 [a.enc, b.enc] [] (iV (cmpH a b)) [] := by
 refine spec_body Tryz.func136 rfl (fun E hE => ?_); simp only [go_sem, Tryz.ntmps136]
 repeat' (first | (with_reducible (show runOps ..); first | (refine Qr rfl ?_; try intro K' hK; try simp only [go_sem, *])) | (with_reducible (show Hold ..); first | refine Qh rfl ?_ | refine s_draw rfl Tryz.mixed (by kernel_rfl) ?_ | (refine s_cond rfl ⟨_, rfl, fun hb => ?_, fun hb => ?_⟩ <;> (have hc := hb; try simp only [go_sem] at hc)) | refine s_ret rfl ?_) | (with_reducible (show callA ..); first | ((first | refine call_s (sp_Compare _ _) ?_ ?_ | refine call_s (sp_comparePlates a.plate b.plate) ?_ ?_); (focus (simp only [go_sem, *]; done)); simp only [go_sem, *])) | ((with_reducible refine Qb ?_ ?_); focus kernel_rfl) | ((with_reducible refine And.intro ?_ ?_); focus omega) | (refine contA_of hK ?_; clear hK K'; simp only [go_sem, *]) | (simp only [thenA, inBlockA, go_sem, *]))
 (refine call_x [2] (sp_Or [cmpN a.street b.street, cmpP a.plate b.plate] (by simp)) (by simp only [go_sem, *]) (by first | exact .raw _) ?_; simp only [go_sem, *])
 repeat' (first | (with_reducible (show runOps ..); first | (refine Qr rfl ?_; try intro K' hK; try simp only [go_sem, *])) | (with_reducible (show Hold ..); first | refine Qh rfl ?_ | refine s_draw rfl Tryz.mixed (by kernel_rfl) ?_ | (refine s_cond rfl ⟨_, rfl, fun hb => ?_, fun hb => ?_⟩ <;> (have hc := hb; try simp only [go_sem] at hc)) | refine s_ret rfl ?_) | ((with_reducible refine Qb ?_ ?_); focus kernel_rfl) | ((with_reducible refine And.intro ?_ ?_); focus omega) | (refine contA_of hK ?_; clear hK K'; simp only [go_sem, *]) | (simp only [thenA, inBlockA, go_sem, *]))
 (refine ⟨[_], [], [], ⟨rfl, trivial⟩, ?_⟩; simp only [go_sem, *])
 rw [orL_two, cmpH]
theorem mod_eq (n m : Int) (h : 0 < m) : n % m = if n.tmod m < 0 then n.tmod m + m else n.tmod m := by
 have h1 := Int.tmod_add_mul_tdiv n m
 have h2 := Int.tmod_lt_of_pos n h
 have h3 := Int.lt_tmod_of_pos n h
 have e : n % m = n.tmod m % m := by
  conv => lhs; rw [← h1]
  rw [Int.add_mul_emod_self_left]
 rw [e]
 split
 ·rw [← Int.emod_eq_of_lt (a := n.tmod m + m) (b := m) (by omega) (by omega), Int.add_emod_right]
 ·exact Int.emod_eq_of_lt (by omega) h2
theorem sp_Mod (n m : Int) (h : 0 < m) (hm : m ≤ 4294967296) : Spec Tryz.prog 65 [iV n, iV m] [] (iV (n % m)) [] := by
 have h2 := Int.tmod_lt_of_pos n h
 have h3 := Int.lt_tmod_of_pos n h
 refine spec_body Tryz.func65 rfl (fun E hE => ?_); simp only [go_sem, Tryz.ntmps65]
 repeat' (first | (with_reducible (show runOps ..); first | (refine Qr rfl ?_; try intro K' hK; try simp only [go_sem, *])) | (with_reducible (show Hold ..); first | refine Qh rfl ?_ | (refine s_cond rfl ⟨_, rfl, fun hb => ?_, fun hb => ?_⟩ <;> (have hc := hb; try simp only [go_sem] at hc)) | refine s_ret rfl ?_) | ((with_reducible refine Qb ?_ ?_); focus kernel_rfl) | ((with_reducible refine And.intro ?_ ?_); focus omega) | (refine contA_of hK ?_; clear hK K'; simp only [go_sem, *]) | (simp only [thenA, inBlockA, go_sem, *]))
 ·(refine ⟨[_], [], [], ⟨rfl, trivial⟩, ?_⟩; simp only [go_sem, *])
  rw [mod_eq n m h, if_pos (by assumption), wrap_i64 (by omega) (by omega)]
 ·(refine ⟨[_], [], [], ⟨rfl, trivial⟩, ?_⟩; simp only [go_sem, *])
  rw [mod_eq n m h, if_neg (by omega)]
theorem checkRow_step {l : List Plate} {k : Nat} (h : k < l.length) (o : Option Plate) (ho : o = if k = 0 then none else some (l.getD (k - 1) default)) :
  checkRow o (l.drop k) = if (l.getD k default).ok = true then (if k = 0 ∨ (l.getD (k - 1) default).lt (l.getD k default) = true then checkRow (some (l.getD k default)) (l.drop (k + 1)) else 5) else 1 := by
 rw [drop_cons h]
 subst ho
 by_cases hk : k = 0
 ·simp [hk, checkRow]
 ·simp [hk, checkRow]
def prevP (l : List Plate) (k : Nat) : Option Plate := if k = 0 then none else some (l.getD (k - 1) default)
theorem prevP_succ (l : List Plate) (k : Nat) : prevP l (k + 1) = some (l.getD k default) := by simp [prevP]
theorem rows_step {p : Plan} {i : Nat} (h : i < p.length) : checkRows (p.drop i) = if 8 < (p.getD i default).length then 6 else if checkRow none (p.getD i default) = 0 then checkRows (p.drop (i + 1)) else checkRow none (p.getD i default) := by
 rw [drop_cons h, checkRows]
theorem sp_Check (p : Plan) (h1 : p.length ≤ 4294967296) : Spec Tryz.prog 27 [encPlan p] [] (iV (check p)) [] := by
  have e0 : p.length = 0 → check p = 7 := fun h => by unfold check; rw [if_pos h]
  have e1 : ¬ p.length = 0 → 3 < p.length → check p = 6 := fun h h' => by unfold check; rw [if_neg h, if_pos h']
  have e2 : ¬ p.length = 0 → ¬ 3 < p.length → check p = checkRows p := fun h h' => by unfold check; rw [if_neg h, if_neg h']
  refine spec_body Tryz.func27 rfl (fun E hE => ?_); simp only [go_sem, Tryz.ntmps27]
  repeat' (first | (with_reducible (show runOps ..); first | (refine Qr rfl ?_; try intro K' hK; try simp only [go_sem, *]) | (refine Qi rfl rfl rfl rfl (fun hb K' hK => ?_) (fun hb => ?_) <;> (have hc := hb; try simp only [go_sem] at hc; simp only [go_sem, *]))) | (with_reducible (show Hold ..); first | refine Qh rfl ?_ | refine s_draw rfl Tryz.mixed (by kernel_rfl) ?_ | (refine s_cond rfl ⟨_, rfl, fun hb => ?_, fun hb => ?_⟩ <;> (have hc := hb; try simp only [go_sem] at hc)) | refine s_ret rfl ?_) | ((with_reducible refine Qb ?_ ?_); focus kernel_rfl) | ((with_reducible refine And.intro ?_ ?_); focus omega) | (refine contA_of hK ?_; clear hK K'; simp only [go_sem, *]) | (simp only [thenA, inBlockA, go_sem, *]))
  · (refine ⟨[_], [], [], ⟨rfl, trivial⟩, ?_⟩; simp only [go_sem, *])
    rw [e0 (by omega)]
  · (refine ⟨[_], [], [], ⟨rfl, trivial⟩, ?_⟩; simp only [go_sem, *])
    rw [e1 (by omega) (by omega)]
  · have e3 := e2 (by omega) (by omega)
    clear e0 e1 e2
    refine s_loop rfl (fun zn zN zenv zAs => ∃ (i : Nat), zn = (p.length) - i ∧ i ≤ (p.length) ∧ (checkRows (p.drop i) = checkRows p) ∧ zN = 49 ∧ zenv = [(18, iV i), (17, iV p.length), (16, .list (p.map encStreet))] ∧ zAs = []) (p.length) ⟨[], [], _, _, _, (by (simp only [Weak, go_sem, List.map_append, List.map_set, *] <;> (try simp (disch := omega) only [wrap_succ]) <;> (try simp) <;> (try omega))), 0, (by simp), (by simp), (by simp), rfl, rfl, rfl⟩ ?_; rintro _ _ _ _ ⟨i, rfl, hi, hP, rfl, rfl, rfl⟩
    repeat' (first | (with_reducible (show runOps ..); first | (refine Qr rfl ?_; try intro K' hK; try simp only [go_sem, *]) | (refine Qi rfl rfl rfl rfl (fun hb K' hK => ?_) (fun hb => ?_) <;> (have hc := hb; try simp only [go_sem] at hc; simp only [go_sem, *]))) | (with_reducible (show Hold ..); first | refine Qh rfl ?_ | refine s_draw rfl Tryz.mixed (by kernel_rfl) ?_ | (refine s_cond rfl ⟨_, rfl, fun hb => ?_, fun hb => ?_⟩ <;> (have hc := hb; try simp only [go_sem] at hc)) | refine s_ret rfl ?_) | ((with_reducible refine Qb ?_ ?_); focus kernel_rfl) | ((with_reducible refine And.intro ?_ ?_); focus omega) | (refine contA_of hK ?_; clear hK K'; simp only [go_sem, *]) | (simp only [thenA, inBlockA, go_sem, *]))
    · (refine ⟨[_], [], [], ⟨rfl, trivial⟩, ?_⟩; simp only [go_sem, *])
      rw [← hP, rows_step (by omega), if_pos (by omega)]
    · have hl : (p.getD i default).length ≤ 8 := by omega
      have hi' : i < p.length := by omega
      rw [rows_step hi', if_neg (by omega)] at hP
      generalize hll : p.getD i default = l at *
      refine s_loop rfl (fun zn zN zenv zAs => ∃ (k : Nat), zn = (l.length) - k ∧ k ≤ (l.length) ∧ (checkRow (prevP l k) (l.drop k) = checkRow none l) ∧ zN = 49 ∧ zenv = [(27, iV k), (26, iV l.length), (25, encStreet l), (4, encStreet l), (18, iV i), (17, iV p.length), (16, .list (p.map encStreet))] ∧ zAs = []) (l.length) ⟨[], [], _, _, _, (by (simp only [Weak, go_sem, List.map_append, List.map_set, *] <;> (try simp (disch := omega) only [wrap_succ]) <;> (try simp) <;> (try omega))), 0, (by simp), (by simp), (by simp [prevP]), rfl, rfl, rfl⟩ ?_; rintro _ _ _ _ ⟨k, rfl, hk, hK, rfl, rfl, rfl⟩
      have hw : 0 < k → IntKind.i64.wrap ((k : Int) - 1) = ((k - 1 : Nat) : Int) := fun h => by rw [wrap_i64 (by omega) (by omega)]; omega
      have hk1 : k < l.length → k - 1 < l.length := fun h => by omega
      have hstep : ∀ h : k < l.length, _ := fun h => checkRow_step h (prevP l k) rfl
      repeat' (first | (with_reducible (show runOps ..); first | (refine Qr rfl ?_; try intro K' hK; try simp only [go_sem, *]) | (refine Qi rfl rfl rfl rfl (fun hb K' hK => ?_) (fun hb => ?_) <;> (have hc := hb; try simp only [go_sem] at hc; simp only [go_sem, *]))) | (with_reducible (show Hold ..); first | refine Qh rfl ?_ | refine s_draw rfl Tryz.mixed (by kernel_rfl) ?_ | (refine s_cond rfl ⟨_, rfl, fun hb => ?_, fun hb => ?_⟩ <;> (have hc := hb; try simp only [go_sem] at hc)) | refine s_ret rfl ?_) | (with_reducible (show callA ..); first | ((first | refine call_s (sp_validPlate _) ?_ ?_ | refine call_s (sp_comparePlates _ _) ?_ ?_); (focus (simp only [go_sem, *]; done)); simp only [go_sem, *])) | ((with_reducible refine Qb ?_ ?_); focus kernel_rfl) | ((with_reducible refine And.intro ?_ ?_); focus omega) | (refine contA_of hK ?_; clear hK K'; simp only [go_sem, *]) | (simp only [thenA, inBlockA, go_sem, *]))
      · (refine ⟨[_], [], [], ⟨rfl, trivial⟩, ?_⟩; simp only [go_sem, *])
        rw [hstep (by omega), if_neg (by simp_all)] at hK
        rw [← hK, if_neg (by omega)] at hP
        rw [← hP]
      · (refine ⟨[_], [], [], ⟨rfl, trivial⟩, ?_⟩; simp only [go_sem, *])
        have hlt : ¬ (l.getD (k - 1) default).lt (l.getD k default) = true := by rw [← cmpP_lt]; omega
        rw [hstep (by omega), if_pos (by assumption), if_neg (by intro h; rcases h with h | h; · omega
                                                                 · exact hlt h)] at hK
        rw [← hK, if_neg (by omega)] at hP
        rw [← hP]
      · have hlt : (l.getD (k - 1) default).lt (l.getD k default) = true := by rw [← cmpP_lt]; omega
        refine ⟨_, (by omega), [], [], _, _, _, (by (simp only [Weak, go_sem, List.map_append, List.map_set, *] <;> (try simp (disch := omega) only [wrap_succ]) <;> (try simp) <;> (try omega))), k + 1, rfl, (by omega), (by rw [← hK, hstep (by omega), if_pos (by assumption), if_pos (.inr hlt), prevP_succ]), rfl, rfl, rfl⟩
      · refine ⟨_, (by omega), [], [], _, _, _, (by (simp only [Weak, go_sem, List.map_append, List.map_set, *] <;> (try simp (disch := omega) only [wrap_succ]) <;> (try simp) <;> (try omega))), k + 1, rfl, (by omega), (by rw [← hK, hstep (by omega), if_pos (by assumption), if_pos (.inl (by omega)), prevP_succ]), rfl, rfl, rfl⟩
      · rw [drop_end (by omega)] at hK
        have h0 : checkRow none l = 0 := by rw [← hK]; cases prevP l k <;> rfl
        rw [if_pos h0] at hP
        refine ⟨_, (by omega), [], [], _, _, _, (by (simp only [Weak, go_sem, List.map_append, List.map_set, *] <;> (try simp (disch := omega) only [wrap_succ]) <;> (try simp) <;> (try omega))), i + 1, rfl, (by omega), (by exact hP), rfl, rfl, rfl⟩
    · (refine ⟨[_], [], [], ⟨rfl, trivial⟩, ?_⟩; simp only [go_sem, *])
      rw [← hP, drop_end (by omega), checkRows]
end Go.Abs

namespace Go.Abs
open Go Go.Proofs
set_option maxRecDepth 10000
theorem keyed_place : Maps.Keyed Tryz.prog 57 := Maps.Keyed.of_law (deep_law (m := 4) (by omega) (by kernel_rfl) (by kernel_rfl) (by kernel_rfl))
structure House.Wf (h : House) : Prop where
 s : (Lit.int .i64 h.street).wf = true
 n : (Lit.int .i64 h.plate.number).wf = true
 l : (Lit.int .i64 h.plate.letter).wf = true
@[reducible] def House.key (h : House) : Value := .agg #[.int .i64 h.street, .int .i64 h.plate.number, .int .i64 h.plate.letter]
theorem lits3 (d : Nat) (n : Int) (h : (Lit.int .i64 n).wf = true) : Tryz.prog.keyLits (d + 1) 3 [.int .i64 n] = some [.int .i64 n] := by
 have hu : Tryz.prog.underlying 3 = some (.int .i64) := by kernel_rfl
 unfold Program.keyLits
 rw [hu]; simp [h]
theorem lits26 (d : Nat) (n m : Int) (h : (Lit.int .i64 n).wf = true) (h' : (Lit.int .i64 m).wf = true) : Tryz.prog.keyLits (d + 2) 26 [.int .i64 n, .int .i64 m] = some [.int .i64 n, .int .i64 m] := by
 have hu : Tryz.prog.underlying 26 = some (.struct (Tryz.prog.fieldsOf 26)) := by kernel_rfl
 have hl : (Tryz.prog.fieldsOf 26).toList = [(Tryz.prog.fieldsOf 26).toList.getD 0 default, (Tryz.prog.fieldsOf 26).toList.getD 1 default] := by kernel_rfl
 have t0 : ((Tryz.prog.fieldsOf 26).toList.getD 0 default).type = 3 := by kernel_rfl
 have t1 : ((Tryz.prog.fieldsOf 26).toList.getD 1 default).type = 3 := by kernel_rfl
 have o0 : ((Tryz.prog.fieldsOf 26).toList.getD 0 default).offset = 0 := by kernel_rfl
 have o1 : ((Tryz.prog.fieldsOf 26).toList.getD 1 default).offset = 1 := by kernel_rfl
 have c3 : Tryz.prog.cellsOf 3 = 1 := by kernel_rfl
 have c26 : Tryz.prog.cellsOf 26 = 2 := by kernel_rfl
 have hn : (Tryz.prog.fieldsOf 26).all (·.name != "_") = true := by kernel_rfl
 unfold Program.keyLits
 rw [hu]
 simp only [hn, c26, List.length_cons, List.length_nil, and_self, if_true]
 rw [hl]
 generalize (Tryz.prog.fieldsOf 26).toList.getD 0 default = f0 at *
 generalize (Tryz.prog.fieldsOf 26).toList.getD 1 default = f1 at *
 simp [List.mapM_cons, t0, t1, o0, o1, c3, lits3 d _ h, lits3 d _ h']
theorem lits57 (d : Nat) (a n m : Int) (h0 : (Lit.int .i64 a).wf = true) (h : (Lit.int .i64 n).wf = true) (h' : (Lit.int .i64 m).wf = true) : Tryz.prog.keyLits (d + 3) 57 [.int .i64 a, .int .i64 n, .int .i64 m] = some [.int .i64 a, .int .i64 n, .int .i64 m] := by
 have hu : Tryz.prog.underlying 57 = some (.struct (Tryz.prog.fieldsOf 57)) := by kernel_rfl
 have hl : (Tryz.prog.fieldsOf 57).toList = [(Tryz.prog.fieldsOf 57).toList.getD 0 default, (Tryz.prog.fieldsOf 57).toList.getD 1 default] := by kernel_rfl
 have t0 : ((Tryz.prog.fieldsOf 57).toList.getD 0 default).type = 3 := by kernel_rfl
 have t1 : ((Tryz.prog.fieldsOf 57).toList.getD 1 default).type = 26 := by kernel_rfl
 have o0 : ((Tryz.prog.fieldsOf 57).toList.getD 0 default).offset = 0 := by kernel_rfl
 have o1 : ((Tryz.prog.fieldsOf 57).toList.getD 1 default).offset = 1 := by kernel_rfl
 have c3 : Tryz.prog.cellsOf 3 = 1 := by kernel_rfl
 have c26 : Tryz.prog.cellsOf 26 = 2 := by kernel_rfl
 have c57 : Tryz.prog.cellsOf 57 = 3 := by kernel_rfl
 have hn : (Tryz.prog.fieldsOf 57).all (·.name != "_") = true := by kernel_rfl
 unfold Program.keyLits
 rw [hu]
 simp only [hn, c57, List.length_cons, List.length_nil, and_self, if_true]
 rw [hl]
 generalize (Tryz.prog.fieldsOf 57).toList.getD 0 default = f0 at *
 generalize (Tryz.prog.fieldsOf 57).toList.getD 1 default = f1 at *
 simp [List.mapM_cons, t0, t1, o0, o1, c3, c26, lits3 (d + 1) _ h0, lits26 d _ _ h h']
theorem keyB_place (h : House) (hw : h.Wf) : keyB Tryz.prog 57 h.key := by
 have hu : Tryz.prog.underlying 57 = some (.struct (Tryz.prog.fieldsOf 57)) := by kernel_rfl
 have hk : Tryz.prog.keyType 57 = true := by kernel_rfl
 have hs : ∃ d, Tryz.prog.types.size + 1 = d + 3 := ⟨Tryz.prog.types.size - 2, by kernel_rfl⟩
 have hf : h.key.formed Tryz.prog 57 = true := by
  have : Tryz.prog.cellsOf 57 = 3 := by kernel_rfl
  simp [House.key, Value.formed, hu, this]
 obtain ⟨d, hd⟩ := hs
 unfold keyB keyOf
 rw [hu]
 simp only [hk, hf, Bool.and_self, if_true, hd]
 rw [show h.key.cells.toList = [.int .i64 h.street, .int .i64 h.plate.number, .int .i64 h.plate.letter] from rfl, lits57 d _ _ _ hw.s hw.n hw.l]
 exact ⟨_, rfl⟩
end Go.Abs

namespace Go.Abs
open Go Go.Proofs
set_option maxRecDepth 10000
theorem House.key_inj {a b : House} : a.key = b.key ↔ a = b := by
 rw [House.eq_iff]
 simp [House.key]
theorem idxV_key (h : House) : ∀ hs : List House, idxV h.key (hs.map House.key) = if h ∈ hs then some (hs.idxOf h) else none
 | [] => by simp [idxV]
 | x :: r => by
  have ih := idxV_key h r
  rw [List.map_cons]
  unfold idxV
  by_cases e : x = h
  ·subst e; simp
  ·have e' : ¬ x.key = h.key := fun k => e (House.key_inj.1 k)
   rw [if_neg e', ih]
   by_cases hm : h ∈ r
   ·rw [if_pos hm, if_pos (by simp [hm])]
    have hb : (x == h) = false := by simpa using e
    simp [List.idxOf_cons, hb]
   ·rw [if_neg hm, if_neg (by simp only [List.mem_cons, not_or]; exact ⟨fun k => e k.symm, hm⟩)]; rfl
theorem hasA_key (hs : List House) (h : House) : hasA (hs.map House.key) h.key = decide (h ∈ hs) := by
 unfold hasA; rw [idxV_key]; by_cases hm : h ∈ hs <;> simp [hm]
theorem lookA_key {hs : List House} {h : House} (F : House → AV) (z : AV) : lookA (hs.map House.key) (hs.map F) h.key z = if h ∈ hs then F h else z := by
 unfold lookA; rw [idxV_key]
 by_cases hm : h ∈ hs
 ·rw [if_pos hm, if_pos hm]
  have hlt := List.idxOf_lt_length_of_mem hm
  simp [hlt, List.getElem_idxOf]
 ·rw [if_neg hm, if_neg hm]
theorem putK_old {hs : List House} {h : House} (hm : h ∈ hs) : putK (hs.map House.key) h.key = hs.map House.key := by
 unfold putK; rw [idxV_key, if_pos hm]
theorem putK_new {hs : List House} {h : House} (hm : h ∉ hs) : putK (hs.map House.key) h.key = (hs ++ [h]).map House.key := by
 unfold putK; rw [idxV_key, if_neg hm]; simp
theorem putX_new {hs : List House} {h : House} (xs : List AV) (v : AV) (hm : h ∉ hs) : putX (hs.map House.key) xs h.key v = xs ++ [v] := by
 unfold putX; rw [idxV_key, if_neg hm]
theorem putX_old {hs : List House} {h : House} (hn : hs.Nodup) (F : House → AV) (v : AV) (hm : h ∈ hs) : putX (hs.map House.key) (hs.map F) h.key v = hs.map (fun k => if k = h then v else F k) := by
 unfold putX; rw [idxV_key, if_pos hm]
 apply List.ext_getElem (by simp)
 intro i h1 h2
 simp only [List.getElem_set, List.getElem_map]
 simp at h2
 have hlt := List.idxOf_lt_length_of_mem hm
 have hg : hs[hs.idxOf h] = h := by simp [List.getElem_idxOf]
 by_cases e : hs.idxOf h = i
 ·subst e; simp [hg]
 ·rw [if_neg e, if_neg]
  intro e2
  apply e
  have : hs[hs.idxOf h] = hs[i] := by rw [hg, e2]
  exact (nodup_inj hn).1 this
theorem moves_type : ∃ et, mapT Tryz.prog 121 = some (57, et) ∧ zeroT Tryz.prog et = some (.slice none 0 0) := by
 have h : ((mapT Tryz.prog 121).map (·.1)) = some 57 := by kernel_rfl
 have h2 : ((mapT Tryz.prog 121).bind fun x => zeroT Tryz.prog x.2) = some (.slice none 0 0) := by kernel_rfl
 cases hm : mapT Tryz.prog 121 with
 | none => rw [hm] at h; cases h
 | some x => rw [hm] at h h2; obtain ⟨k, e⟩ := x; simp at h; subst h; exact ⟨e, rfl, by simpa using h2⟩
theorem keyA_house (h : House) : keyA h.enc = some h.key := by simp [House.enc, keyA, rawsOf, House.key]
theorem upd_house {h : House} {hs : List House} {F : House → AV} {x : AV} {o : Nat} {H : Nat → AObj} {K : Cont} (ho : H o = .mapo (hs.map House.key) (hs.map F)) (hw : ∀ k, k ∈ hs → k.Wf) (hn : hs.Nodup) (hm : h ∈ hs)
  (hp : Pure (frzV H 3 x).1) (hc : (frzV H 3 x).2.contains o = false)
  (hk : K (.tup []) (o :: (frzV H 3 x).2) (deads (frzV H 3 x).2 ++ [(o, .mapo (hs.map House.key) (hs.map fun k => if k = h then (frzV H 3 x).1 else F k))])) : mapUpdateA Tryz.prog 121 (.mp o) h.enc x H K := by
 obtain ⟨et, h1, _⟩ := moves_type
 unfold mapUpdateA
 rw [h1, keyA_house]
 simp only [ho]
 refine ⟨keyed_place, keyB_place h (hw h hm), fun q hq => ?_, hp, hc, ?_⟩
 ·obtain ⟨k, hk, rfl⟩ := List.mem_map.1 hq; exact keyB_place k (hw k hk)
 ·rw [putK_old hm, putX_old hn F _ hm]; exact hk
theorem new_house {h : House} {hs : List House} {xs : List AV} {x : AV} {o : Nat} {H : Nat → AObj} {K : Cont} (ho : H o = .mapo (hs.map House.key) xs) (hw : ∀ k, k ∈ hs → k.Wf) (hh : h.Wf) (hm : h ∉ hs)
  (hp : Pure (frzV H 3 x).1) (hc : (frzV H 3 x).2.contains o = false)
  (hk : K (.tup []) (o :: (frzV H 3 x).2) (deads (frzV H 3 x).2 ++ [(o, .mapo ((hs ++ [h]).map House.key) (xs ++ [(frzV H 3 x).1]))])) : mapUpdateA Tryz.prog 121 (.mp o) h.enc x H K := by
 obtain ⟨et, h1, _⟩ := moves_type
 unfold mapUpdateA
 rw [h1, keyA_house]
 simp only [ho]
 refine ⟨keyed_place, keyB_place h hh, fun q hq => ?_, hp, hc, ?_⟩
 ·obtain ⟨k, hk, rfl⟩ := List.mem_map.1 hq; exact keyB_place k (hw k hk)
 ·rw [putK_new hm, putX_new xs _ hm]; exact hk
theorem frz_houses {H : Nat → AObj} {q n : Nat} {hl : List House} {rows : List AV} (h : H q = .row 3 rows) (hr : rows = hl.map House.enc) (hn : n = hl.length) : frzV H 3 (.own q 3 0 n) = (.list (hl.map House.enc), [q]) := by
 subst hr; subst hn
 simp [frzV, h, List.take_of_length_le]
theorem look_fhouse {h : House} {hs : List House} {F : House → AV} {H : Nat → AObj} {K : Cont} (hw : ∀ k, k ∈ hs → k.Wf) (hh : h.Wf)
  (hk : K (if h ∈ hs then F h else .list []) [] []) : lookupA Tryz.prog 121 (.fmap (hs.map House.key) (hs.map F)) h.enc false H K := by
 obtain ⟨et, h1, h2⟩ := moves_type
 unfold lookupA
 rw [h1, keyA_house]
 simp only [h2]
 refine ⟨keyed_place, keyB_place h hh, by simp [Value.cells, Value.oneCell'], fun q hq => ?_, ?_⟩
 ·obtain ⟨k, hk, rfl⟩ := List.mem_map.1 hq; exact keyB_place k (hw k hk)
 ·rw [lookA_key]; simpa [zAV] using hk
def MapV (g : House → List House) (h : House) : AV := .list ((g h).map House.enc)
@[reducible] def keysP (p : Plan) : List Value := (housesOf p).map House.key
@[reducible] def movesP (p : Plan) (g : House → List House) : List AV := (housesOf p).map (MapV g)
theorem movesP_congr {p : Plan} {g g' : House → List House} (h : ∀ k, k ∈ housesOf p → g k = g' k) : movesP p g = movesP p g' := List.map_congr_left (fun k hk => by simp [MapV, h k hk])
def Upd (p : Plan) (c : Change) (g : House → List House) (done : List Plate) : Prop := ∀ h, h ∈ housesOf p → g h = if h.street = c.street ∧ h.plate ∈ done then mv p c h else [h]
theorem Upd.nil (p : Plan) (c : Change) : Upd p c (fun h => [h]) [] := fun h _ => by simp
theorem Upd.step {p : Plan} {c : Change} {g : House → List House} {done : List Plate} (h : Upd p c g done) (x : Plate) : Upd p c (fun k => if k = ⟨c.street, x⟩ then mv p c ⟨c.street, x⟩ else g k) (done ++ [x]) := fun k hk => by
 simp only
 by_cases e : k = ⟨c.street, x⟩
 ·subst e; simp
 ·rw [if_neg e, h k hk]
  have : (k.street = c.street ∧ k.plate ∈ done ++ [x]) ↔ (k.street = c.street ∧ k.plate ∈ done) := by
   constructor
   ·rintro ⟨h1, h2⟩
    rcases List.mem_append.1 h2 with h2 | h2
    ·exact ⟨h1, h2⟩
    ·simp at h2; exact absurd (by cases k; simp_all) e
   ·rintro ⟨h1, h2⟩; exact ⟨h1, by simp [h2]⟩
  simp only [this]
theorem Upd.fin {p : Plan} {c : Change} {g : House → List House} {done : List Plate} (h : Upd p c g done) (hd : ∀ x, x ∈ rowAt p c.street → x ∉ done → toP p c x = [⟨c.street, x⟩]) : movesP p g = movesP p (mv p c) := movesP_congr fun k hk => by
 rw [h k hk]
 by_cases e : k.street = c.street
 ·by_cases hm : k.plate ∈ done
  ·rw [if_pos ⟨e, hm⟩]
  ·rw [if_neg (fun x => hm x.2)]
   have hr := (mem_houses.1 hk).2.2
   rw [e] at hr
   rw [mv, if_pos e, hd _ hr hm]; cases k; simp_all
 ·rw [if_neg (fun x => e x.1), mv, if_neg e]
theorem wf_small {n : Int} (h0 : -9223372036854775808 ≤ n) (h1 : n ≤ 9223372036854775807) : (Lit.int .i64 n).wf = true := by
 simp [Lit.wf, IntKind.min, IntKind.max, IntKind.signed, IntKind.bits]; omega
theorem Valid.wf {p : Plan} (v : Valid p) : ∀ h, h ∈ housesOf p → h.Wf := fun h hh => by
 obtain ⟨h0, h1, h2⟩ := mem_houses.1 hh
 have := (ok_iff _).1 ((v.row h.street).ok _ h2)
 have := v.len
 exact ⟨wf_small (by omega) (by omega), wf_small (by omega) (by omega), wf_small (by omega) (by omega)⟩
theorem Valid.nodup {p : Plan} (v : Valid p) : (housesOf p).Nodup := (strict_houses v).nodup
theorem Valid.count {p : Plan} (v : Valid p) : (housesOf p).length ≤ 24 := by
 have key : ∀ n, n ≤ p.length → ((List.range n).flatMap fun s => (p.getD s default).map fun x => (⟨(s : Nat), x⟩ : House)).length ≤ n * 8 := by
  intro n
  induction n with
  | zero => intro _; simp
  | succ n ih =>
   intro hn
   have := (v.rows _ (getD_mem (l := p) (i := n) (by omega))).len
   have := ih (by omega)
   rw [List.range_succ, List.flatMap_append]
   simp only [List.length_append, List.flatMap_cons, List.flatMap_nil, List.append_nil, List.length_map]
   omega
 rw [housesOf_eq]
 have := key p.length (Nat.le_refl _)
 have := v.len
 omega
end Go.Abs

namespace Go.Abs
open Go Go.Proofs
set_option maxRecDepth 10000
@[go_sem] theorem rowAt_def (p : Plan) (s : Int) : List.getD p s.toNat default = rowAt p s := rfl
theorem call_n {P : Program} {f : FuncId} {avs : List AV} {H : Nat → AObj} {nx : Nat} {K : Cont} {r : AV} {out : List AObj} (sp : Spec P f avs [] r out) (h : XpL H [] [] avs avs) (hu : ∀ j, j < out.length → H (nx + j) = .unb) (h7 : ∀ A, A ∈ out → A ≠ .unb)
  (hk : K (r.ren (backId [] nx)) (newIds [] nx out) (backObjs [] nx out)) : callA P f avs H nx K :=
 call_of [] [] sp (by simp) h trivial (by simp) (.inl rfl) (fun j hj => hu j (by simpa using hj)) h7 (by simpa using hk)
attribute [go_sem] Nat.mul_one List.length_set
@[go_sem] theorem natCast_lt2 (n : Nat) : ((n : Int) < 2) = (n < 2) := by simp; omega
@[go_sem] theorem natCast_0 : ((0 : Nat) : Int) = 0 := rfl
@[go_sem] theorem natCast_1 : ((1 : Nat) : Int) = 1 := rfl
@[go_sem] theorem natCast_2 : ((2 : Nat) : Int) = 2 := rfl
@[go_sem] theorem natCast_3 : ((3 : Nat) : Int) = 3 := rfl
@[go_sem] theorem natCast_4 : ((4 : Nat) : Int) = 4 := rfl
@[go_sem] theorem natCast_5 : ((5 : Nat) : Int) = 5 := rfl
@[go_sem] theorem natCast_6 : ((6 : Nat) : Int) = 6 := rfl
@[go_sem] theorem natCast_7 : ((7 : Nat) : Int) = 7 := rfl
@[go_sem] theorem natCast_8 : ((8 : Nat) : Int) = 8 := rfl
@[go_sem] theorem take_map_len {α β : Type} (f : α → β) (l : List α) : (l.map f).take l.length = l.map f := List.take_of_length_le (by simp)
theorem XpL_map_refl {H : Nat → AObj} {m : List (Option Nat)} {ex : List Nat} {α : Type} {f : α → AV} (hf : ∀ x, XpF H m ex (f x) (f x)) : ∀ l : List α, XpL H m ex (l.map f) (l.map f)
 | [] => by simp [XpL_nil]
 | x :: r => by simp only [List.map_cons, XpL_cons]; exact ⟨hf x, XpL_map_refl hf r⟩
@[go_sem] theorem XpL_streets (H : Nat → AObj) (m : List (Option Nat)) (ex : List Nat) (l : List (List Plate)) : XpL H m ex (l.map encStreet) (l.map encStreet) ↔ True := ⟨fun _ => trivial, fun _ => XpL_map_refl (fun x => by simp only [XpF]) l⟩
@[go_sem] theorem frzV_func (H : Nat → AObj) (n : Nat) (f : Fn) (a b : Array Value) : frzV H (n + 1) (.raw (.func f a b)) = (.raw (.func f a b), []) := rfl
def NoP (_ : Nat) : Prop := True
def updG (p : Plan) (c : Change) (g : House → List House) (x : Plate) : House → List House := fun k => if k = ⟨c.street, x⟩ then mv p c ⟨c.street, x⟩ else g k
theorem Upd.one {p : Plan} {c : Change} {g : House → List House} {done : List Plate} (h : Upd p c g done) (x : Plate) : Upd p c (updG p c g x) (done ++ [x]) := h.step x
theorem mv_to (p : Plan) (c : Change) (x : Plate) : mv p c ⟨c.street, x⟩ = toP p c x := by simp [mv]
theorem house_in {p : Plan} {c : Change} (hs0 : 0 ≤ c.street) (hs1 : c.street < p.length) {x : Plate} (hx : x ∈ rowAt p c.street) : (⟨c.street, x⟩ : House) ∈ housesOf p := mem_houses.2 ⟨hs0, hs1, hx⟩
theorem upd_mv {p : Plan} {c : Change} {g : House → List House} {x : Plate} {o q n : Nat} {H : Nat → AObj} {K : Cont} (hl : List House) (v : Valid p) (hs0 : 0 ≤ c.street) (hs1 : c.street < p.length) (hx : x ∈ rowAt p c.street)
  (ho : H o = .mapo (keysP p) (movesP p g)) (hq : H q = .row 3 (hl.map House.enc)) (hn : n = hl.length) (hoq : (q == o) = false) (e : toP p c x = hl)
  (hk : K (.tup []) [o, q] [(q, .dead), (o, .mapo (keysP p) (movesP p (updG p c g x)))]) : mapUpdateA Tryz.prog 121 (.mp o) (.agg [iV c.street, iV x.number, iV x.letter]) (.own q 3 0 n) H K := by
 have hf := frz_houses hq rfl hn
 refine upd_house (h := ⟨c.street, x⟩) (hs := housesOf p) (F := MapV g) ho v.wf v.nodup (house_in hs0 hs1 hx) (by rw [hf]; exact .list _) (by rw [hf]; simpa using fun e => by simp [e] at hoq) ?_
 rw [hf]
 have : (housesOf p).map (fun k => if k = ⟨c.street, x⟩ then AV.list (hl.map House.enc) else MapV g k) = movesP p (updG p c g x) := by
  refine List.map_congr_left (fun k _ => ?_)
  unfold MapV updG
  rw [mv_to, e]
  split <;> rfl
 rw [this]
 exact hk
theorem upd_mv_nil {p : Plan} {c : Change} {g : House → List House} {x : Plate} {o : Nat} {H : Nat → AObj} {K : Cont} (v : Valid p) (hs0 : 0 ≤ c.street) (hs1 : c.street < p.length) (hx : x ∈ rowAt p c.street)
  (ho : H o = .mapo (keysP p) (movesP p g)) (e : toP p c x = [])
  (hk : K (.tup []) [o] [(o, .mapo (keysP p) (movesP p (updG p c g x)))]) : mapUpdateA Tryz.prog 121 (.mp o) (.agg [iV c.street, iV x.number, iV x.letter]) nilV H K := by
 have hf : frzV H 3 nilV = (.list [], []) := rfl
 refine upd_house (h := ⟨c.street, x⟩) (hs := housesOf p) (F := MapV g) ho v.wf v.nodup (house_in hs0 hs1 hx) (by rw [hf]; exact .list _) (by rw [hf]; rfl) ?_
 rw [hf]
 have : (housesOf p).map (fun k => if k = ⟨c.street, x⟩ then AV.list [] else MapV g k) = movesP p (updG p c g x) := by
  refine List.map_congr_left (fun k _ => ?_)
  unfold MapV updG
  rw [mv_to, e]
  split <;> rfl
 rw [this]
 exact hk
@[reducible] def cBox (c : Change) : AObj := .box [iV c.kind, iV c.street, iV c.other, iV c.src.number, iV c.src.letter, iV c.dst.number, iV c.dst.letter]
@[reducible] def pBox (p : Plan) : AObj := .box [.list (p.map encStreet)]
attribute [go_sem] cBox pBox keysP movesP
structure Pre (p : Plan) (c : Change) : Prop where
 kind : 1 ≤ c.kind ∧ c.kind ≤ 7
 street : 0 ≤ c.street ∧ c.street < p.length
 other : c.kind = 4 ∨ c.kind = 7 → 0 ≤ c.other ∧ c.other < p.length ∧ c.other ≠ c.street
theorem Pre.fit {p : Plan} {c : Change} (h : Pre p c) (hf : fitsE p c = 0) : Fit p c := ⟨h.kind, h.street, h.other, hf⟩
def outM (p : Plan) (c : Change) : AObj := if fitsE p c = 0 then .mapo (keysP p) (movesP p (mv p c)) else .dead
end Go.Abs

namespace Go.Abs
open Go
@[go_sem] theorem natCast_inj' (m n : Nat) : ((m : Int) = (n : Int)) = (m = n) := by simp only [eq_iff_iff]; omega
@[go_sem] theorem natCast_beq (m n : Nat) : ((m : Int) == (n : Int)) = decide (m = n) := by rw [Bool.eq_iff_iff]; simp only [beq_iff_eq, decide_eq_true_eq]; omega
@[go_sem] theorem natCast_bne (m n : Nat) : ((m : Int) != (n : Int)) = !decide (m = n) := by simp [bne, natCast_beq]
@[go_sem] theorem zeroPlate_n : zeroPlate.number = 0 := rfl
@[go_sem] theorem zeroPlate_l : zeroPlate.letter = 0 := rfl
end Go.Abs

namespace Go.Abs
open Go Go.Proofs
set_option maxRecDepth 10000
theorem sp_rCheck (p : Plan) (h1 : p.length ≤ 4294967296) : Spec Tryz.prog 28 [encPlan p] [] (iV (check p)) [] := by
  have e0 : p.length = 0 → check p = 7 := fun h => by unfold check; rw [if_pos h]
  have e1 : ¬ p.length = 0 → 3 < p.length → check p = 6 := fun h h' => by unfold check; rw [if_neg h, if_pos h']
  have e2 : ¬ p.length = 0 → ¬ 3 < p.length → check p = checkRows p := fun h h' => by unfold check; rw [if_neg h, if_neg h']
  refine spec_body Tryz.func28 rfl (fun E hE => ?_); simp only [go_sem, Tryz.ntmps28]
  repeat' (first | (with_reducible (show runOps ..); first | (refine Qr rfl ?_; try intro K' hK; try simp only [go_sem, *]) | (refine Qi rfl rfl rfl rfl (fun hb K' hK => ?_) (fun hb => ?_) <;> (have hc := hb; try simp only [go_sem] at hc; simp only [go_sem, *]))) | (with_reducible (show Hold ..); first | refine Qh rfl ?_ | refine s_draw rfl Tryz.mixed (by kernel_rfl) ?_ | (refine s_cond rfl ⟨_, rfl, fun hb => ?_, fun hb => ?_⟩ <;> (have hc := hb; try simp only [go_sem] at hc)) | refine s_ret rfl ?_) | ((with_reducible refine Qb ?_ ?_); focus kernel_rfl) | ((with_reducible refine And.intro ?_ ?_); focus omega) | (refine contA_of hK ?_; clear hK K'; simp only [go_sem, *]) | (simp only [thenA, inBlockA, go_sem, *]))
  · (refine ⟨[_], [], [], ⟨rfl, trivial⟩, ?_⟩; simp only [go_sem, *])
    rw [e0 (by omega)]
  · (refine ⟨[_], [], [], ⟨rfl, trivial⟩, ?_⟩; simp only [go_sem, *])
    rw [e1 (by omega) (by omega)]
  · have e3 := e2 (by omega) (by omega)
    clear e0 e1 e2
    refine s_loop rfl (fun zn zN zenv zAs => ∃ (i : Nat), zn = (p.length) - i ∧ i ≤ (p.length) ∧ (checkRows (p.drop i) = checkRows p) ∧ zN = 56 ∧ zenv = [(3, iV i), (1, .ptr 0 0)] ∧ zAs = [.box [.list (p.map encStreet)]]) (p.length) ⟨[some 0], [], _, _, _, (by (simp only [Weak, go_sem, List.map_append, List.map_set, *] <;> (try simp (disch := omega) only [wrap_succ]) <;> (try simp) <;> (try omega))), 0, (by simp), (by simp), (by simp), rfl, rfl, rfl⟩ ?_; rintro _ _ _ _ ⟨i, rfl, hi, hP, rfl, rfl, rfl⟩
    repeat' (first | (with_reducible (show runOps ..); first | (refine Qr rfl ?_; try intro K' hK; try simp only [go_sem, *]) | (refine Qi rfl rfl rfl rfl (fun hb K' hK => ?_) (fun hb => ?_) <;> (have hc := hb; try simp only [go_sem] at hc; simp only [go_sem, *]))) | (with_reducible (show Hold ..); first | refine Qh rfl ?_ | refine s_draw rfl Tryz.mixed (by kernel_rfl) ?_ | (refine s_cond rfl ⟨_, rfl, fun hb => ?_, fun hb => ?_⟩ <;> (have hc := hb; try simp only [go_sem] at hc)) | refine s_ret rfl ?_) | ((with_reducible refine Qb ?_ ?_); focus kernel_rfl) | ((with_reducible refine And.intro ?_ ?_); focus omega) | (refine contA_of hK ?_; clear hK K'; simp only [go_sem, *]) | (simp only [thenA, inBlockA, go_sem, *]))
    · (refine ⟨[_], [], [], ⟨rfl, trivial⟩, ?_⟩; simp only [go_sem, *])
      rw [← hP, rows_step (by omega), if_pos (by omega)]
    · have hl : (p.getD i default).length ≤ 8 := by omega
      have hi' : i < p.length := by omega
      rw [rows_step hi', if_neg (by omega)] at hP
      generalize hll : p.getD i default = l at *
      refine s_loop rfl (fun zn zN zenv zAs => ∃ (k : Nat), zn = (l.length) - k ∧ k ≤ (l.length) ∧ (checkRow (prevP l k) (l.drop k) = checkRow none l) ∧ zN = 56 ∧ zenv = [(5, iV k), (4, encStreet l), (3, iV i), (1, .ptr 0 0)] ∧ zAs = [.box [.list (p.map encStreet)]]) (l.length) ⟨[some 0], [], _, _, _, (by (simp only [Weak, go_sem, List.map_append, List.map_set, *] <;> (try simp (disch := omega) only [wrap_succ]) <;> (try simp) <;> (try omega))), 0, (by simp), (by simp), (by simp [prevP]), rfl, rfl, rfl⟩ ?_; rintro _ _ _ _ ⟨k, rfl, hk, hK, rfl, rfl, rfl⟩
      have hw : 0 < k → IntKind.i64.wrap ((k : Int) - 1) = ((k - 1 : Nat) : Int) := fun h => by rw [wrap_i64 (by omega) (by omega)]; omega
      have hk1 : k < l.length → k - 1 < l.length := fun h => by omega
      have hstep : ∀ h : k < l.length, _ := fun h => checkRow_step h (prevP l k) rfl
      repeat' (first | (with_reducible (show runOps ..); first | (refine Qr rfl ?_; try intro K' hK; try simp only [go_sem, *]) | (refine Qi rfl rfl rfl rfl (fun hb K' hK => ?_) (fun hb => ?_) <;> (have hc := hb; try simp only [go_sem] at hc; simp only [go_sem, *]))) | (with_reducible (show Hold ..); first | refine Qh rfl ?_ | refine s_draw rfl Tryz.mixed (by kernel_rfl) ?_ | (refine s_cond rfl ⟨_, rfl, fun hb => ?_, fun hb => ?_⟩ <;> (have hc := hb; try simp only [go_sem] at hc)) | refine s_ret rfl ?_) | (with_reducible (show callA ..); first | ((first | refine call_s (sp_Plated _) ?_ ?_ | refine call_s (sp_Before _ _) ?_ ?_); (focus (simp only [go_sem, *]; done)); simp only [go_sem, *])) | ((with_reducible refine Qb ?_ ?_); focus kernel_rfl) | ((with_reducible refine And.intro ?_ ?_); focus omega) | (refine contA_of hK ?_; clear hK K'; simp only [go_sem, *]) | (simp only [thenA, inBlockA, go_sem, *]))
      · (refine ⟨[_], [], [], ⟨rfl, trivial⟩, ?_⟩; simp only [go_sem, *])
        rw [hstep (by omega), if_neg (by simp_all)] at hK
        rw [← hK, if_neg (by omega)] at hP
        rw [← hP]
      · (refine ⟨[_], [], [], ⟨rfl, trivial⟩, ?_⟩; simp only [go_sem, *])
        rw [hstep (by omega), if_pos (by assumption), if_neg (by intro h; rcases h with h | h; · omega
                                                                 · simp_all)] at hK
        rw [← hK, if_neg (by omega)] at hP
        rw [← hP]
      · refine ⟨_, (by omega), [some 0], [], _, _, _, (by (simp only [Weak, go_sem, List.map_append, List.map_set, *] <;> (try simp (disch := omega) only [wrap_succ]) <;> (try simp) <;> (try omega))), k + 1, rfl, (by omega), (by rw [← hK, hstep (by omega), if_pos (by assumption), if_pos (.inr (by assumption)), prevP_succ]), rfl, rfl, rfl⟩
      · refine ⟨_, (by omega), [some 0], [], _, _, _, (by (simp only [Weak, go_sem, List.map_append, List.map_set, *] <;> (try simp (disch := omega) only [wrap_succ]) <;> (try simp) <;> (try omega))), k + 1, rfl, (by omega), (by rw [← hK, hstep (by omega), if_pos (by assumption), if_pos (.inl (by omega)), prevP_succ]), rfl, rfl, rfl⟩
      · rw [drop_end (by omega)] at hK
        have h0 : checkRow none l = 0 := by rw [← hK]; cases prevP l k <;> rfl
        rw [if_pos h0] at hP
        refine ⟨_, (by omega), [some 0], [], _, _, _, (by (simp only [Weak, go_sem, List.map_append, List.map_set, *] <;> (try simp (disch := omega) only [wrap_succ]) <;> (try simp) <;> (try omega))), i + 1, rfl, (by omega), (by exact hP), rfl, rfl, rfl⟩
    · (refine ⟨[_], [], [], ⟨rfl, trivial⟩, ?_⟩; simp only [go_sem, *])
      rw [← hP, drop_end (by omega), checkRows]
end Go.Abs

namespace Go.Abs
open Go Go.Proofs
set_option maxRecDepth 10000
theorem houses_step {p : Plan} {i : Nat} (h : i < p.length) : housesFrom i (p.drop i) = (p.getD i default).map (fun x => (⟨(i : Nat), x⟩ : House)) ++ housesFrom (i + 1) (p.drop (i + 1)) := by
 rw [drop_cons h, housesFrom]
theorem map_step {l : List Plate} {k : Nat} (h : k < l.length) (i : Int) : (l.drop k).map (fun x => (⟨i, x⟩ : House)) = ⟨i, l.getD k default⟩ :: (l.drop (k + 1)).map (fun x => (⟨i, x⟩ : House)) := by
 rw [drop_cons h, List.map_cons]
theorem sp_HousesOf (p : Plan) (h1 : p.length ≤ 4294967296) (h2 : ∀ l, l ∈ p → l.length ≤ 4294967296) (h3 : (housesOf p).length ≤ 4294967296) : Spec Tryz.prog 34 [encPlan p] [] (.own 0 3 0 (housesOf p).length) [.row 3 ((housesOf p).map House.enc)] := by
 refine spec_body Tryz.func34 rfl (fun E hE => ?_); simp only [go_sem, Tryz.ntmps34]
 repeat' (first | (with_reducible (show runOps ..); first | (refine Qr rfl ?_; try intro K' hK; try simp only [go_sem, *])) | (with_reducible (show Hold ..); first | refine Qh rfl ?_ | (refine s_cond rfl ⟨_, rfl, fun hb => ?_, fun hb => ?_⟩ <;> (have hc := hb; try simp only [go_sem] at hc)) | refine s_ret rfl ?_) | ((with_reducible refine Qb ?_ ?_); focus kernel_rfl) | ((with_reducible refine And.intro ?_ ?_); focus omega) | (refine contA_of hK ?_; clear hK K'; simp only [go_sem, *]) | (simp only [thenA, inBlockA, go_sem, *]))
 refine s_loop rfl (fun zn zN zenv zAs => ∃ (i : Nat) (acc : List House), zn = (p.length) - i ∧ i ≤ (p.length) ∧ (acc ++ housesFrom i (p.drop i) = housesOf p) ∧ zN = 37 ∧ zenv = [(4, iV i), (3, .own 1 3 0 acc.length), (1, .ptr 0 0)] ∧ zAs = [.box [AV.list (p.map encStreet)], .row 3 (acc.map House.enc)]) (p.length) ⟨[some 0, none], [], _, _, _, (by (simp only [Weak, go_sem, List.map_append, List.map_set, *] <;> (try simp (disch := omega) only [wrap_succ]) <;> (try simp) <;> (try omega))), 0, [], (by simp), (by simp), (by simp [housesOf]), rfl, rfl, rfl⟩ ?_; rintro _ _ _ _ ⟨i, acc, rfl, hi, hP, rfl, rfl, rfl⟩
 repeat' (first | (with_reducible (show runOps ..); first | (refine Qr rfl ?_; try intro K' hK; try simp only [go_sem, *])) | (with_reducible (show Hold ..); first | refine Qh rfl ?_ | (refine s_cond rfl ⟨_, rfl, fun hb => ?_, fun hb => ?_⟩ <;> (have hc := hb; try simp only [go_sem] at hc)) | refine s_ret rfl ?_) | ((with_reducible refine Qb ?_ ?_); focus kernel_rfl) | ((with_reducible refine And.intro ?_ ?_); focus omega) | (refine contA_of hK ?_; clear hK K'; simp only [go_sem, *]) | (simp only [thenA, inBlockA, go_sem, *]))
 ·have hl := h2 _ (getD_mem ‹_›)
  rw [houses_step ‹_›] at hP
  generalize hll : p.getD i default = l at *
  refine s_loop rfl (fun zn zN zenv zAs => ∃ (k : Nat) (acc : List House), zn = (l.length) - k ∧ k ≤ (l.length) ∧ (acc ++ ((l.drop k).map (fun x => (⟨(i : Nat), x⟩ : House)) ++ housesFrom (i + 1) (p.drop (i + 1))) = housesOf p) ∧ zN = 37 ∧ zenv = [(5, iV k), (4, iV i), (3, .own 1 3 0 acc.length), (1, .ptr 0 0)] ∧ zAs = [.box [AV.list (p.map encStreet)], .row 3 (acc.map House.enc)]) (l.length) ⟨[some 0, some 1], [], _, _, _, (by (simp only [Weak, go_sem, List.map_append, List.map_set, *] <;> (try simp (disch := omega) only [wrap_succ]) <;> (try simp) <;> (try omega))), 0, acc, (by simp), (by simp), (by simpa using hP), rfl, rfl, rfl⟩ ?_; rintro _ _ _ _ ⟨k, acc, rfl, hk, hK, rfl, rfl, rfl⟩
  have hlen := congrArg List.length hK
  simp only [List.length_append, List.length_map, List.length_drop] at hlen
  repeat' (first | (with_reducible (show runOps ..); first | (refine Qr rfl ?_; try intro K' hK; try simp only [go_sem, *])) | (with_reducible (show Hold ..); first | refine Qh rfl ?_ | (refine s_cond rfl ⟨_, rfl, fun hb => ?_, fun hb => ?_⟩ <;> (have hc := hb; try simp only [go_sem] at hc)) | refine s_ret rfl ?_) | ((with_reducible refine Qb ?_ ?_); focus kernel_rfl) | ((with_reducible refine And.intro ?_ ?_); focus omega) | (refine contA_of hK ?_; clear hK K'; simp only [go_sem, *]) | (simp only [thenA, inBlockA, go_sem, *]))
  ·refine ⟨_, (by omega), [some 0, some 3], [], _, _, _, (by (simp only [Weak, go_sem, List.map_append, List.map_set, *] <;> (try simp (disch := omega) only [wrap_succ]) <;> (try simp) <;> (try omega))), k + 1, acc ++ [⟨(i : Nat), l.getD k default⟩], rfl, (by omega), (by rw [← hK, map_step (k := k) (by assumption)]; simp), rfl, rfl, rfl⟩
  ·rw [drop_end (by omega)] at hK
   refine ⟨_, (by omega), [some 0, some 1], [], _, _, _, (by (simp only [Weak, go_sem, List.map_append, List.map_set, *] <;> (try simp (disch := omega) only [wrap_succ]) <;> (try simp) <;> (try omega))), i + 1, acc, rfl, (by omega), (by simpa using hK), rfl, rfl, rfl⟩
 ·refine ⟨[_], [some 1], [], ⟨rfl, trivial⟩, ?_⟩
  rw [drop_end (by omega), housesFrom, List.append_nil] at hP
  simp only [go_sem, hP, *]
theorem sp_rHouses (p : Plan) (h1 : p.length ≤ 4294967296) (h2 : ∀ l, l ∈ p → l.length ≤ 4294967296) (h3 : (housesOf p).length ≤ 4294967296) : Spec Tryz.prog 116 [encPlan p] [] (.own 0 3 0 (housesOf p).length) [.row 3 ((housesOf p).map House.enc)] := by
 refine spec_body Tryz.func116 rfl (fun E hE => ?_); simp only [go_sem, Tryz.ntmps116]
 repeat' (first | (with_reducible (show runOps ..); first | (refine Qr rfl ?_; try intro K' hK; try simp only [go_sem, *])) | (with_reducible (show Hold ..); first | refine Qh rfl ?_ | (refine s_cond rfl ⟨_, rfl, fun hb => ?_, fun hb => ?_⟩ <;> (have hc := hb; try simp only [go_sem] at hc)) | refine s_ret rfl ?_) | ((with_reducible refine Qb ?_ ?_); focus kernel_rfl) | ((with_reducible refine And.intro ?_ ?_); focus omega) | (refine contA_of hK ?_; clear hK K'; simp only [go_sem, *]) | (simp only [thenA, inBlockA, go_sem, *]))
 refine s_loop rfl (fun zn zN zenv zAs => ∃ (i : Nat) (acc : List House), zn = (p.length) - i ∧ i ≤ (p.length) ∧ (acc ++ housesFrom i (p.drop i) = housesOf p) ∧ zN = 37 ∧ zenv = [(4, iV i), (3, .own 1 3 0 acc.length), (1, .ptr 0 0)] ∧ zAs = [.box [AV.list (p.map encStreet)], .row 3 (acc.map House.enc)]) (p.length) ⟨[some 0, none], [], _, _, _, (by (simp only [Weak, go_sem, List.map_append, List.map_set, *] <;> (try simp (disch := omega) only [wrap_succ]) <;> (try simp) <;> (try omega))), 0, [], (by simp), (by simp), (by simp [housesOf]), rfl, rfl, rfl⟩ ?_; rintro _ _ _ _ ⟨i, acc, rfl, hi, hP, rfl, rfl, rfl⟩
 repeat' (first | (with_reducible (show runOps ..); first | (refine Qr rfl ?_; try intro K' hK; try simp only [go_sem, *])) | (with_reducible (show Hold ..); first | refine Qh rfl ?_ | (refine s_cond rfl ⟨_, rfl, fun hb => ?_, fun hb => ?_⟩ <;> (have hc := hb; try simp only [go_sem] at hc)) | refine s_ret rfl ?_) | ((with_reducible refine Qb ?_ ?_); focus kernel_rfl) | ((with_reducible refine And.intro ?_ ?_); focus omega) | (refine contA_of hK ?_; clear hK K'; simp only [go_sem, *]) | (simp only [thenA, inBlockA, go_sem, *]))
 ·have hl := h2 _ (getD_mem ‹_›)
  rw [houses_step ‹_›] at hP
  generalize hll : p.getD i default = l at *
  refine s_loop rfl (fun zn zN zenv zAs => ∃ (k : Nat) (acc : List House), zn = (l.length) - k ∧ k ≤ (l.length) ∧ (acc ++ ((l.drop k).map (fun x => (⟨(i : Nat), x⟩ : House)) ++ housesFrom (i + 1) (p.drop (i + 1))) = housesOf p) ∧ zN = 37 ∧ zenv = [(5, iV k), (4, iV i), (3, .own 1 3 0 acc.length), (1, .ptr 0 0)] ∧ zAs = [.box [AV.list (p.map encStreet)], .row 3 (acc.map House.enc)]) (l.length) ⟨[some 0, some 1], [], _, _, _, (by (simp only [Weak, go_sem, List.map_append, List.map_set, *] <;> (try simp (disch := omega) only [wrap_succ]) <;> (try simp) <;> (try omega))), 0, acc, (by simp), (by simp), (by simpa using hP), rfl, rfl, rfl⟩ ?_; rintro _ _ _ _ ⟨k, acc, rfl, hk, hK, rfl, rfl, rfl⟩
  have hlen := congrArg List.length hK
  simp only [List.length_append, List.length_map, List.length_drop] at hlen
  repeat' (first | (with_reducible (show runOps ..); first | (refine Qr rfl ?_; try intro K' hK; try simp only [go_sem, *])) | (with_reducible (show Hold ..); first | refine Qh rfl ?_ | (refine s_cond rfl ⟨_, rfl, fun hb => ?_, fun hb => ?_⟩ <;> (have hc := hb; try simp only [go_sem] at hc)) | refine s_ret rfl ?_) | ((with_reducible refine Qb ?_ ?_); focus kernel_rfl) | ((with_reducible refine And.intro ?_ ?_); focus omega) | (refine contA_of hK ?_; clear hK K'; simp only [go_sem, *]) | (simp only [thenA, inBlockA, go_sem, *]))
  ·refine ⟨_, (by omega), [some 0, some 3], [], _, _, _, (by (simp only [Weak, go_sem, List.map_append, List.map_set, *] <;> (try simp (disch := omega) only [wrap_succ]) <;> (try simp) <;> (try omega))), k + 1, acc ++ [⟨(i : Nat), l.getD k default⟩], rfl, (by omega), (by rw [← hK, map_step (k := k) (by assumption)]; simp), rfl, rfl, rfl⟩
  ·rw [drop_end (by omega)] at hK
   refine ⟨_, (by omega), [some 0, some 1], [], _, _, _, (by (simp only [Weak, go_sem, List.map_append, List.map_set, *] <;> (try simp (disch := omega) only [wrap_succ]) <;> (try simp) <;> (try omega))), i + 1, acc, rfl, (by omega), (by simpa using hK), rfl, rfl, rfl⟩
 ·refine ⟨[_], [some 1], [], ⟨rfl, trivial⟩, ?_⟩
  rw [drop_end (by omega), housesFrom, List.append_nil] at hP
  simp only [go_sem, hP, *]
theorem sp_houses (p : Plan) (h1 : p.length ≤ 4294967296) (h2 : ∀ l, l ∈ p → l.length ≤ 4294967296) (h3 : (housesOf p).length ≤ 4294967296) : Spec Tryz.prog 160 [encPlan p] [] (.own 0 3 0 (housesOf p).length) [.row 3 ((housesOf p).map House.enc)] := by
 refine spec_body Tryz.func160 rfl (fun E hE => ?_); simp only [go_sem, Tryz.ntmps160]
 repeat' (first | (with_reducible (show runOps ..); first | (refine Qr rfl ?_; try intro K' hK; try simp only [go_sem, *])) | (with_reducible (show Hold ..); first | refine Qh rfl ?_ | (refine s_cond rfl ⟨_, rfl, fun hb => ?_, fun hb => ?_⟩ <;> (have hc := hb; try simp only [go_sem] at hc)) | refine s_ret rfl ?_) | ((with_reducible refine Qb ?_ ?_); focus kernel_rfl) | ((with_reducible refine And.intro ?_ ?_); focus omega) | (refine contA_of hK ?_; clear hK K'; simp only [go_sem, *]) | (simp only [thenA, inBlockA, go_sem, *]))
 refine s_loop rfl (fun zn zN zenv zAs => ∃ (i : Nat) (acc : List House), zn = (p.length) - i ∧ i ≤ (p.length) ∧ (acc ++ housesFrom i (p.drop i) = housesOf p) ∧ zN = 31 ∧ zenv = [(11, iV i), (10, iV p.length), (9, .list (p.map encStreet)), (3, .own 0 3 0 acc.length)] ∧ zAs = [.row 3 (acc.map House.enc)]) (p.length) ⟨[none], [], _, _, _, (by (simp only [Weak, go_sem, List.map_append, List.map_set, *] <;> (try simp (disch := omega) only [wrap_succ]) <;> (try simp) <;> (try omega))), 0, [], (by simp), (by simp), (by simp [housesOf]), rfl, rfl, rfl⟩ ?_; rintro _ _ _ _ ⟨i, acc, rfl, hi, hP, rfl, rfl, rfl⟩
 repeat' (first | (with_reducible (show runOps ..); first | (refine Qr rfl ?_; try intro K' hK; try simp only [go_sem, *])) | (with_reducible (show Hold ..); first | refine Qh rfl ?_ | (refine s_cond rfl ⟨_, rfl, fun hb => ?_, fun hb => ?_⟩ <;> (have hc := hb; try simp only [go_sem] at hc)) | refine s_ret rfl ?_) | ((with_reducible refine Qb ?_ ?_); focus kernel_rfl) | ((with_reducible refine And.intro ?_ ?_); focus omega) | (refine contA_of hK ?_; clear hK K'; simp only [go_sem, *]) | (simp only [thenA, inBlockA, go_sem, *]))
 ·have hl := h2 _ (getD_mem ‹_›)
  rw [houses_step ‹_›] at hP
  generalize hll : p.getD i default = l at *
  refine s_loop rfl (fun zn zN zenv zAs => ∃ (k : Nat) (acc : List House), zn = (l.length) - k ∧ k ≤ (l.length) ∧ (acc ++ ((l.drop k).map (fun x => (⟨(i : Nat), x⟩ : House)) ++ housesFrom (i + 1) (p.drop (i + 1))) = housesOf p) ∧ zN = 31 ∧ zenv = [(18, iV k), (17, iV l.length), (16, encStreet l), (4, iV i), (11, iV i), (10, iV p.length), (9, .list (p.map encStreet)), (3, .own 0 3 0 acc.length)] ∧ zAs = [.row 3 (acc.map House.enc)]) (l.length) ⟨[some 0], [], _, _, _, (by (simp only [Weak, go_sem, List.map_append, List.map_set, *] <;> (try simp (disch := omega) only [wrap_succ]) <;> (try simp) <;> (try omega))), 0, acc, (by simp), (by simp), (by simpa using hP), rfl, rfl, rfl⟩ ?_; rintro _ _ _ _ ⟨k, acc, rfl, hk, hK, rfl, rfl, rfl⟩
  have hlen := congrArg List.length hK
  simp only [List.length_append, List.length_map, List.length_drop] at hlen
  repeat' (first | (with_reducible (show runOps ..); first | (refine Qr rfl ?_; try intro K' hK; try simp only [go_sem, *])) | (with_reducible (show Hold ..); first | refine Qh rfl ?_ | (refine s_cond rfl ⟨_, rfl, fun hb => ?_, fun hb => ?_⟩ <;> (have hc := hb; try simp only [go_sem] at hc)) | refine s_ret rfl ?_) | ((with_reducible refine Qb ?_ ?_); focus kernel_rfl) | ((with_reducible refine And.intro ?_ ?_); focus omega) | (refine contA_of hK ?_; clear hK K'; simp only [go_sem, *]) | (simp only [thenA, inBlockA, go_sem, *]))
  ·refine ⟨_, (by omega), [some 3], [], _, _, _, (by (simp only [Weak, go_sem, List.map_append, List.map_set, *] <;> (try simp (disch := omega) only [wrap_succ]) <;> (try simp) <;> (try omega))), k + 1, acc ++ [⟨(i : Nat), l.getD k default⟩], rfl, (by omega), (by rw [← hK, map_step (k := k) (by assumption)]; simp), rfl, rfl, rfl⟩
  ·rw [drop_end (by omega)] at hK
   refine ⟨_, (by omega), [some 0], [], _, _, _, (by (simp only [Weak, go_sem, List.map_append, List.map_set, *] <;> (try simp (disch := omega) only [wrap_succ]) <;> (try simp) <;> (try omega))), i + 1, acc, rfl, (by omega), (by simpa using hK), rfl, rfl, rfl⟩
 ·refine ⟨[_], [some 0], [], ⟨rfl, trivial⟩, ?_⟩
  rw [drop_end (by omega), housesFrom, List.append_nil] at hP
  simp only [go_sem, hP, *]
end Go.Abs

namespace Go.Abs
open Go Go.Proofs
set_option maxRecDepth 10000
theorem take_notin {l : List Plate} {i : Nat} {x : Plate} (h : i < l.length) (hn : x ∉ l.take i) (hx : ¬ l.getD i default = x) : x ∉ l.take (i + 1) := by
 rw [List.take_add_one]
 simp only [List.getD_eq_getElem?_getD, List.getElem?_eq_getElem h, Option.getD_some] at hx
 simp only [List.getElem?_eq_getElem h, Option.toList_some, List.mem_append, List.mem_singleton, not_or]
 exact ⟨hn, fun e => hx e.symm⟩
theorem idx_found {l : List Plate} {i : Nat} {x : Plate} (h : i < l.length) (hn : x ∉ l.take i) (hx : l.getD i default = x) : idxP l x = i := by
 have hg : l.drop i = x :: l.drop (i + 1) := by rw [drop_cons h, hx]
 have hl : l = l.take i ++ x :: l.drop (i + 1) := by rw [← hg, List.take_append_drop]
 have hm : x ∈ l := by rw [hl]; simp
 rw [idxP_of hm]
 conv => lhs; rw [hl]
 rw [List.idxOf_append, if_neg hn]
 simp; omega
theorem idx_none {l : List Plate} {x : Plate} (hn : x ∉ l) : idxP l x = -1 := by simp [idxP, hn]
theorem sp_index (l : List Plate) (x : Plate) (h1 : l.length ≤ 4294967296) : Spec Tryz.prog 157 [encStreet l, x.enc] [] (iV (idxP l x)) [] := by
 refine spec_body Tryz.func157 rfl (fun E hE => ?_); simp only [go_sem, Tryz.ntmps157]
 repeat' (first | (with_reducible (show runOps ..); first | (refine Qr rfl ?_; try intro K' hK; try simp only [go_sem, *])) | (with_reducible (show Hold ..); first | refine Qh rfl ?_ | refine s_draw rfl Tryz.mixed (by kernel_rfl) ?_ | (refine s_cond rfl ⟨_, rfl, fun hb => ?_, fun hb => ?_⟩ <;> (have hc := hb; try simp only [go_sem] at hc)) | refine s_ret rfl ?_) | ((with_reducible refine Qb ?_ ?_); focus kernel_rfl) | ((with_reducible refine And.intro ?_ ?_); focus omega) | (refine contA_of hK ?_; clear hK K'; simp only [go_sem, *]) | (simp only [thenA, inBlockA, go_sem, *]))
 refine s_loop rfl (fun zn zN zenv zAs => ∃ (i : Nat), zn = (l.length) - i ∧ i ≤ (l.length) ∧ (x ∉ l.take i) ∧ zN = 19 ∧ zenv = [(5, iV i), (3, .ptr 0 0), (0, encStreet l)] ∧ zAs = [.box [iV x.number, iV x.letter]]) (l.length) ⟨[some 0], [], _, _, _, (by (simp only [Weak, go_sem, List.map_append, List.map_set, *] <;> (try simp (disch := omega) only [wrap_succ]) <;> (try simp) <;> (try omega))), 0, (by simp), (by simp), (by simp), rfl, rfl, rfl⟩ ?_; rintro _ _ _ _ ⟨i, rfl, hi, hP, rfl, rfl, rfl⟩
 repeat' (first | (with_reducible (show runOps ..); first | (refine Qr rfl ?_; try intro K' hK; try simp only [go_sem, *])) | (with_reducible (show Hold ..); first | refine Qh rfl ?_ | refine s_draw rfl Tryz.mixed (by kernel_rfl) ?_ | (refine s_cond rfl ⟨_, rfl, fun hb => ?_, fun hb => ?_⟩ <;> (have hc := hb; try simp only [go_sem] at hc)) | refine s_ret rfl ?_) | ((with_reducible refine Qb ?_ ?_); focus kernel_rfl) | ((with_reducible refine And.intro ?_ ?_); focus omega) | (refine contA_of hK ?_; clear hK K'; simp only [go_sem, *]) | (simp only [thenA, inBlockA, go_sem, *]))
 ·(refine ⟨[_], [], [], ⟨rfl, trivial⟩, ?_⟩; simp only [go_sem, *])
  rw [idx_found (by assumption) hP (by assumption)]
 ·refine ⟨_, (by omega), [some 0], [], _, _, _, (by (simp only [Weak, go_sem, List.map_append, List.map_set, *] <;> (try simp (disch := omega) only [wrap_succ]) <;> (try simp) <;> (try omega))), i + 1, rfl, (by omega), (by exact take_notin (by assumption) hP (by assumption)), rfl, rfl, rfl⟩
 ·(refine ⟨[_], [], [], ⟨rfl, trivial⟩, ?_⟩; simp only [go_sem, *])
  rw [List.take_of_length_le (by omega)] at hP
  rw [idx_none hP]
def tparB (b : Bool) (y : Plate) : Bool := (y.number.tmod 2 == 1) == b
theorem sp_parity (l : List Plate) (b : Bool) (h1 : l.length ≤ 4294967296) : Spec Tryz.prog 166 [encStreet l, bV b] [] (.own 0 2 0 (l.filter (tparB b)).length) [.row 2 ((l.filter (tparB b)).map Plate.enc)] := by
 refine spec_body Tryz.func166 rfl (fun E hE => ?_); simp only [go_sem, Tryz.ntmps166]
 repeat' (first | (with_reducible (show runOps ..); first | (refine Qr rfl ?_; try intro K' hK; try simp only [go_sem, *])) | (with_reducible (show Hold ..); first | refine Qh rfl ?_ | (refine s_cond rfl ⟨_, rfl, fun hb => ?_, fun hb => ?_⟩ <;> (have hc := hb; try simp only [go_sem] at hc)) | refine s_ret rfl ?_) | ((with_reducible refine Qb ?_ ?_); focus kernel_rfl) | ((with_reducible refine And.intro ?_ ?_); focus omega) | (refine contA_of hK ?_; clear hK K'; simp only [go_sem, *]) | (simp only [thenA, inBlockA, go_sem, *]))
 refine s_loop rfl (fun zn zN zenv zAs => ∃ (i : Nat) (acc : List Plate), zn = (l.length) - i ∧ i ≤ (l.length) ∧ (acc ++ (l.drop i).filter (tparB b) = l.filter (tparB b)) ∧ zN = 30 ∧ zenv = [(6, iV i), (5, .own 0 2 0 acc.length), (0, encStreet l), (1, bV b)] ∧ zAs = [.row 2 (acc.map Plate.enc)]) (l.length) ⟨[none], [], _, _, _, (by (simp only [Weak, go_sem, List.map_append, List.map_set, *] <;> (try simp (disch := omega) only [wrap_succ]) <;> (try simp) <;> (try omega))), 0, [], (by simp), (by simp), (by simp), rfl, rfl, rfl⟩ ?_; rintro _ _ _ _ ⟨i, acc, rfl, hi, hP, rfl, rfl, rfl⟩
 have hlen := congrArg List.length hP
 have hfl := List.length_filter_le (tparB b) l
 simp only [List.length_append] at hlen
 repeat' (first | (with_reducible (show runOps ..); first | (refine Qr rfl ?_; try intro K' hK; try simp only [go_sem, *])) | (with_reducible (show Hold ..); first | refine Qh rfl ?_ | (refine s_cond rfl ⟨_, rfl, fun hb => ?_, fun hb => ?_⟩ <;> (have hc := hb; try simp only [go_sem] at hc)) | refine s_ret rfl ?_) | ((with_reducible refine Qb ?_ ?_); focus kernel_rfl) | ((with_reducible refine And.intro ?_ ?_); focus omega) | (refine contA_of hK ?_; clear hK K'; simp only [go_sem, *]) | (simp only [thenA, inBlockA, go_sem, *]))
 ·refine ⟨_, (by omega), [some 2], [], _, _, _, (by (simp only [Weak, go_sem, List.map_append, List.map_set, *] <;> (try simp (disch := omega) only [wrap_succ]) <;> (try simp) <;> (try omega))), i + 1, acc ++ [l.getD i default], rfl, (by omega), (by rw [← hP, drop_cons (i := i) (by assumption), List.filter_cons, if_pos (by unfold tparB; assumption)]; simp), rfl, rfl, rfl⟩
 ·refine ⟨_, (by omega), [some 0], [], _, _, _, (by (simp only [Weak, go_sem, List.map_append, List.map_set, *] <;> (try simp (disch := omega) only [wrap_succ]) <;> (try simp) <;> (try omega))), i + 1, acc, rfl, (by omega), (by rw [← hP, drop_cons (i := i) (by assumption), List.filter_cons, if_neg (by unfold tparB; rw [Bool.not_eq_true]; assumption)]), rfl, rfl, rfl⟩
 ·refine ⟨[_], [some 0], [], ⟨rfl, trivial⟩, ?_⟩
  rw [drop_end (by omega), List.filter_nil, List.append_nil] at hP
  simp only [go_sem, hP, *]
theorem letter_eq {l : List Plate} {n : Int} {i : Nat} (hi : i < 4) (h : ∀ j : Nat, j < i → (⟨n, (j : Int) + 1⟩ : Plate) ∈ l) (hn : (⟨n, (i : Int) + 1⟩ : Plate) ∉ l) : letter l n = i + 1 := by
 have h0 := h 0; have h1 := h 1; have h2 := h 2
 have : i = 0 ∨ i = 1 ∨ i = 2 ∨ i = 3 := by omega
 rcases this with rfl | rfl | rfl | rfl <;> simp_all [letter]
theorem sp_letter (l : List Plate) (n : Int) (h1 : l.length ≤ 4294967296) : Spec Tryz.prog 158 [encStreet l, iV n] [] (iV (letter l n)) [] := by
 refine spec_body Tryz.func158 rfl (fun E hE => ?_); simp only [go_sem, Tryz.ntmps158]
 repeat' (first | (with_reducible (show runOps ..); first | (refine Qr rfl ?_; try intro K' hK; try simp only [go_sem, *])) | (with_reducible (show Hold ..); first | refine Qh rfl ?_ | (refine s_cond rfl ⟨_, rfl, fun hb => ?_, fun hb => ?_⟩ <;> (have hc := hb; try simp only [go_sem] at hc)) | refine s_ret rfl ?_) | ((with_reducible refine Qb ?_ ?_); focus kernel_rfl) | ((with_reducible refine And.intro ?_ ?_); focus omega) | (refine contA_of hK ?_; clear hK K'; simp only [go_sem, *]) | (simp only [thenA, inBlockA, go_sem, *]))
 refine s_loop rfl (fun zn zN zenv zAs => ∃ (i : Nat), zn = (4) - i ∧ i ≤ (4) ∧ (∀ j : Nat, j < i → (⟨n, (j : Int) + 1⟩ : Plate) ∈ l) ∧ zN = 17 ∧ zenv = [(5, iV ((i : Int) + 1)), (0, encStreet l), (1, iV n)] ∧ zAs = []) (4) ⟨[], [], _, _, _, (by (simp only [Weak, go_sem, List.map_append, List.map_set, *] <;> (try simp (disch := omega) only [wrap_succ]) <;> (try simp) <;> (try omega))), 0, (by simp), (by simp), (by simp), rfl, rfl, rfl⟩ ?_; rintro _ _ _ _ ⟨i, rfl, hi, hP, rfl, rfl, rfl⟩
 have hw : i < 4 → IntKind.i64.wrap ((i : Int) + 1 + 1) = (((i + 1 : Nat) : Int) + 1) := fun h => by rw [wrap_i64 (by omega) (by omega)]; omega
 repeat' (first | (with_reducible (show runOps ..); first | (refine Qr rfl ?_; try intro K' hK; try simp only [go_sem, *])) | (with_reducible (show Hold ..); first | refine Qh rfl ?_ | (refine s_cond rfl ⟨_, rfl, fun hb => ?_, fun hb => ?_⟩ <;> (have hc := hb; try simp only [go_sem] at hc)) | refine s_ret rfl ?_) | (with_reducible (show callA ..); first | (refine call_s (sp_index l ⟨n, (i : Int) + 1⟩ h1) ?_ ?_; (focus (simp only [go_sem, *]; done)); simp only [go_sem, *])) | ((with_reducible refine Qb ?_ ?_); focus kernel_rfl) | ((with_reducible refine And.intro ?_ ?_); focus omega) | (refine contA_of hK ?_; clear hK K'; simp only [go_sem, *]) | (simp only [thenA, inBlockA, go_sem, *]))
 ·(refine ⟨[_], [], [], ⟨rfl, trivial⟩, ?_⟩; simp only [go_sem, *])
  rw [letter_eq (by omega) hP (fun hm => by rw [idxP_of hm] at *; omega)]
 ·have hi4 : i < 4 := by omega
  refine ⟨_, (by omega), [], [], _, _, _, (by (simp only [Weak, go_sem, List.map_append, List.map_set, *] <;> (try simp (disch := omega) only [wrap_succ]) <;> (try simp) <;> (try omega))), i + 1, rfl, (by omega), (fun j hj => ?_), rfl, rfl, rfl⟩
  rcases Nat.lt_succ_iff_lt_or_eq.1 hj with h | h
  ·exact hP j h
  ·subst h
   exact Decidable.byContradiction fun hm => by rw [idx_none hm] at *; omega
 ·(refine ⟨[_], [], [], ⟨rfl, trivial⟩, ?_⟩; simp only [go_sem, *])
  have : i = 4 := by omega
  subst this
  have h0 := hP 0; have h1 := hP 1; have h2 := hP 2; have h3 := hP 3
  simp_all [letter]
theorem tmod_two {v : Int} (h : 0 ≤ v) : v.tmod 2 = v % 2 := by rw [Int.tmod_eq_emod_of_nonneg h]
theorem sp_base (l : List Plate) (h1 : l.length ≤ 4294967296) (h2 : ∀ x, x ∈ l → x.ok = true) : Spec Tryz.prog 156 [encStreet l] [] (iV (base l)) [] := by
 refine spec_body Tryz.func156 rfl (fun E hE => ?_); simp only [go_sem, Tryz.ntmps156]
 repeat' (first | (with_reducible (show runOps ..); first | (refine Qr rfl ?_; try intro K' hK; try simp only [go_sem, *])) | (with_reducible (show Hold ..); first | refine Qh rfl ?_ | (refine s_cond rfl ⟨_, rfl, fun hb => ?_, fun hb => ?_⟩ <;> (have hc := hb; try simp only [go_sem] at hc)) | refine s_ret rfl ?_) | ((with_reducible refine Qb ?_ ?_); focus kernel_rfl) | ((with_reducible refine And.intro ?_ ?_); focus omega) | (refine contA_of hK ?_; clear hK K'; simp only [go_sem, *]) | (simp only [thenA, inBlockA, go_sem, *]))
 refine s_loop rfl (fun zn zN zenv zAs => ∃ (i : Nat) (v : Int), zn = (l.length) - i ∧ i ≤ (l.length) ∧ (0 ≤ v ∧ v ≤ 40 ∧ (l.drop i).foldl (fun n x => max n x.number) v = l.foldl (fun n x => max n x.number) 0) ∧ zN = 22 ∧ zenv = [(4, iV i), (3, iV v), (0, encStreet l)] ∧ zAs = []) (l.length) ⟨[], [], _, _, _, (by (simp only [Weak, go_sem, List.map_append, List.map_set, *] <;> (try simp (disch := omega) only [wrap_succ]) <;> (try simp) <;> (try omega))), 0, 0, (by simp), (by simp), (by simp), rfl, rfl, rfl⟩ ?_; rintro _ _ _ _ ⟨i, v, rfl, hi, hP, rfl, rfl, rfl⟩
 repeat' (first | (with_reducible (show runOps ..); first | (refine Qr rfl ?_; try intro K' hK; try simp only [go_sem, *])) | (with_reducible (show Hold ..); first | refine Qh rfl ?_ | (refine s_cond rfl ⟨_, rfl, fun hb => ?_, fun hb => ?_⟩ <;> (have hc := hb; try simp only [go_sem] at hc)) | refine s_ret rfl ?_) | ((with_reducible refine Qb ?_ ?_); focus kernel_rfl) | ((with_reducible refine And.intro ?_ ?_); focus omega) | (refine contA_of hK ?_; clear hK K'; simp only [go_sem, *]) | (simp only [thenA, inBlockA, go_sem, *]))
 ·have hx := (ok_iff _).1 (h2 _ (getD_mem (by assumption)))
  have hm : maxI v (l.getD i default).number = max v (l.getD i default).number := by unfold maxI; split <;> omega
  obtain ⟨p1, p2, p3⟩ := hP
  refine ⟨_, (by omega), [], [], _, _, _, (by (simp only [Weak, go_sem, List.map_append, List.map_set, *] <;> (try simp (disch := omega) only [wrap_succ]) <;> (try simp) <;> (try omega))), i + 1, max v (l.getD i default).number, rfl, (by omega), (by refine ⟨by omega, by omega, ?_⟩; rw [← p3, drop_cons (i := i) (by assumption), List.foldl_cons]), rfl, rfl, rfl⟩
 ·(refine ⟨[_], [], [], ⟨rfl, trivial⟩, ?_⟩; simp only [go_sem, *])
  obtain ⟨p1, p2, p3⟩ := hP
  rw [drop_end (by omega), List.foldl_nil] at p3
  rw [base, ← p3, tmod_two p1, wrap_i64 (by omega) (by omega)]
end Go.Abs

namespace Go.Abs
open Go Go.Proofs
set_option maxRecDepth 10000
theorem sp_Index_plate (l : List Plate) (x : Plate) (h1 : l.length ≤ 4294967296) : Spec Tryz.prog 199 [encStreet l, x.enc] [] (iV (idxP l x)) [] := by
 refine spec_body Tryz.func199 rfl (fun E hE => ?_); simp only [go_sem, Tryz.ntmps199]
 repeat' (first | (with_reducible (show runOps ..); first | (refine Qr rfl ?_; try intro K' hK; try simp only [go_sem, *])) | (with_reducible (show Hold ..); first | refine Qh rfl ?_ | refine s_draw rfl Tryz.mixed (by kernel_rfl) ?_ | (refine s_cond rfl ⟨_, rfl, fun hb => ?_, fun hb => ?_⟩ <;> (have hc := hb; try simp only [go_sem] at hc)) | refine s_ret rfl ?_) | ((with_reducible refine Qb ?_ ?_); focus kernel_rfl) | ((with_reducible refine And.intro ?_ ?_); focus omega) | (refine contA_of hK ?_; clear hK K'; simp only [go_sem, *]) | (simp only [thenA, inBlockA, go_sem, *]))
 refine s_loop rfl (fun zn zN zenv zAs => ∃ (i : Nat), zn = (l.length) - i ∧ i ≤ (l.length) ∧ (x ∉ l.take i) ∧ zN = 19 ∧ zenv = [(8, iV i), (7, iV l.length), (3, .ptr 0 0), (0, encStreet l)] ∧ zAs = [.box [iV x.number, iV x.letter]]) (l.length) ⟨[some 0], [], _, _, _, (by (simp only [Weak, go_sem, List.map_append, List.map_set, *] <;> (try simp (disch := omega) only [wrap_succ]) <;> (try simp) <;> (try omega))), 0, (by simp), (by simp), (by simp), rfl, rfl, rfl⟩ ?_; rintro _ _ _ _ ⟨i, rfl, hi, hP, rfl, rfl, rfl⟩
 repeat' (first | (with_reducible (show runOps ..); first | (refine Qr rfl ?_; try intro K' hK; try simp only [go_sem, *])) | (with_reducible (show Hold ..); first | refine Qh rfl ?_ | refine s_draw rfl Tryz.mixed (by kernel_rfl) ?_ | (refine s_cond rfl ⟨_, rfl, fun hb => ?_, fun hb => ?_⟩ <;> (have hc := hb; try simp only [go_sem] at hc)) | refine s_ret rfl ?_) | ((with_reducible refine Qb ?_ ?_); focus kernel_rfl) | ((with_reducible refine And.intro ?_ ?_); focus omega) | (refine contA_of hK ?_; clear hK K'; simp only [go_sem, *]) | (simp only [thenA, inBlockA, go_sem, *]))
 ·(refine ⟨[_], [], [], ⟨rfl, trivial⟩, ?_⟩; simp only [go_sem, *])
  have e : x = l.getD i default := by assumption
  rw [← e]
  exact int_eq (idx_found (by assumption) hP e.symm)
 ·refine ⟨_, (by omega), [some 0], [], _, _, _, (by (simp only [Weak, go_sem, List.map_append, List.map_set, *] <;> (try simp (disch := omega) only [wrap_succ]) <;> (try simp) <;> (try omega))), i + 1, rfl, (by omega), (by exact take_notin (by assumption) hP (fun e => absurd e.symm (by assumption))), rfl, rfl, rfl⟩
 ·(refine ⟨[_], [], [], ⟨rfl, trivial⟩, ?_⟩; simp only [go_sem, *])
  rw [List.take_of_length_le (by omega)] at hP
  rw [idx_none hP]
theorem sp_Contains_plate (l : List Plate) (x : Plate) (h1 : l.length ≤ 4294967296) : Spec Tryz.prog 198 [encStreet l, x.enc] [] (bV (decide (x ∈ l))) [] := by
 refine spec_body Tryz.func198 rfl (fun E hE => ?_); simp only [go_sem, Tryz.ntmps198]
 repeat' (first | (with_reducible (show runOps ..); first | (refine Qr rfl ?_; try intro K' hK; try simp only [go_sem, *])) | (with_reducible (show Hold ..); first | refine Qh rfl ?_ | (refine s_cond rfl ⟨_, rfl, fun hb => ?_, fun hb => ?_⟩ <;> (have hc := hb; try simp only [go_sem] at hc)) | refine s_ret rfl ?_) | (with_reducible (show callA ..); first | (refine call_s (sp_Index_plate l x h1) ?_ ?_; (focus (simp only [go_sem, *]; done)); simp only [go_sem, *])) | ((with_reducible refine Qb ?_ ?_); focus kernel_rfl) | ((with_reducible refine And.intro ?_ ?_); focus omega) | (refine contA_of hK ?_; clear hK K'; simp only [go_sem, *]) | (simp only [thenA, inBlockA, go_sem, *]))
 (refine ⟨[_], [], [], ⟨rfl, trivial⟩, ?_⟩; simp only [go_sem, *])
 refine bool_eq ?_
 by_cases hm : x ∈ l
 ·simp [idxP_of hm, hm]
 ·simp [idx_none hm, hm]
theorem sp_at (s n k : Int) : Spec Tryz.prog 197 [iV s, iV n, iV k] [] (.agg [iV s, iV n, iV k]) [] := by
 refine spec_body Tryz.func197 rfl (fun E hE => ?_); simp only [go_sem, Tryz.ntmps197]
 repeat' (first | (with_reducible (show runOps ..); first | (refine Qr rfl ?_; try intro K' hK; try simp only [go_sem, *])) | (with_reducible (show Hold ..); first | refine Qh rfl ?_ | (refine s_cond rfl ⟨_, rfl, fun hb => ?_, fun hb => ?_⟩ <;> (have hc := hb; try simp only [go_sem] at hc)) | refine s_ret rfl ?_) | ((with_reducible refine Qb ?_ ?_); focus kernel_rfl) | ((with_reducible refine And.intro ?_ ?_); focus omega) | (refine contA_of hK ?_; clear hK K'; simp only [go_sem, *]) | (simp only [thenA, inBlockA, go_sem, *]))
 refine ⟨[.agg [iV s, iV n, iV k]], [], [], ⟨(by simp only [resOne, go_sem]), trivial⟩, ?_⟩; simp only [go_sem, *]
abbrev fnV (f : Nat) : AV := .raw (.func (.func f) #[] #[])
theorem sp_half {f : Nat} {pr : Plate → Bool} (hc : callable Tryz.prog f = true) (hf : ∀ x : Plate, Spec Tryz.prog f [x.enc] [] (bV (pr x)) []) (l : List Plate) (h1 : l.length ≤ 4294967296) :
  Spec Tryz.prog 194 [encStreet l, fnV f] [] (.own 0 2 0 (l.filter pr).length) [.row 2 ((l.filter pr).map Plate.enc)] := by
 refine spec_body Tryz.func194 rfl (fun E hE => ?_); simp only [go_sem, Tryz.ntmps194]
 repeat' (first | (with_reducible (show runOps ..); first | (refine Qr rfl ?_; try intro K' hK; try simp only [go_sem, *])) | (with_reducible (show Hold ..); first | refine Qh rfl ?_ | (refine s_cond rfl ⟨_, rfl, fun hb => ?_, fun hb => ?_⟩ <;> (have hc := hb; try simp only [go_sem] at hc)) | refine s_ret rfl ?_) | ((with_reducible refine Qb ?_ ?_); focus kernel_rfl) | ((with_reducible refine And.intro ?_ ?_); focus omega) | (refine contA_of hK ?_; clear hK K'; simp only [go_sem, *]) | (simp only [thenA, inBlockA, go_sem, *]))
 refine s_loop rfl (fun zn zN zenv zAs => ∃ (i : Nat) (acc : List Plate), zn = (l.length) - i ∧ i ≤ (l.length) ∧ (acc ++ (l.drop i).filter pr = l.filter pr) ∧ zN = 23 ∧ zenv = [(10, iV i), (9, iV l.length), (8, encStreet l), (5, .own 0 2 0 acc.length), (1, fnV f)] ∧ zAs = [.row 2 (acc.map Plate.enc)]) (l.length) ⟨[none], [], _, _, _, (by (simp only [Weak, go_sem, List.map_append, List.map_set, *] <;> (try simp (disch := omega) only [wrap_succ]) <;> (try simp) <;> (try omega))), 0, [], (by simp), (by simp), (by simp), rfl, rfl, rfl⟩ ?_; rintro _ _ _ _ ⟨i, acc, rfl, hi, hP, rfl, rfl, rfl⟩
 have hlen := congrArg List.length hP
 have hfl := List.length_filter_le pr l
 simp only [List.length_append] at hlen
 repeat' (first | (with_reducible (show runOps ..); first | (refine Qr rfl ?_; try intro K' hK; try simp only [go_sem, *])) | (with_reducible (show Hold ..); first | refine Qh rfl ?_ | (refine s_cond rfl ⟨_, rfl, fun hb => ?_, fun hb => ?_⟩ <;> (have hc := hb; try simp only [go_sem] at hc)) | refine s_ret rfl ?_) | (with_reducible (show callA ..); first | (refine call_s (hf (l.getD i default)) ?_ ?_; (focus (simp only [go_sem, *]; done)); simp only [go_sem, *])) | ((with_reducible refine Qb ?_ ?_); focus kernel_rfl) | ((with_reducible refine And.intro ?_ ?_); focus omega) | (refine contA_of hK ?_; clear hK K'; simp only [go_sem, *]) | (simp only [thenA, inBlockA, go_sem, *]))
 ·refine ⟨_, (by omega), [some 3], [], _, _, _, (by (simp only [Weak, go_sem, List.map_append, List.map_set, *] <;> (try simp (disch := omega) only [wrap_succ]) <;> (try simp) <;> (try omega))), i + 1, acc ++ [l.getD i default], rfl, (by omega), (by rw [← hP, drop_cons (i := i) (by assumption), List.filter_cons, if_pos (by assumption)]; simp), rfl, rfl, rfl⟩
 ·refine ⟨_, (by omega), [some 0], [], _, _, _, (by (simp only [Weak, go_sem, List.map_append, List.map_set, *] <;> (try simp (disch := omega) only [wrap_succ]) <;> (try simp) <;> (try omega))), i + 1, acc, rfl, (by omega), (by rw [← hP, drop_cons (i := i) (by assumption), List.filter_cons, if_neg (by rw [Bool.not_eq_true]; assumption)]), rfl, rfl, rfl⟩
 ·refine ⟨[_], [some 0], [], ⟨rfl, trivial⟩, ?_⟩
  rw [drop_end (by omega), List.filter_nil, List.append_nil] at hP
  simp only [go_sem, hP, *]
theorem sp_effects : Spec Tryz.prog 152 [] [] (.agg [.raw .nilFunc, fnV 169, fnV 170, fnV 171, fnV 172, fnV 173, fnV 174, fnV 175]) [] := by
 refine spec_body Tryz.func152 rfl (fun E hE => ?_); simp only [go_sem, Tryz.ntmps152]
 repeat' (first | (with_reducible (show runOps ..); first | (refine Qr rfl ?_; try intro K' hK; try simp only [go_sem, *])) | (with_reducible (show Hold ..); first | refine Qh rfl ?_ | (refine s_cond rfl ⟨_, rfl, fun hb => ?_, fun hb => ?_⟩ <;> (have hc := hb; try simp only [go_sem] at hc)) | refine s_ret rfl ?_) | ((with_reducible refine Qb ?_ ?_); focus kernel_rfl) | ((with_reducible refine And.intro ?_ ?_); focus omega) | (refine contA_of hK ?_; clear hK K'; simp only [go_sem, *]) | (simp only [thenA, inBlockA, go_sem, *]))
 refine ⟨[.agg [.raw .nilFunc, fnV 169, fnV 170, fnV 171, fnV 172, fnV 173, fnV 174, fnV 175]], [], [], ⟨(by simp only [resOne, go_sem]), trivial⟩, ?_⟩; simp only [go_sem, *]
end Go.Abs

namespace Go.Abs
open Go Go.Proofs
set_option maxRecDepth 10000
theorem sp_houses' {p : Plan} (v : Valid p) : Spec Tryz.prog 160 [encPlan p] [] (.own 0 3 0 (housesOf p).length) [.row 3 ((housesOf p).map House.enc)] := sp_houses p (by have := v.len; omega) (fun l hl => by have := (v.rows l hl).len; omega) (by have := v.count; omega)
theorem notin_take {α : Type} [Inhabited α] {l : List α} (hn : l.Nodup) {i : Nat} (h : i < l.length) : l.getD i default ∉ l.take i := fun hm => by
 obtain ⟨j, hj, e⟩ := List.getElem_of_mem hm
 simp at hj e
 rw [List.getElem?_eq_getElem h] at e
 simp only [Option.getD_some] at e
 have := (nodup_inj hn).1 e
 omega
theorem take_succ_getD {α : Type} [Inhabited α] {l : List α} {i : Nat} (h : i < l.length) : l.take (i + 1) = l.take i ++ [l.getD i default] := by
 rw [List.take_add_one]; simp [List.getD, h]
theorem sp_stay (p : Plan) (v : Valid p) : Spec Tryz.prog 151 [encPlan p] [] (.mp 0) [.mapo (keysP p) (movesP p fun h => [h])] := by
 have hn := v.nodup
 have hw := v.wf
 have hct := v.count
 refine spec_body Tryz.func151 rfl (fun E hE => ?_); simp only [go_sem, Tryz.ntmps151]
 repeat' (first | (with_reducible (show runOps ..); first | (refine Qr rfl ?_; try intro K' hK; try simp only [go_sem, *])) | (with_reducible (show Hold ..); first | refine Qh rfl ?_ | (refine s_cond rfl ⟨_, rfl, fun hb => ?_, fun hb => ?_⟩ <;> (have hc := hb; try simp only [go_sem] at hc)) | refine s_ret rfl ?_) | ((with_reducible refine Qb ?_ ?_); focus kernel_rfl) | ((with_reducible refine And.intro ?_ ?_); focus omega) | (refine contA_of hK ?_; clear hK K'; simp only [go_sem, *]) | (simp only [thenA, inBlockA, go_sem, *]))
 refine call_of [] [] (sp_houses' v) (by simp) (by simp only [go_sem]) trivial (by simp) (.inl rfl) (by simp [go_sem]) (by simp) ?_
 simp only [go_sem, *]
 repeat' (first | (with_reducible (show runOps ..); first | (refine Qr rfl ?_; try intro K' hK; try simp only [go_sem, *])) | (with_reducible (show Hold ..); first | refine Qh rfl ?_ | (refine s_cond rfl ⟨_, rfl, fun hb => ?_, fun hb => ?_⟩ <;> (have hc := hb; try simp only [go_sem] at hc)) | refine s_ret rfl ?_) | ((with_reducible refine Qb ?_ ?_); focus kernel_rfl) | ((with_reducible refine And.intro ?_ ?_); focus omega) | (refine contA_of hK ?_; clear hK K'; simp only [go_sem, *]) | (simp only [thenA, inBlockA, go_sem, *]))
 refine s_loop rfl (fun zn zN zenv zAs => ∃ (i : Nat), zn = ((housesOf p).length) - i ∧ i ≤ ((housesOf p).length) ∧ (NoP i) ∧ zN = 20 ∧ zenv = [(10, iV i), (9, iV (housesOf p).length), (8, .own 0 3 0 (housesOf p).length), (3, .mp 1)] ∧ zAs = [.row 3 ((housesOf p).map House.enc), .mapo (((housesOf p).take i).map House.key) (((housesOf p).take i).map (MapV fun h => [h]))]) ((housesOf p).length) ⟨[some 2, some 1], [], _, _, _, (by (simp only [Weak, go_sem, List.map_append, List.map_set, *] <;> (try simp (disch := omega) only [wrap_succ]) <;> (try simp) <;> (try omega))), 0, (by simp), (by simp), (by trivial), rfl, rfl, rfl⟩ ?_; rintro _ _ _ _ ⟨i, rfl, hi, hP, rfl, rfl, rfl⟩
 repeat' (first | (with_reducible (show runOps ..); first | (refine Qr rfl ?_; try intro K' hK; try simp only [go_sem, *])) | (with_reducible (show Hold ..); first | refine Qh rfl ?_ | (refine s_cond rfl ⟨_, rfl, fun hb => ?_, fun hb => ?_⟩ <;> (have hc := hb; try simp only [go_sem] at hc)) | refine s_ret rfl ?_) | ((with_reducible refine Qb ?_ ?_); focus kernel_rfl) | ((with_reducible refine And.intro ?_ ?_); focus omega) | (refine contA_of hK ?_; clear hK K'; simp only [go_sem, *]) | (simp only [thenA, inBlockA, go_sem, *]))
 ·refine new_house (h := (housesOf p).getD i default) (hs := (housesOf p).take i) (xs := ((housesOf p).take i).map (MapV fun h => [h])) (by simp only [go_sem, *]) (fun k hk => hw k (List.mem_of_mem_take hk)) (hw _ (getD_mem (by assumption))) (notin_take hn (by assumption)) (by simp only [go_sem, *]) (by simp only [go_sem, *]) ?_
  simp only [go_sem, *]
  repeat' (first | (with_reducible (show runOps ..); first | (refine Qr rfl ?_; try intro K' hK; try simp only [go_sem, *])) | (with_reducible (show Hold ..); first | refine Qh rfl ?_ | (refine s_cond rfl ⟨_, rfl, fun hb => ?_, fun hb => ?_⟩ <;> (have hc := hb; try simp only [go_sem] at hc)) | refine s_ret rfl ?_) | ((with_reducible refine Qb ?_ ?_); focus kernel_rfl) | ((with_reducible refine And.intro ?_ ?_); focus omega) | (refine contA_of hK ?_; clear hK K'; simp only [go_sem, *]) | (simp only [thenA, inBlockA, go_sem, *]))
  have e := take_succ_getD (l := housesOf p) (i := i) (by assumption)
  have hM : MapV (fun h => [h]) ((housesOf p).getD i default) = .list [((housesOf p).getD i default).enc] := rfl
  refine ⟨_, (by omega), [some 0, some 1], [], _, _, _, (by (simp only [Weak, go_sem, List.map_append, List.map_set, *] <;> (try simp (disch := omega) only [wrap_succ]) <;> (try simp) <;> (try omega))), i + 1, rfl, (by omega), (by trivial), rfl, rfl, rfl⟩
 ·refine ⟨[_], [some 1], [], ⟨rfl, trivial⟩, ?_⟩
  have e : (housesOf p).take i = housesOf p := List.take_of_length_le (by omega)
  simp only [go_sem, *]
theorem sp_swapped (p : Plan) (c : Change) (v : Valid p) (f : Fit p c) (k : c.kind = 2) : Spec Tryz.prog 170 [encPlan p, c.enc, .mp 0] [.mapo (keysP p) (movesP p fun h => [h])] (iV 0) [.mapo (keysP p) (movesP p (mv p c))] := by
  have hs : c.street.toNat < p.length := by have := f.street; omega
  have hs0 := f.street.1
  have hs1 := f.street.2
  have hr := v.row c.street
  have hl8 := hr.len
  refine spec_body Tryz.func170 rfl (fun E hE => ?_); simp only [go_sem, Tryz.ntmps170]
  repeat' (first | (with_reducible (show runOps ..); first | (refine Qr rfl ?_; try intro K' hK; try simp only [go_sem, *])) | (with_reducible (show Hold ..); first | refine Qh rfl ?_ | refine s_draw rfl Tryz.mixed (by kernel_rfl) ?_ | (refine s_cond rfl ⟨_, rfl, fun hb => ?_, fun hb => ?_⟩ <;> (have hc := hb; try simp only [go_sem] at hc)) | refine s_ret rfl ?_) | ((with_reducible refine Qb ?_ ?_); focus kernel_rfl) | ((with_reducible refine And.intro ?_ ?_); focus omega) | (refine contA_of hK ?_; clear hK K'; simp only [go_sem, *]) | (simp only [thenA, inBlockA, go_sem, *]))
  refine s_loop rfl (fun zn zN zenv zAs => ∃ (i : Nat) (g : House → List House), zn = ((rowAt p c.street).length) - i ∧ i ≤ ((rowAt p c.street).length) ∧ (Upd p c g ((rowAt p c.street).take i)) ∧ zN = 42 ∧ zenv = [(17, iV i), (16, iV (rowAt p c.street).length), (15, encStreet (rowAt p c.street)), (4, .ptr 2 0), (3, .ptr 1 0), (2, .mp 0)] ∧ zAs = [.mapo (keysP p) (movesP p g), pBox p, cBox c]) ((rowAt p c.street).length) ⟨[some 0, some 1, some 2], [], _, _, _, (by (simp only [Weak, go_sem, List.map_append, List.map_set, *] <;> (try simp (disch := omega) only [wrap_succ]) <;> (try simp) <;> (try omega))), 0, fun h => [h], (by simp), (by simp), (by exact Upd.nil _ _), rfl, rfl, rfl⟩ ?_; rintro _ _ _ _ ⟨i, g, rfl, hi, hP, rfl, rfl, rfl⟩
  have hx : i < (rowAt p c.street).length → 1 ≤ ((rowAt p c.street).getD i default).number ∧ ((rowAt p c.street).getD i default).number ≤ 40 := fun h => ((ok_iff _).1 (hr.ok _ (getD_mem h))).1
  have hw1 : i < (rowAt p c.street).length → IntKind.i64.wrap (((rowAt p c.street).getD i default).number - 1) = ((rowAt p c.street).getD i default).number - 1 := fun h => by have := hx h; exact wrap_i64 (by omega) (by omega)
  have hw2 : i < (rowAt p c.street).length → IntKind.i64.wrap (((rowAt p c.street).getD i default).number + 1) = ((rowAt p c.street).getD i default).number + 1 := fun h => by have := hx h; exact wrap_i64 (by omega) (by omega)
  repeat' (first | (with_reducible (show runOps ..); first | (refine Qr rfl ?_; try intro K' hK; try simp only [go_sem, *])) | (with_reducible (show Hold ..); first | refine Qh rfl ?_ | refine s_draw rfl Tryz.mixed (by kernel_rfl) ?_ | (refine s_cond rfl ⟨_, rfl, fun hb => ?_, fun hb => ?_⟩ <;> (have hc := hb; try simp only [go_sem] at hc)) | refine s_ret rfl ?_) | (with_reducible (show callA ..); first | ((first | refine call_s (sp_odd _) ?_ ?_ | refine call_s (sp_at _ _ _) ?_ ?_); (focus (simp only [go_sem, *]; done)); simp only [go_sem, *])) | ((with_reducible refine Qb ?_ ?_); focus kernel_rfl) | ((with_reducible refine And.intro ?_ ?_); focus omega) | (refine contA_of hK ?_; clear hK K'; simp only [go_sem, *]) | (simp only [thenA, inBlockA, go_sem, *]))
  · have ho : oddB ((rowAt p c.street).getD i default) = true := by
      have := hx (by assumption)
      rw [oddB_iff]
      have hc2 : ¬ ((rowAt p c.street).getD i default).number.tmod 2 = 0 := by assumption
      rw [tmod_two (by omega)] at hc2; omega
    refine upd_mv [⟨c.street, ⟨((rowAt p c.street).getD i default).number + 1, ((rowAt p c.street).getD i default).letter⟩⟩] (g := g) (x := (rowAt p c.street).getD i default) v hs0 hs1 (getD_mem (by assumption)) (by simp only [go_sem, *]) (by simp only [go_sem, *]) rfl rfl (by rw [to_swap k, if_pos ho]) ?_
    simp only [go_sem, *]
    repeat' (first | (with_reducible (show runOps ..); first | (refine Qr rfl ?_; try intro K' hK; try simp only [go_sem, *])) | (with_reducible (show Hold ..); first | refine Qh rfl ?_ | refine s_draw rfl Tryz.mixed (by kernel_rfl) ?_ | (refine s_cond rfl ⟨_, rfl, fun hb => ?_, fun hb => ?_⟩ <;> (have hc := hb; try simp only [go_sem] at hc)) | refine s_ret rfl ?_) | ((with_reducible refine Qb ?_ ?_); focus kernel_rfl) | ((with_reducible refine And.intro ?_ ?_); focus omega) | (refine contA_of hK ?_; clear hK K'; simp only [go_sem, *]) | (simp only [thenA, inBlockA, go_sem, *]))
    have e := take_succ_getD (l := rowAt p c.street) (i := i) (by assumption)
    refine ⟨_, (by omega), [some 0, some 1, some 2], [], _, _, _, (by (simp only [Weak, go_sem, List.map_append, List.map_set, *] <;> (try simp (disch := omega) only [wrap_succ]) <;> (try simp) <;> (try omega))), i + 1, updG p c g ((rowAt p c.street).getD i default), rfl, (by omega), (by rw [e]; exact hP.one _), rfl, rfl, rfl⟩
  · have ho : ¬ oddB ((rowAt p c.street).getD i default) = true := by
      have := hx (by assumption)
      rw [oddB_iff]
      have hc2 : ((rowAt p c.street).getD i default).number.tmod 2 = 0 := by assumption
      rw [tmod_two (by omega)] at hc2; omega
    refine upd_mv [⟨c.street, ⟨((rowAt p c.street).getD i default).number - 1, ((rowAt p c.street).getD i default).letter⟩⟩] (g := g) (x := (rowAt p c.street).getD i default) v hs0 hs1 (getD_mem (by assumption)) (by simp only [go_sem, *]) (by simp only [go_sem, *]) rfl rfl (by rw [to_swap k, if_neg ho]) ?_
    simp only [go_sem, *]
    repeat' (first | (with_reducible (show runOps ..); first | (refine Qr rfl ?_; try intro K' hK; try simp only [go_sem, *])) | (with_reducible (show Hold ..); first | refine Qh rfl ?_ | refine s_draw rfl Tryz.mixed (by kernel_rfl) ?_ | (refine s_cond rfl ⟨_, rfl, fun hb => ?_, fun hb => ?_⟩ <;> (have hc := hb; try simp only [go_sem] at hc)) | refine s_ret rfl ?_) | ((with_reducible refine Qb ?_ ?_); focus kernel_rfl) | ((with_reducible refine And.intro ?_ ?_); focus omega) | (refine contA_of hK ?_; clear hK K'; simp only [go_sem, *]) | (simp only [thenA, inBlockA, go_sem, *]))
    have e := take_succ_getD (l := rowAt p c.street) (i := i) (by assumption)
    refine ⟨_, (by omega), [some 0, some 1, some 2], [], _, _, _, (by (simp only [Weak, go_sem, List.map_append, List.map_set, *] <;> (try simp (disch := omega) only [wrap_succ]) <;> (try simp) <;> (try omega))), i + 1, updG p c g ((rowAt p c.street).getD i default), rfl, (by omega), (by rw [e]; exact hP.one _), rfl, rfl, rfl⟩
  · rw [List.take_of_length_le (by omega)] at hP
    have e := hP.fin (fun x hx hn => absurd hx hn)
    simp only [movesP] at e
    refine ⟨[_], [some 0], [], ⟨rfl, trivial⟩, ?_⟩
    simp only [go_sem, *]
end Go.Abs

namespace Go.Abs
open Go Go.Proofs
set_option maxRecDepth 10000
def prB (i : Nat) (x : Plate) : Bool := if i = 0 then x.number.tmod 2 != 0 else x.number.tmod 2 == 0
def halfL (l : List Plate) (i : Nat) : List Plate := l.filter (prB i)
theorem prB_eq {l : List Plate} (h : Sound l) {i : Nat} {x y : Plate} (hy : y ∈ halfL l i) (hx : x ∈ l) : prB i x = (oddB x == oddB y) := by
 obtain ⟨hy1, hy2⟩ := List.mem_filter.1 hy
 have ox := (ok_iff x).1 (h.ok x hx)
 have oy := (ok_iff y).1 (h.ok y hy1)
 rw [Bool.eq_iff_iff, oddB_eq]
 unfold prB at *
 rw [tmod_two (by omega)] at *
 split at hy2 <;> simp_all <;> omega
theorem halfL_own {l : List Plate} (h : Sound l) {i : Nat} {y : Plate} (hy : y ∈ halfL l i) : l.filter (fun z => oddB z == oddB y) = halfL l i :=
 List.filter_congr (fun x hx => (prB_eq h hy hx).symm)
theorem halfL_par {l : List Plate} (h : Sound l) {i : Nat} (hi : i < 2) {y : Plate} (hy : y ∈ halfL l i) : y.number % 2 = 1 - i := by
 obtain ⟨hy1, hy2⟩ := List.mem_filter.1 hy
 have oy := (ok_iff y).1 (h.ok y hy1)
 unfold prB at hy2
 rw [tmod_two (by omega)] at hy2
 have : i = 0 ∨ i = 1 := by omega
 rcases this with rfl | rfl <;> simp at hy2 <;> omega
theorem halfL_cov {l : List Plate} {x : Plate} (hx : x ∈ l) : x ∈ halfL l 0 ∨ x ∈ halfL l 1 := by
 by_cases h : x.number.tmod 2 = 0
 ·right; exact List.mem_filter.2 ⟨hx, by simp [prB, h]⟩
 ·left; exact List.mem_filter.2 ⟨hx, by simp [prB, h]⟩
theorem halfL_sub {l : List Plate} {i : Nat} {y : Plate} (hy : y ∈ halfL l i) : y ∈ l := (List.mem_filter.1 hy).1
theorem halfL_get {l : List Plate} (h : Sound l) {i j : Nat} (hj : j < (halfL l i).length) : (halfL l i).idxOf ((halfL l i).getD j default) = j := by
 have hn : (halfL l i).Nodup := h.nodup.filter _
 have hm := getD_mem hj
 have h1 := idx_get hm
 have h2 : (halfL l i)[j] = (halfL l i).getD j default := by simp [List.getD, hj]
 exact (nodup_inj hn).1 (h1.trans h2.symm)
theorem sp_turned (p : Plan) (c : Change) (v : Valid p) (f : Fit p c) (k : c.kind = 1) : Spec Tryz.prog 169 [encPlan p, c.enc, .mp 0] [.mapo (keysP p) (movesP p fun h => [h])] (iV 0) [.mapo (keysP p) (movesP p (mv p c))] := by
 have hs : c.street.toNat < p.length := by have := f.street; omega
 have hs0 := f.street.1
 have hs1 := f.street.2
 have hr := v.row c.street
 have hl8 := hr.len
 have hbl : ∀ i, (halfL (rowAt p c.street) i).length ≤ 8 := fun i => Nat.le_trans (List.length_filter_le _ _) hl8
 have hb0 := hbl 0
 have hb1 := hbl 1
 have spo : Spec Tryz.prog 194 [encStreet (rowAt p c.street), fnV 195] [] (.own 0 2 0 (halfL (rowAt p c.street) 0).length) [.row 2 ((halfL (rowAt p c.street) 0).map Plate.enc)] :=
  sp_half (by kernel_rfl) (fun x => by simpa [prB] using sp_odd x) (rowAt p c.street) (by omega)
 have spe : Spec Tryz.prog 194 [encStreet (rowAt p c.street), fnV 196] [] (.own 0 2 0 (halfL (rowAt p c.street) 1).length) [.row 2 ((halfL (rowAt p c.street) 1).map Plate.enc)] :=
  sp_half (by kernel_rfl) (fun x => by simpa [prB] using sp_even x) (rowAt p c.street) (by omega)
 obtain ⟨L, hL⟩ : ∃ L, L = [halfL (rowAt p c.street) 0, halfL (rowAt p c.street) 1] := ⟨_, rfl⟩
 have hLb : L.map encStreet = [encStreet (halfL (rowAt p c.street) 0), encStreet (halfL (rowAt p c.street) 1)] := by rw [hL]; rfl
 have hLl : L.length = 2 := by rw [hL]; rfl
 have hLg : ∀ i, i < 2 → L.getD i default = halfL (rowAt p c.street) i := fun i hi => by
  have : i = 0 ∨ i = 1 := by omega
  rcases this with rfl | rfl <;> rw [hL] <;> rfl
 have hcov : ∀ x, x ∈ rowAt p c.street → x ∈ (L.map id).flatten := fun x hx => by
  rw [hL]
  rcases halfL_cov hx with h | h <;> simp [h]
 clear hL
 refine spec_body Tryz.func169 rfl (fun E hE => ?_); simp only [go_sem, Tryz.ntmps169]
 repeat' (first | (with_reducible (show runOps ..); first | (refine Qr rfl ?_; try intro K' hK; try simp only [go_sem, *])) | (with_reducible (show Hold ..); first | refine Qh rfl ?_ | refine s_draw rfl Tryz.mixed (by kernel_rfl) ?_ | (refine s_cond rfl ⟨_, rfl, fun hb => ?_, fun hb => ?_⟩ <;> (have hc := hb; try simp only [go_sem] at hc)) | refine s_ret rfl ?_) | (with_reducible (show callA ..); first | (refine call_n (spo) ?_ ?_ ?_ ?_; (focus (simp only [go_sem, *]; done)); (focus (first | (simp; done) | (simp [go_sem]; done))); (focus (first | (simp; done) | (simp [go_sem]; done))); simp only [go_sem, *]) | (refine call_n (spe) ?_ ?_ ?_ ?_; (focus (simp only [go_sem, *]; done)); (focus (first | (simp; done) | (simp [go_sem]; done))); (focus (first | (simp; done) | (simp [go_sem]; done))); simp only [go_sem, *])) | ((with_reducible refine Qb ?_ ?_); focus kernel_rfl) | ((with_reducible refine And.intro ?_ ?_); focus omega) | (refine contA_of hK ?_; clear hK K'; simp only [go_sem, *]) | (simp only [thenA, inBlockA, go_sem, *]))
 refine s_loop rfl (fun zn zN zenv zAs => ∃ (i : Nat) (g : House → List House), zn = (2) - i ∧ i ≤ (2) ∧ (Upd p c g (((L.take i).map id).flatten)) ∧ zN = 57 ∧ zenv = [(27, iV i), (26, iV 2), (25, .own 3 1 0 2), (4, .ptr 2 0), (3, .ptr 1 0), (2, .mp 0)] ∧ zAs = [.mapo (keysP p) (movesP p g), pBox p, cBox c, .box (L.map encStreet)]) (2) ⟨[some 0, some 1, some 2, some 5], [3, 4], _, _, _, (by (simp only [Weak, go_sem, List.map_append, List.map_set, *] <;> (try simp (disch := omega) only [wrap_succ]) <;> (try simp) <;> (try omega))), 0, fun h => [h], (by simp), (by simp), (by exact Upd.nil _ _), rfl, rfl, rfl⟩ ?_; rintro _ _ _ _ ⟨i, g, rfl, hi, hP, rfl, rfl, rfl⟩
 clear hLb
 repeat' (first | (with_reducible (show runOps ..); first | (refine Qr rfl ?_; try intro K' hK; try simp only [go_sem, *])) | (with_reducible (show Hold ..); first | refine Qh rfl ?_ | refine s_draw rfl Tryz.mixed (by kernel_rfl) ?_ | (refine s_cond rfl ⟨_, rfl, fun hb => ?_, fun hb => ?_⟩ <;> (have hc := hb; try simp only [go_sem] at hc)) | refine s_ret rfl ?_) | ((with_reducible refine Qb ?_ ?_); focus kernel_rfl) | ((with_reducible refine And.intro ?_ ?_); focus omega) | (refine contA_of hK ?_; clear hK K'; simp only [go_sem, *]) | (simp only [thenA, inBlockA, go_sem, *]))
 ·have hi2 : i < 2 := by omega
  have hlb := hbl i
  generalize hl : halfL (rowAt p c.street) i = l at *
  refine s_loop rfl (fun zn zN zenv zAs => ∃ (j : Nat) (g : House → List House), zn = (l.length) - j ∧ j ≤ (l.length) ∧ (Upd p c g (((L.take i).map id).flatten ++ l.take j)) ∧ zN = 57 ∧ zenv = [(33, iV j), (32, iV l.length), (31, encStreet l), (8, encStreet l), (27, iV i), (26, iV 2), (25, .own 3 1 0 2), (4, .ptr 2 0), (3, .ptr 1 0), (2, .mp 0)] ∧ zAs = [.mapo (keysP p) (movesP p g), pBox p, cBox c, .box (L.map encStreet)]) (l.length) ⟨[some 0, some 1, some 2, some 3], [], _, _, _, (by (simp only [Weak, go_sem, List.map_append, List.map_set, *] <;> (try simp (disch := omega) only [wrap_succ]) <;> (try simp) <;> (try omega))), 0, g, (by simp), (by simp), (by simpa using hP), rfl, rfl, rfl⟩ ?_; rintro _ _ _ _ ⟨j, g, rfl, hj, hQ, rfl, rfl, rfl⟩
  have hw1 : j < l.length → IntKind.i64.wrap ((l.length : Int) - 1) = ((l.length - 1 : Nat) : Int) := fun h => by rw [wrap_i64 (by omega) (by omega)]; omega
  have hw2 : j < l.length → IntKind.i64.wrap (((l.length - 1 : Nat) : Int) - (j : Int)) = ((l.length - 1 - j : Nat) : Int) := fun h => by rw [wrap_i64 (by omega) (by omega)]; omega
  have hw3 : j < l.length → l.length - 1 - j < l.length := fun h => by omega
  repeat' (first | (with_reducible (show runOps ..); first | (refine Qr rfl ?_; try intro K' hK; try simp only [go_sem, *])) | (with_reducible (show Hold ..); first | refine Qh rfl ?_ | refine s_draw rfl Tryz.mixed (by kernel_rfl) ?_ | (refine s_cond rfl ⟨_, rfl, fun hb => ?_, fun hb => ?_⟩ <;> (have hc := hb; try simp only [go_sem] at hc)) | refine s_ret rfl ?_) | ((with_reducible refine Qb ?_ ?_); focus kernel_rfl) | ((with_reducible refine And.intro ?_ ?_); focus omega) | (refine contA_of hK ?_; clear hK K'; simp only [go_sem, *]) | (simp only [thenA, inBlockA, go_sem, *]))
  ·have hmj : l.getD j default ∈ l := getD_mem (by assumption)
   have hown := halfL_own hr (i := i) (y := l.getD j default) (by rw [hl]; exact hmj)
   have hjx : l.idxOf (l.getD j default) = j := by have := halfL_get hr (i := i) (j := j) (by rw [hl]; assumption); rwa [hl] at this
   refine upd_mv [⟨c.street, l.getD (l.length - 1 - j) default⟩] (g := g) (x := l.getD j default) v hs0 hs1 (halfL_sub (i := i) (by rw [hl]; exact hmj)) (by simp only [go_sem, *]) (by simp only [go_sem, *]) rfl rfl (by rw [to_turn k, hown, hl, hjx]) ?_
   simp only [go_sem, *]
   repeat' (first | (with_reducible (show runOps ..); first | (refine Qr rfl ?_; try intro K' hK; try simp only [go_sem, *])) | (with_reducible (show Hold ..); first | refine Qh rfl ?_ | refine s_draw rfl Tryz.mixed (by kernel_rfl) ?_ | (refine s_cond rfl ⟨_, rfl, fun hb => ?_, fun hb => ?_⟩ <;> (have hc := hb; try simp only [go_sem] at hc)) | refine s_ret rfl ?_) | ((with_reducible refine Qb ?_ ?_); focus kernel_rfl) | ((with_reducible refine And.intro ?_ ?_); focus omega) | (refine contA_of hK ?_; clear hK K'; simp only [go_sem, *]) | (simp only [thenA, inBlockA, go_sem, *]))
   have e := take_succ_getD (l := l) (i := j) (by assumption)
   refine ⟨_, (by omega), [some 0, some 1, some 2, some 3], [], _, _, _, (by (simp only [Weak, go_sem, List.map_append, List.map_set, *] <;> (try simp (disch := omega) only [wrap_succ]) <;> (try simp) <;> (try omega))), j + 1, updG p c g (l.getD j default), rfl, (by omega), (by rw [e, ← List.append_assoc]; exact hQ.one _), rfl, rfl, rfl⟩
  ·have e2 : l.take j = l := List.take_of_length_le (by omega)
   rw [e2] at hQ
   have e := take_succ_getD (l := L) (i := i) (by omega)
   rw [hLg i hi2, hl] at e
   refine ⟨_, (by omega), [some 0, some 1, some 2, some 3], [], _, _, _, (by (simp only [Weak, go_sem, List.map_append, List.map_set, *] <;> (try simp (disch := omega) only [wrap_succ]) <;> (try simp) <;> (try omega))), i + 1, g, rfl, (by omega), (by rw [e]; simpa using hQ), rfl, rfl, rfl⟩
 ·rw [List.take_of_length_le (by omega)] at hP
  have e := hP.fin (fun x hx hn => absurd (hcov x hx) hn)
  simp only [movesP] at e
  refine ⟨[_], [some 0], [], ⟨rfl, trivial⟩, ?_⟩
  simp only [go_sem, *]
end Go.Abs

namespace Go.Abs
open Go Go.Proofs
set_option maxRecDepth 10000
theorem sp_counted (p : Plan) (c : Change) (v : Valid p) (f : Fit p c) (k : c.kind = 3) : Spec Tryz.prog 171 [encPlan p, c.enc, .mp 0] [.mapo (keysP p) (movesP p fun h => [h])] (iV 0) [.mapo (keysP p) (movesP p (mv p c))] := by
 have hs : c.street.toNat < p.length := by have := f.street; omega
 have hs0 := f.street.1
 have hs1 := f.street.2
 have hr := v.row c.street
 have hl8 := hr.len
 have hbl : ∀ i, (halfL (rowAt p c.street) i).length ≤ 8 := fun i => Nat.le_trans (List.length_filter_le _ _) hl8
 obtain ⟨Fs, hFs⟩ : ∃ Fs : List Nat, Fs = [195, 196] := ⟨_, rfl⟩
 have hFb : Fs.map fnV = [fnV 195, fnV 196] := by rw [hFs]; rfl
 have hFl : Fs.length = 2 := by rw [hFs]; rfl
 have hsp : ∀ i, i < 2 → Spec Tryz.prog 194 [encStreet (rowAt p c.street), fnV (Fs.getD i default)] [] (.own 0 2 0 (halfL (rowAt p c.street) i).length) [.row 2 ((halfL (rowAt p c.street) i).map Plate.enc)] := fun i hi => by
  have : i = 0 ∨ i = 1 := by omega
  rcases this with rfl | rfl <;> rw [hFs]
  ·exact sp_half (by kernel_rfl) (fun x => by simpa [prB] using sp_odd x) (rowAt p c.street) (by omega)
  ·exact sp_half (by kernel_rfl) (fun x => by simpa [prB] using sp_even x) (rowAt p c.street) (by omega)
 clear hFs
 refine spec_body Tryz.func171 rfl (fun E hE => ?_); simp only [go_sem, Tryz.ntmps171]
 repeat' (first | (with_reducible (show runOps ..); first | (refine Qr rfl ?_; try intro K' hK; try simp only [go_sem, *])) | (with_reducible (show Hold ..); first | refine Qh rfl ?_ | refine s_draw rfl Tryz.mixed (by kernel_rfl) ?_ | (refine s_cond rfl ⟨_, rfl, fun hb => ?_, fun hb => ?_⟩ <;> (have hc := hb; try simp only [go_sem] at hc)) | refine s_ret rfl ?_) | ((with_reducible refine Qb ?_ ?_); focus kernel_rfl) | ((with_reducible refine And.intro ?_ ?_); focus omega) | (refine contA_of hK ?_; clear hK K'; simp only [go_sem, *]) | (simp only [thenA, inBlockA, go_sem, *]))
 refine s_loop rfl (fun zn zN zenv zAs => ∃ (i : Nat) (g : House → List House), zn = (2) - i ∧ i ≤ (2) ∧ (Upd p c g (((List.range i).map (halfL (rowAt p c.street))).flatten)) ∧ zN = 48 ∧ zenv = [(13, iV i), (12, iV 2), (11, .own 3 1 0 2), (4, .ptr 2 0), (3, .ptr 1 0), (2, .mp 0)] ∧ zAs = [.mapo (keysP p) (movesP p g), pBox p, cBox c, .row 1 (Fs.map fnV)]) (2) ⟨[some 0, some 1, some 2, some 3], [], _, _, _, (by (simp only [Weak, go_sem, List.map_append, List.map_set, *] <;> (try simp (disch := omega) only [wrap_succ]) <;> (try simp) <;> (try omega))), 0, fun h => [h], (by simp), (by simp), (by exact Upd.nil _ _), rfl, rfl, rfl⟩ ?_; rintro _ _ _ _ ⟨i, g, rfl, hi, hP, rfl, rfl, rfl⟩
 clear hFb
 repeat' (first | (with_reducible (show runOps ..); first | (refine Qr rfl ?_; try intro K' hK; try simp only [go_sem, *])) | (with_reducible (show Hold ..); first | refine Qh rfl ?_ | refine s_draw rfl Tryz.mixed (by kernel_rfl) ?_ | (refine s_cond rfl ⟨_, rfl, fun hb => ?_, fun hb => ?_⟩ <;> (have hc := hb; try simp only [go_sem] at hc)) | refine s_ret rfl ?_) | (with_reducible (show callA ..); first | (refine call_n (hsp i (by omega)) ?_ ?_ ?_ ?_; (focus (simp only [go_sem, *]; done)); (focus (first | (simp; done) | (simp [go_sem]; done))); (focus (first | (simp; done) | (simp [go_sem]; done))); simp only [go_sem, *])) | ((with_reducible refine Qb ?_ ?_); focus kernel_rfl) | ((with_reducible refine And.intro ?_ ?_); focus omega) | (refine contA_of hK ?_; clear hK K'; simp only [go_sem, *]) | (simp only [thenA, inBlockA, go_sem, *]))
 ·have hi2 : i < 2 := by omega
  have hlb := hbl i
  generalize hl : halfL (rowAt p c.street) i = l at *
  refine s_loop rfl (fun zn zN zenv zAs => ∃ (j : Nat) (g : House → List House), zn = (l.length) - j ∧ j ≤ (l.length) ∧ (Upd p c g (((List.range i).map (halfL (rowAt p c.street))).flatten ++ l.take j)) ∧ zN = 48 ∧ zenv = [(27, iV j), (26, iV l.length), (25, .own 4 2 0 l.length), (7, iV i), (13, iV i), (12, iV 2), (11, .own 3 1 0 2), (4, .ptr 2 0), (3, .ptr 1 0), (2, .mp 0)] ∧ zAs = [.mapo (keysP p) (movesP p g), pBox p, cBox c, .row 1 (Fs.map fnV), .row 2 (l.map Plate.enc)]) (l.length) ⟨[some 0, some 1, some 2, some 3, some 4], [], _, _, _, (by (simp only [Weak, go_sem, List.map_append, List.map_set, *] <;> (try simp (disch := omega) only [wrap_succ]) <;> (try simp) <;> (try omega))), 0, g, (by simp), (by simp), (by simpa using hP), rfl, rfl, rfl⟩ ?_; rintro _ _ _ _ ⟨j, g, rfl, hj, hQ, rfl, rfl, rfl⟩
  have hw1 : j < l.length → IntKind.i64.wrap (2 * (j : Int)) = 2 * (j : Int) := fun h => wrap_i64 (by omega) (by omega)
  have hw2 : j < l.length → IntKind.i64.wrap (2 * (j : Int) + 1) = 2 * (j : Int) + 1 := fun h => wrap_i64 (by omega) (by omega)
  have hw3 : j < l.length → IntKind.i64.wrap (2 * (j : Int) + 1 + (i : Int)) = 2 * (j : Int) + 1 + (i : Int) := fun h => wrap_i64 (by omega) (by omega)
  repeat' (first | (with_reducible (show runOps ..); first | (refine Qr rfl ?_; try intro K' hK; try simp only [go_sem, *])) | (with_reducible (show Hold ..); first | refine Qh rfl ?_ | refine s_draw rfl Tryz.mixed (by kernel_rfl) ?_ | (refine s_cond rfl ⟨_, rfl, fun hb => ?_, fun hb => ?_⟩ <;> (have hc := hb; try simp only [go_sem] at hc)) | refine s_ret rfl ?_) | (with_reducible (show callA ..); first | (refine call_s (sp_at _ _ _) ?_ ?_; (focus (simp only [go_sem, *]; done)); simp only [go_sem, *])) | ((with_reducible refine Qb ?_ ?_); focus kernel_rfl) | ((with_reducible refine And.intro ?_ ?_); focus omega) | (refine contA_of hK ?_; clear hK K'; simp only [go_sem, *]) | (simp only [thenA, inBlockA, go_sem, *]))
  ·have hmj : l.getD j default ∈ l := getD_mem (by assumption)
   have hown := halfL_own hr (i := i) (y := l.getD j default) (by rw [hl]; exact hmj)
   have hjx : l.idxOf (l.getD j default) = j := by have := halfL_get hr (i := i) (j := j) (by rw [hl]; assumption); rwa [hl] at this
   have hpar := halfL_par hr hi2 (y := l.getD j default) (by rw [hl]; exact hmj)
   refine upd_mv [⟨c.street, ⟨2 * (j : Int) + 1 + (i : Int), 0⟩⟩] (g := g) (x := l.getD j default) v hs0 hs1 (halfL_sub (i := i) (by rw [hl]; exact hmj)) (by simp only [go_sem, *]) (by simp only [go_sem, *]) rfl rfl (by rw [to_count k, hown, hl, hjx, hpar]; congr 3; omega) ?_
   simp only [go_sem, *]
   repeat' (first | (with_reducible (show runOps ..); first | (refine Qr rfl ?_; try intro K' hK; try simp only [go_sem, *])) | (with_reducible (show Hold ..); first | refine Qh rfl ?_ | refine s_draw rfl Tryz.mixed (by kernel_rfl) ?_ | (refine s_cond rfl ⟨_, rfl, fun hb => ?_, fun hb => ?_⟩ <;> (have hc := hb; try simp only [go_sem] at hc)) | refine s_ret rfl ?_) | ((with_reducible refine Qb ?_ ?_); focus kernel_rfl) | ((with_reducible refine And.intro ?_ ?_); focus omega) | (refine contA_of hK ?_; clear hK K'; simp only [go_sem, *]) | (simp only [thenA, inBlockA, go_sem, *]))
   have e := take_succ_getD (l := l) (i := j) (by assumption)
   refine ⟨_, (by omega), [some 0, some 1, some 2, some 3, some 4], [], _, _, _, (by (simp only [Weak, go_sem, List.map_append, List.map_set, *] <;> (try simp (disch := omega) only [wrap_succ]) <;> (try simp) <;> (try omega))), j + 1, updG p c g (l.getD j default), rfl, (by omega), (by rw [e, ← List.append_assoc]; exact hQ.one _), rfl, rfl, rfl⟩
  ·have e2 : l.take j = l := List.take_of_length_le (by omega)
   rw [e2] at hQ
   refine ⟨_, (by omega), [some 0, some 1, some 2, some 3], [], _, _, _, (by (simp only [Weak, go_sem, List.map_append, List.map_set, *] <;> (try simp (disch := omega) only [wrap_succ]) <;> (try simp) <;> (try omega))), i + 1, g, rfl, (by omega), (by rw [List.range_succ]; simpa [hl] using hQ), rfl, rfl, rfl⟩
 ·have hi2 : i = 2 := by omega
  subst hi2
  have e := hP.fin (fun x hx hn => absurd (by rcases halfL_cov hx with h | h <;> simp [List.range_succ, h]) hn)
  simp only [movesP] at e
  refine ⟨[_], [some 0], [], ⟨rfl, trivial⟩, ?_⟩
  simp only [go_sem, *]
end Go.Abs

namespace Go.Abs
open Go Go.Proofs
set_option maxRecDepth 10000
theorem foldl_max_le (m : Int) : ∀ (l : List Plate) (n : Int), n ≤ m → (∀ x, x ∈ l → x.number ≤ m) → l.foldl (fun n x => max n x.number) n ≤ m
 | [], n, h, _ => h
 | x :: r, n, h, hx => by
  rw [List.foldl_cons]
  have := hx x (by simp)
  exact foldl_max_le m r _ (by omega) (fun y hy => hx y (by simp [hy]))
theorem foldl_max_ge : ∀ (l : List Plate) (n : Int), n ≤ l.foldl (fun n x => max n x.number) n ∧ ∀ x, x ∈ l → x.number ≤ l.foldl (fun n x => max n x.number) n
  | [], n => by simp
  | y :: r, n => by
    obtain ⟨h1, h2⟩ := foldl_max_ge r (max n y.number)
    rw [List.foldl_cons]
    exact ⟨by omega, fun x hx => by rcases List.mem_cons.1 hx with rfl | hx; · omega
                                    · exact h2 x hx⟩
theorem base_last {l : List Plate} (h : Sound l) (h0 : 0 < l.length) : base l = (l.getD (l.length - 1) default).number + (l.getD (l.length - 1) default).number.tmod 2 := by
 have hm : l.getD (l.length - 1) default ∈ l := getD_mem (by omega)
 have hle : ∀ x, x ∈ l → x.number ≤ (l.getD (l.length - 1) default).number := fun x hx => by
  obtain ⟨i, hi, rfl⟩ := List.getElem_of_mem hx
  have hg : l.getD (l.length - 1) default = l[l.length - 1] := by simp [List.getD, show l.length - 1 < l.length by omega]
  rw [hg]
  by_cases e : i = l.length - 1
  ·subst e; omega
  ·have := (List.pairwise_iff_getElem.1 h.sorted) i (l.length - 1) hi (by omega) (by omega)
   rw [Plate.lt_iff] at this; omega
 have ho := (ok_iff _).1 (h.ok _ hm)
 have h1 := foldl_max_le _ l 0 (by omega) hle
 have h2 := (foldl_max_ge l 0).2 _ hm
 unfold base
 rw [tmod_two (by omega)]
 simp only
 omega
theorem base_le {l : List Plate} (h : Sound l) : 0 ≤ base l ∧ base l ≤ 41 := by
 have h1 := foldl_max_le 40 l 0 (by omega) (fun x hx => ((ok_iff x).1 (h.ok x hx)).1.2)
 have h2 := base_nonneg l
 unfold base at *
 simp only at *
 omega
theorem fitsE_join {p : Plan} {c : Change} (h : c.kind = 4) : fitsE p c = if 8 < (rowAt p c.street).length + (rowAt p c.other).length then 6 else if (rowAt p c.street).any (fun x => decide (40 < x.number + base (rowAt p c.other))) = true then 1 else 0 := by
 unfold fitsE; rw [if_pos h]
@[go_sem] theorem natCast_gt8 (n : Nat) : ((8 : Int) < (n : Int)) = (8 < n) := by simp; omega
def JoinP (p : Plan) (c : Change) (g : House → List House) (i : Nat) : Prop := Upd p c g ((rowAt p c.street).take i) ∧ ∀ x, x ∈ (rowAt p c.street).take i → x.number + base (rowAt p c.other) ≤ 40
theorem JoinP.next {p : Plan} {c : Change} {g : House → List House} {i : Nat} (h : JoinP p c g i) (hi : i < (rowAt p c.street).length) (hx : ((rowAt p c.street).getD i default).number + base (rowAt p c.other) ≤ 40) : JoinP p c (updG p c g ((rowAt p c.street).getD i default)) (i + 1) := by
 have e := take_succ_getD (l := rowAt p c.street) (i := i) hi
 refine ⟨by rw [e]; exact h.1.one _, fun x hm => ?_⟩
 rw [e] at hm
 rcases List.mem_append.1 hm with hm | hm
 ·exact h.2 x hm
 ·simp only [List.mem_cons, List.not_mem_nil, or_false] at hm; subst hm; exact hx
theorem sp_joined (p : Plan) (c : Change) (v : Valid p) (f : Pre p c) (k : c.kind = 4) : Spec Tryz.prog 172 [encPlan p, c.enc, .mp 0] [.mapo (keysP p) (movesP p fun h => [h])] (iV (fitsE p c)) [outM p c] := by
  have hs0 := f.street.1
  have hs1 := f.street.2
  obtain ⟨ht0, ht1, _⟩ := f.other (.inl k)
  have hs : c.street.toNat < p.length := by omega
  have ht : c.other.toNat < p.length := by omega
  have hr := v.row c.street
  have hro := v.row c.other
  have hl8 := hr.len
  have ho8 := hro.len
  have hbb := base_le hro
  have hwl : IntKind.i64.wrap (((rowAt p c.street).length : Int) + ((rowAt p c.other).length : Int)) = (((rowAt p c.street).length + (rowAt p c.other).length : Nat) : Int) := by rw [wrap_i64 (by omega) (by omega)]; omega
  have hwn : 0 < (rowAt p c.other).length → IntKind.i64.wrap (((rowAt p c.other).length : Int) - 1) = (((rowAt p c.other).length - 1 : Nat) : Int) := fun h => by rw [wrap_i64 (by omega) (by omega)]; omega
  have hlt : 0 < (rowAt p c.other).length → (rowAt p c.other).length - 1 < (rowAt p c.other).length := fun h => by omega
  have hwb : 0 < (rowAt p c.other).length → IntKind.i64.wrap (((rowAt p c.other).getD ((rowAt p c.other).length - 1) default).number + ((rowAt p c.other).getD ((rowAt p c.other).length - 1) default).number.tmod 2) = base (rowAt p c.other) := fun h => by
    have e := base_last hro h
    rw [← e, wrap_i64 (by omega) (by omega)]
  have hb0 : (rowAt p c.other).length ≤ 0 → base (rowAt p c.other) = 0 := fun h => by rw [List.eq_nil_of_length_eq_zero (by omega : (rowAt p c.other).length = 0)]; rfl
  refine spec_body Tryz.func172 rfl (fun E hE => ?_); simp only [go_sem, Tryz.ntmps172]
  repeat' (first | (with_reducible (show runOps ..); first | (refine Qr rfl ?_; try intro K' hK; try simp only [go_sem, *])) | (with_reducible (show Hold ..); first | refine Qh rfl ?_ | refine s_draw rfl Tryz.mixed (by kernel_rfl) ?_ | (refine s_cond rfl ⟨_, rfl, fun hb => ?_, fun hb => ?_⟩ <;> (have hc := hb; try simp only [go_sem] at hc)) | refine s_ret rfl ?_) | ((with_reducible refine Qb ?_ ?_); focus kernel_rfl) | ((with_reducible refine And.intro ?_ ?_); focus omega) | (refine contA_of hK ?_; clear hK K'; simp only [go_sem, *]) | (simp only [thenA, inBlockA, go_sem, *]))
  · have e : fitsE p c = 6 := by rw [fitsE_join k, if_pos (by omega)]
    have e2 : outM p c = .dead := by simp [outM, e]
    refine ⟨[_], [some 0], [], ⟨rfl, trivial⟩, ?_⟩
    simp only [go_sem, e, e2]
  all_goals
    have hnb : ¬ 8 < (rowAt p c.street).length + (rowAt p c.other).length := by omega
    refine s_loop rfl (fun zn zN zenv zAs => ∃ (i : Nat) (g : House → List House), zn = ((rowAt p c.street).length) - i ∧ i ≤ ((rowAt p c.street).length) ∧ (JoinP p c g i) ∧ zN = 76 ∧ zenv = [(51, iV i), (50, iV (rowAt p c.street).length), (49, encStreet (rowAt p c.street)), (9, iV (base (rowAt p c.other))), (4, .ptr 2 0), (3, .ptr 1 0), (2, .mp 0)] ∧ zAs = [.mapo (keysP p) (movesP p g), pBox p, cBox c]) ((rowAt p c.street).length) ⟨[some 0, some 1, some 2], [], _, _, _, (by (simp only [Weak, go_sem, List.map_append, List.map_set, *] <;> (try simp (disch := omega) only [wrap_succ]) <;> (try simp) <;> (try omega))), 0, fun h => [h], (by simp), (by simp), (by exact ⟨Upd.nil _ _, by simp⟩), rfl, rfl, rfl⟩ ?_; rintro _ _ _ _ ⟨i, g, rfl, hi, hP, rfl, rfl, rfl⟩
    clear hb0 hwb hlt hwn hwl
    have hx : i < (rowAt p c.street).length → 1 ≤ ((rowAt p c.street).getD i default).number ∧ ((rowAt p c.street).getD i default).number ≤ 40 := fun h => ((ok_iff _).1 (hr.ok _ (getD_mem h))).1
    have hw1 : i < (rowAt p c.street).length → IntKind.i64.wrap (((rowAt p c.street).getD i default).number + base (rowAt p c.other)) = ((rowAt p c.street).getD i default).number + base (rowAt p c.other) := fun h => by have := hx h; exact wrap_i64 (by omega) (by omega)
    repeat' (first | (with_reducible (show runOps ..); first | (refine Qr rfl ?_; try intro K' hK; try simp only [go_sem, *])) | (with_reducible (show Hold ..); first | refine Qh rfl ?_ | refine s_draw rfl Tryz.mixed (by kernel_rfl) ?_ | (refine s_cond rfl ⟨_, rfl, fun hb => ?_, fun hb => ?_⟩ <;> (have hc := hb; try simp only [go_sem] at hc)) | refine s_ret rfl ?_) | (with_reducible (show callA ..); first | (refine call_s (sp_at _ _ _) ?_ ?_; (focus (simp only [go_sem, *]; done)); simp only [go_sem, *])) | ((with_reducible refine Qb ?_ ?_); focus kernel_rfl) | ((with_reducible refine And.intro ?_ ?_); focus omega) | (refine contA_of hK ?_; clear hK K'; simp only [go_sem, *]) | (simp only [thenA, inBlockA, go_sem, *]))
    · have e : fitsE p c = 1 := by
        rw [fitsE_join k, if_neg hnb, if_pos]
        rw [List.any_eq_true]
        exact ⟨_, getD_mem (by assumption), by simpa using (by assumption : (40 : Int) < ((rowAt p c.street).getD i default).number + base (rowAt p c.other))⟩
      have e2 : outM p c = .dead := by simp [outM, e]
      refine ⟨[_], [some 0], [], ⟨rfl, trivial⟩, ?_⟩
      simp only [go_sem, e, e2]
    · refine upd_mv [⟨c.other, ⟨((rowAt p c.street).getD i default).number + base (rowAt p c.other), ((rowAt p c.street).getD i default).letter⟩⟩] (g := g) (x := (rowAt p c.street).getD i default) v hs0 hs1 (getD_mem (by assumption)) (by simp only [go_sem, *]) (by simp only [go_sem, *]) rfl rfl (by rw [to_join k]) ?_
      simp only [go_sem, *]
      repeat' (first | (with_reducible (show runOps ..); first | (refine Qr rfl ?_; try intro K' hK; try simp only [go_sem, *])) | (with_reducible (show Hold ..); first | refine Qh rfl ?_ | refine s_draw rfl Tryz.mixed (by kernel_rfl) ?_ | (refine s_cond rfl ⟨_, rfl, fun hb => ?_, fun hb => ?_⟩ <;> (have hc := hb; try simp only [go_sem] at hc)) | refine s_ret rfl ?_) | ((with_reducible refine Qb ?_ ?_); focus kernel_rfl) | ((with_reducible refine And.intro ?_ ?_); focus omega) | (refine contA_of hK ?_; clear hK K'; simp only [go_sem, *]) | (simp only [thenA, inBlockA, go_sem, *]))
      refine ⟨_, (by omega), [some 0, some 1, some 2], [], _, _, _, (by (simp only [Weak, go_sem, List.map_append, List.map_set, *] <;> (try simp (disch := omega) only [wrap_succ]) <;> (try simp) <;> (try omega))), i + 1, updG p c g ((rowAt p c.street).getD i default), rfl, (by omega), (by exact hP.next (by assumption) (by assumption)), rfl, rfl, rfl⟩
    · unfold JoinP at hP
      rw [List.take_of_length_le (by omega)] at hP
      have e0 := hP.1.fin (fun x hx hn => absurd hx hn)
      have e : fitsE p c = 0 := by
        rw [fitsE_join k, if_neg hnb, if_neg]
        rw [List.any_eq_true]
        rintro ⟨x, hx, h⟩
        have := hP.2 x hx
        simp at h; omega
      have e2 : outM p c = .mapo (keysP p) (movesP p g) := by rw [e0]; simp [outM, e]
      refine ⟨[_], [some 0], [], ⟨rfl, trivial⟩, ?_⟩
      simp only [go_sem, e, e2]
end Go.Abs

namespace Go.Abs
open Go Go.Proofs
set_option maxRecDepth 10000
@[go_sem] theorem decide_mem_not {x : Plate} {l : List Plate} : (decide (x ∈ l) = false) = (x ∉ l) := by simp
theorem sp_felled (p : Plan) (c : Change) (v : Valid p) (f : Pre p c) (k : c.kind = 6) : Spec Tryz.prog 174 [encPlan p, c.enc, .mp 0] [.mapo (keysP p) (movesP p fun h => [h])] (iV (fitsE p c)) [outM p c] := by
 have hs0 := f.street.1
 have hs1 := f.street.2
 have hs : c.street.toNat < p.length := by omega
 have hr := v.row c.street
 have hl8 := hr.len
 refine spec_body Tryz.func174 rfl (fun E hE => ?_); simp only [go_sem, Tryz.ntmps174]
 repeat' (first | (with_reducible (show runOps ..); first | (refine Qr rfl ?_; try intro K' hK; try simp only [go_sem, *])) | (with_reducible (show Hold ..); first | refine Qh rfl ?_ | refine s_draw rfl Tryz.mixed (by kernel_rfl) ?_ | (refine s_cond rfl ⟨_, rfl, fun hb => ?_, fun hb => ?_⟩ <;> (have hc := hb; try simp only [go_sem] at hc)) | refine s_ret rfl ?_) | (with_reducible (show callA ..); first | (refine call_s (sp_Contains_plate (rowAt p c.street) c.src (by omega)) ?_ ?_; (focus (simp only [go_sem, *]; done)); simp only [go_sem, *])) | ((with_reducible refine Qb ?_ ?_); focus kernel_rfl) | ((with_reducible refine And.intro ?_ ?_); focus omega) | (refine contA_of hK ?_; clear hK K'; simp only [go_sem, *]) | (simp only [thenA, inBlockA, go_sem, *]))
 ·have hm : c.src ∉ rowAt p c.street := by assumption
  have e : fitsE p c = 3 := by rw [fitsE_fell k, if_pos hm]
  have e2 : outM p c = .dead := by simp [outM, e]
  refine ⟨[_], [some 0], [], ⟨rfl, trivial⟩, ?_⟩
  simp only [go_sem, e, e2]
 ·have hm : c.src ∈ rowAt p c.street := by assumption
  refine upd_mv_nil (g := fun h => [h]) v hs0 hs1 hm (by simp only [go_sem]) (by rw [to_fell k, if_pos rfl]) ?_
  simp only [go_sem, *]
  repeat' (first | (with_reducible (show runOps ..); first | (refine Qr rfl ?_; try intro K' hK; try simp only [go_sem, *])) | (with_reducible (show Hold ..); first | refine Qh rfl ?_ | refine s_draw rfl Tryz.mixed (by kernel_rfl) ?_ | (refine s_cond rfl ⟨_, rfl, fun hb => ?_, fun hb => ?_⟩ <;> (have hc := hb; try simp only [go_sem] at hc)) | refine s_ret rfl ?_) | ((with_reducible refine Qb ?_ ?_); focus kernel_rfl) | ((with_reducible refine And.intro ?_ ?_); focus omega) | (refine contA_of hK ?_; clear hK K'; simp only [go_sem, *]) | (simp only [thenA, inBlockA, go_sem, *]))
  have e : fitsE p c = 0 := by rw [fitsE_fell k, if_neg (fun h => h hm)]
  have e0 := ((Upd.nil p c).one c.src).fin (fun x hx hn => by
   have : ¬ x = c.src := fun h => hn (by simp [h])
   rw [to_fell k, if_neg this])
  have e2 : outM p c = .mapo (keysP p) (movesP p (updG p c (fun h => [h]) c.src)) := by rw [e0]; simp [outM, e]
  refine ⟨[_], [some 0], [], ⟨rfl, trivial⟩, ?_⟩
  simp only [go_sem, e, e2]
theorem letter_none {l : List Plate} {n : Int} (h : ∀ j : Nat, j < 4 → (⟨n, (j : Int) + 1⟩ : Plate) ∈ l) : letter l n = 0 := by
 have h0 := h 0; have h1 := h 1; have h2 := h 2; have h3 := h 3
 simp_all [letter]
@[go_sem] theorem natCast_ge8 (n : Nat) : ((8 : Int) ≤ (n : Int)) = (8 ≤ n) := by simp; omega
theorem sp_divided (p : Plan) (c : Change) (v : Valid p) (f : Pre p c) (k : c.kind = 5) : Spec Tryz.prog 173 [encPlan p, c.enc, .mp 0] [.mapo (keysP p) (movesP p fun h => [h])] (iV (fitsE p c)) [outM p c] := by
  have hs0 := f.street.1
  have hs1 := f.street.2
  have hs : c.street.toNat < p.length := by omega
  have hr := v.row c.street
  have hl8 := hr.len
  refine spec_body Tryz.func173 rfl (fun E hE => ?_); simp only [go_sem, Tryz.ntmps173]
  repeat' (first | (with_reducible (show runOps ..); first | (refine Qr rfl ?_; try intro K' hK; try simp only [go_sem, *]) | (refine Qi rfl rfl rfl rfl (fun hb K' hK => ?_) (fun hb => ?_) <;> (have hc := hb; try simp only [go_sem] at hc; simp only [go_sem, *]))) | (with_reducible (show Hold ..); first | refine Qh rfl ?_ | refine s_draw rfl Tryz.mixed (by kernel_rfl) ?_ | (refine s_cond rfl ⟨_, rfl, fun hb => ?_, fun hb => ?_⟩ <;> (have hc := hb; try simp only [go_sem] at hc)) | refine s_ret rfl ?_) | (with_reducible (show callA ..); first | (refine call_s (sp_Contains_plate (rowAt p c.street) c.src (by omega)) ?_ ?_; (focus (simp only [go_sem, *]; done)); simp only [go_sem, *])) | ((with_reducible refine Qb ?_ ?_); focus kernel_rfl) | ((with_reducible refine And.intro ?_ ?_); focus omega) | (refine contA_of hK ?_; clear hK K'; simp only [go_sem, *]) | (simp only [thenA, inBlockA, go_sem, *]))
  · have hm : c.src ∉ rowAt p c.street := by assumption
    have e : fitsE p c = 3 := by rw [fitsE_divide k, if_pos hm]
    have e2 : outM p c = .dead := by simp [outM, e]
    refine ⟨[_], [some 0], [], ⟨rfl, trivial⟩, ?_⟩
    simp only [go_sem, e, e2]
  · have hm : c.src ∈ rowAt p c.street := by assumption
    refine s_loop rfl (fun zn zN zenv zAs => ∃ (i : Nat), zn = (4) - i ∧ i ≤ (4) ∧ (∀ j : Nat, j < i → (⟨c.src.number, (j : Int) + 1⟩ : Plate) ∈ rowAt p c.street) ∧ zN = 53 ∧ zenv = [(8, iV ((i : Int) + 1)), (7, encStreet (rowAt p c.street)), (4, .ptr 2 0), (3, .ptr 1 0), (2, .mp 0)] ∧ zAs = [.mapo (keysP p) (movesP p fun h => [h]), pBox p, cBox c]) (4) ⟨[some 0, some 1, some 2], [], _, _, _, (by (simp only [Weak, go_sem, List.map_append, List.map_set, *] <;> (try simp (disch := omega) only [wrap_succ]) <;> (try simp) <;> (try omega))), 0, (by simp), (by simp), (by simp), rfl, rfl, rfl⟩ ?_; rintro _ _ _ _ ⟨i, rfl, hi, hP, rfl, rfl, rfl⟩
    have hw : i ≤ 4 → IntKind.i64.wrap ((i : Int) + 1 + 1) = (((i + 1 : Nat) : Int) + 1) := fun h => by rw [wrap_i64 (by omega) (by omega)]; omega
    repeat' (first | (with_reducible (show runOps ..); first | (refine Qr rfl ?_; try intro K' hK; try simp only [go_sem, *]) | (refine Qi rfl rfl rfl rfl (fun hb K' hK => ?_) (fun hb => ?_) <;> (have hc := hb; try simp only [go_sem] at hc; simp only [go_sem, *]))) | (with_reducible (show Hold ..); first | refine Qh rfl ?_ | refine s_draw rfl Tryz.mixed (by kernel_rfl) ?_ | (refine s_cond rfl ⟨_, rfl, fun hb => ?_, fun hb => ?_⟩ <;> (have hc := hb; try simp only [go_sem] at hc)) | refine s_ret rfl ?_) | (with_reducible (show callA ..); first | ((first | refine call_s (sp_Contains_plate (rowAt p c.street) ⟨c.src.number, (i : Int) + 1⟩ (by omega)) ?_ ?_ | refine call_s (sp_at _ _ _) ?_ ?_); (focus (simp only [go_sem, *]; done)); simp only [go_sem, *])) | ((with_reducible refine Qb ?_ ?_); focus kernel_rfl) | ((with_reducible refine And.intro ?_ ?_); focus omega) | (refine contA_of hK ?_; clear hK K'; simp only [go_sem, *]) | (simp only [thenA, inBlockA, go_sem, *]))
    · have hx : (⟨c.src.number, (i : Int) + 1⟩ : Plate) ∈ rowAt p c.street := by assumption
      have hok := (ok_iff _).1 (hr.ok _ hx)
      simp only at hok
      have hi4 : i < 4 := by omega
      refine ⟨_, (by omega), [some 0, some 1, some 2], [], _, _, _, (by (simp only [Weak, go_sem, List.map_append, List.map_set, *] <;> (try simp (disch := omega) only [wrap_succ]) <;> (try simp) <;> (try omega))), i + 1, rfl, (by omega), (fun j hj => ?_), rfl, rfl, rfl⟩
      rcases Nat.lt_succ_iff_lt_or_eq.1 hj with h | h
      · exact hP j h
      · subst h; exact hx
    · have hn : (⟨c.src.number, (i : Int) + 1⟩ : Plate) ∉ rowAt p c.street := by assumption
      have e : fitsE p c = 6 := by
        have h4 : i = 4 := by omega
        subst h4
        rw [fitsE_divide k, if_neg (fun h => h hm), if_pos (.inr (letter_none hP))]
      have e2 : outM p c = .dead := by simp [outM, e]
      refine ⟨[_], [some 0], [], ⟨rfl, trivial⟩, ?_⟩
      simp only [go_sem, e, e2]
    · have hn : (⟨c.src.number, (i : Int) + 1⟩ : Plate) ∉ rowAt p c.street := by assumption
      have hi4 : i < 4 := by omega
      have hlet := letter_eq hi4 hP hn
      refine upd_mv [⟨c.street, c.src⟩, ⟨c.street, ⟨c.src.number, (i : Int) + 1⟩⟩] (g := fun h => [h]) v hs0 hs1 hm (by simp only [go_sem]) (by simp only [go_sem]) rfl rfl (by rw [to_divide k, if_pos rfl, hlet]) ?_
      simp only [go_sem, *]
      repeat' (first | (with_reducible (show runOps ..); first | (refine Qr rfl ?_; try intro K' hK; try simp only [go_sem, *]) | (refine Qi rfl rfl rfl rfl (fun hb K' hK => ?_) (fun hb => ?_) <;> (have hc := hb; try simp only [go_sem] at hc; simp only [go_sem, *]))) | (with_reducible (show Hold ..); first | refine Qh rfl ?_ | refine s_draw rfl Tryz.mixed (by kernel_rfl) ?_ | (refine s_cond rfl ⟨_, rfl, fun hb => ?_, fun hb => ?_⟩ <;> (have hc := hb; try simp only [go_sem] at hc)) | refine s_ret rfl ?_) | ((with_reducible refine Qb ?_ ?_); focus kernel_rfl) | ((with_reducible refine And.intro ?_ ?_); focus omega) | (refine contA_of hK ?_; clear hK K'; simp only [go_sem, *]) | (simp only [thenA, inBlockA, go_sem, *]))
      have e : fitsE p c = 0 := by rw [fitsE_divide k, if_neg (fun h => h hm), if_neg (by omega)]
      have e0 := ((Upd.nil p c).one c.src).fin (fun x hx hn => by
        have : ¬ x = c.src := fun h => hn (by simp [h])
        rw [to_divide k, if_neg this])
      have e2 : outM p c = .mapo (keysP p) (movesP p (updG p c (fun h => [h]) c.src)) := by rw [e0]; simp [outM, e]
      refine ⟨[_], [some 0], [], ⟨rfl, trivial⟩, ?_⟩
      simp only [go_sem, e, e2]
    · have e : fitsE p c = 6 := by
        rw [fitsE_divide k, if_neg (fun h => h hm), if_pos (.inl (by omega))]
      have e2 : outM p c = .dead := by simp [outM, e]
      refine ⟨[_], [some 0], [], ⟨rfl, trivial⟩, ?_⟩
      simp only [go_sem, e, e2]
end Go.Abs

namespace Go.Abs
open Go Go.Proofs
set_option maxRecDepth 10000
@[go_sem] theorem natCast_neg (n : Nat) : ((n : Int) < 0) = False := by simp
@[go_sem] theorem decide_False : decide False = false := rfl
@[go_sem] theorem neg_lt0 : ((-1 : Int) < 0) = True := by simp
theorem sp_courted (p : Plan) (c : Change) (v : Valid p) (f : Pre p c) (k : c.kind = 7) : Spec Tryz.prog 175 [encPlan p, c.enc, .mp 0] [.mapo (keysP p) (movesP p fun h => [h])] (iV (fitsE p c)) [outM p c] := by
 have hs0 := f.street.1
 have hs1 := f.street.2
 obtain ⟨ht0, ht1, hne⟩ := f.other (.inr k)
 have hs : c.street.toNat < p.length := by omega
 have ht : c.other.toNat < p.length := by omega
 have hr := v.row c.street
 have hl8 := hr.len
 have ho8 := (v.row c.other).len
 have fail : ∀ n : Int, fitsE p c = n → n ≠ 0 → outM p c = .dead := fun n e h => by simp [outM, e, h]
 by_cases hm : c.src ∈ rowAt p c.street
 ·have hA := idxP_of hm
  have hAl := idx_lt hm
  by_cases hd : c.dst ∈ rowAt p c.street
  ·have hB := idxP_of hd
   have hBl := idx_lt hd
   have hcmp := sorted_lt_idx hr.sorted hd hm
   generalize hAe : (rowAt p c.street).idxOf c.src = A at *
   generalize hBe : (rowAt p c.street).idxOf c.dst = B at *
   have hf := fitsE_court (p := p) k
   rw [if_neg (by simp [hm, hd])] at hf
   have hwB : IntKind.i64.wrap ((B : Int) + 1) = ((B + 1 : Nat) : Int) := wrap_succ (by omega)
   obtain ⟨l', hl'⟩ : ∃ l', l' = ((rowAt p c.street).drop A).take (B + 1 - A) := ⟨_, rfl⟩
   have hll : ¬ B < A → l'.length = B + 1 - A := fun h => by rw [hl']; simp; omega
   by_cases hlt : B < A
   ·rw [if_pos (hcmp.2 hlt)] at hf
    have e2 := fail _ hf (by omega)
    refine spec_body Tryz.func175 rfl (fun E hE => ?_); simp only [go_sem, Tryz.ntmps175]
    repeat' (first | (with_reducible (show runOps ..); first | (refine Qr rfl ?_; try intro K' hK; try simp only [go_sem, *]) | (refine Qi rfl rfl rfl rfl (fun hb K' hK => ?_) (fun hb => ?_) <;> (have hc := hb; try simp only [go_sem] at hc; simp only [go_sem, *]))) | (with_reducible (show Hold ..); first | refine Qh rfl ?_ | refine s_draw rfl Tryz.mixed (by kernel_rfl) ?_ | (refine s_cond rfl ⟨_, rfl, fun hb => ?_, fun hb => ?_⟩ <;> (have hc := hb; try simp only [go_sem] at hc)) | refine s_ret rfl ?_) | (with_reducible (show callA ..); first | ((first | refine call_s (sp_Index_plate (rowAt p c.street) c.src (by omega)) ?_ ?_ | refine call_s (sp_Index_plate (rowAt p c.street) c.dst (by omega)) ?_ ?_); (focus (simp only [go_sem, *]; done)); simp only [go_sem, *])) | ((with_reducible refine Qb ?_ ?_); focus kernel_rfl) | ((with_reducible refine And.intro ?_ ?_); focus omega) | (refine contA_of hK ?_; clear hK K'; simp only [go_sem, *]) | (simp only [thenA, inBlockA, go_sem, *]))
    all_goals first | (exfalso; omega) | (refine ⟨[_], [some 0], [], ⟨rfl, trivial⟩, ?_⟩; simp only [go_sem, *])
   ·rw [if_neg (fun h => hlt (hcmp.1 h))] at hf
    by_cases ho : 0 < (rowAt p c.other).length
    ·rw [if_pos ho] at hf
     have e2 := fail _ hf (by omega)
     refine spec_body Tryz.func175 rfl (fun E hE => ?_); simp only [go_sem, Tryz.ntmps175]
     repeat' (first | (with_reducible (show runOps ..); first | (refine Qr rfl ?_; try intro K' hK; try simp only [go_sem, *]) | (refine Qi rfl rfl rfl rfl (fun hb K' hK => ?_) (fun hb => ?_) <;> (have hc := hb; try simp only [go_sem] at hc; simp only [go_sem, *]))) | (with_reducible (show Hold ..); first | refine Qh rfl ?_ | refine s_draw rfl Tryz.mixed (by kernel_rfl) ?_ | (refine s_cond rfl ⟨_, rfl, fun hb => ?_, fun hb => ?_⟩ <;> (have hc := hb; try simp only [go_sem] at hc)) | refine s_ret rfl ?_) | (with_reducible (show callA ..); first | ((first | refine call_s (sp_Index_plate (rowAt p c.street) c.src (by omega)) ?_ ?_ | refine call_s (sp_Index_plate (rowAt p c.street) c.dst (by omega)) ?_ ?_); (focus (simp only [go_sem, *]; done)); simp only [go_sem, *])) | ((with_reducible refine Qb ?_ ?_); focus kernel_rfl) | ((with_reducible refine And.intro ?_ ?_); focus omega) | (refine contA_of hK ?_; clear hK K'; simp only [go_sem, *]) | (simp only [thenA, inBlockA, go_sem, *]))
     all_goals first | (exfalso; omega) | (refine ⟨[_], [some 0], [], ⟨rfl, trivial⟩, ?_⟩; simp only [go_sem, *])
    ·rw [if_neg ho] at hf
     have hAB : A ≤ B + 1 := by omega
     have hll := hll hlt
     have hm' : List.take (B + 1 - A) (List.drop A ((rowAt p c.street).map Plate.enc)) = l'.map Plate.enc := by rw [hl', List.map_take, List.map_drop]
     have hget : ∀ i, i < l'.length → ∃ h : A + i < (rowAt p c.street).length, l'.getD i default = (rowAt p c.street)[A + i] := fun i hi => by
      have h : A + i < (rowAt p c.street).length := by omega
      refine ⟨h, ?_⟩
      rw [hl']
      simp only [List.getD_eq_getElem?_getD, List.getElem?_take, List.getElem?_drop]
      rw [if_pos (by omega), List.getElem?_eq_getElem h]; rfl
     have hidx : ∀ i (h : i < (rowAt p c.street).length), (rowAt p c.street).idxOf (rowAt p c.street)[i] = i := fun i h => by
      have := idx_get (List.getElem_mem h)
      exact (nodup_inj hr.nodup).1 this
     have hcond : ∀ x, x ∈ rowAt p c.street → ((x.lt c.src = false ∧ c.dst.lt x = false) ↔ A ≤ (rowAt p c.street).idxOf x ∧ (rowAt p c.street).idxOf x ≤ B) := fun x hx => by
      have h1 := sorted_lt_idx hr.sorted hx hm
      have h2 := sorted_lt_idx hr.sorted hd hx
      rw [hAe] at h1; rw [hBe] at h2
      rw [← Bool.not_eq_true, ← Bool.not_eq_true, h1, h2]; omega
     have htoP : ∀ i, i < l'.length → toP p c (l'.getD i default) = [⟨c.other, ⟨(i : Int) + 1, 0⟩⟩] ∧ l'.getD i default ∈ rowAt p c.street := fun i hi => by
      obtain ⟨h, e⟩ := hget i hi
      rw [e]
      have hmx := List.getElem_mem h
      have hix := hidx _ h
      refine ⟨?_, hmx⟩
      rw [to_court k, if_pos ((hcond _ hmx).2 (by rw [hix]; omega)), idxP_of hmx, hA, hix]
      congr 3; omega
     have hcov : ∀ x, x ∈ rowAt p c.street → x ∉ l' → toP p c x = [⟨c.street, x⟩] := fun x hx hn => by
      rw [to_court k, if_neg]
      rw [hcond x hx]
      rintro ⟨h1, h2⟩
      apply hn
      have hi : (rowAt p c.street).idxOf x - A < l'.length := by omega
      obtain ⟨h, e⟩ := hget _ hi
      have : (rowAt p c.street)[A + ((rowAt p c.street).idxOf x - A)] = x := by
       have h4 : A + ((rowAt p c.street).idxOf x - A) = (rowAt p c.street).idxOf x := by omega
       simp only [h4]; exact idx_get hx
      rw [this] at e
      rw [← e]; exact getD_mem hi
     clear hget hidx hcond hl'
     have hB8 : B + 1 ≤ (rowAt p c.street).length := by omega
     refine spec_body Tryz.func175 rfl (fun E hE => ?_); simp only [go_sem, Tryz.ntmps175]
     repeat' (first | (with_reducible (show runOps ..); first | (refine Qr rfl ?_; try intro K' hK; try simp only [go_sem, *]) | (refine Qi rfl rfl rfl rfl (fun hb K' hK => ?_) (fun hb => ?_) <;> (have hc := hb; try simp only [go_sem] at hc; simp only [go_sem, *]))) | (with_reducible (show Hold ..); first | refine Qh rfl ?_ | refine s_draw rfl Tryz.mixed (by kernel_rfl) ?_ | (refine s_cond rfl ⟨_, rfl, fun hb => ?_, fun hb => ?_⟩ <;> (have hc := hb; try simp only [go_sem] at hc)) | refine s_ret rfl ?_) | (with_reducible (show callA ..); first | ((first | refine call_s (sp_Index_plate (rowAt p c.street) c.src (by omega)) ?_ ?_ | refine call_s (sp_Index_plate (rowAt p c.street) c.dst (by omega)) ?_ ?_); (focus (simp only [go_sem, *]; done)); simp only [go_sem, *])) | ((with_reducible refine Qb ?_ ?_); focus kernel_rfl) | ((with_reducible refine And.intro ?_ ?_); focus omega) | (refine contA_of hK ?_; clear hK K'; simp only [go_sem, *]) | (simp only [thenA, inBlockA, go_sem, *]))
     all_goals first | (exfalso; omega) | skip
     refine ⟨fun y hy => by obtain ⟨x, _, rfl⟩ := List.mem_map.1 hy; rfl, ?_⟩
     try rw [hm']
     repeat' (first | (with_reducible (show runOps ..); first | (refine Qr rfl ?_; try intro K' hK; try simp only [go_sem, *]) | (refine Qi rfl rfl rfl rfl (fun hb K' hK => ?_) (fun hb => ?_) <;> (have hc := hb; try simp only [go_sem] at hc; simp only [go_sem, *]))) | (with_reducible (show Hold ..); first | refine Qh rfl ?_ | refine s_draw rfl Tryz.mixed (by kernel_rfl) ?_ | (refine s_cond rfl ⟨_, rfl, fun hb => ?_, fun hb => ?_⟩ <;> (have hc := hb; try simp only [go_sem] at hc)) | refine s_ret rfl ?_) | ((with_reducible refine Qb ?_ ?_); focus kernel_rfl) | ((with_reducible refine And.intro ?_ ?_); focus omega) | (refine contA_of hK ?_; clear hK K'; simp only [go_sem, *]) | (simp only [thenA, inBlockA, go_sem, *]))
     refine s_loop rfl (fun zn zN zenv zAs => ∃ (i : Nat) (g : House → List House), zn = (l'.length) - i ∧ i ≤ (l'.length) ∧ (Upd p c g (l'.take i)) ∧ zN = 69 ∧ zenv = [(52, iV i), (51, iV l'.length), (50, encStreet l'), (4, .ptr 2 0), (3, .ptr 1 0), (2, .mp 0)] ∧ zAs = [.mapo (keysP p) (movesP p g), pBox p, cBox c]) (l'.length) ⟨[some 0, some 1, some 2], [], _, _, _, (by (simp only [Weak, go_sem, List.map_append, List.map_set, *] <;> (try simp (disch := omega) only [wrap_succ]) <;> (try simp) <;> (try omega))), 0, fun h => [h], (by simp), (by simp), (by exact Upd.nil _ _), rfl, rfl, rfl⟩ ?_; rintro _ _ _ _ ⟨i, g, rfl, hi, hP, rfl, rfl, rfl⟩
     have hw : i < l'.length → IntKind.i64.wrap ((i : Int) + 1) = (i : Int) + 1 := fun h => wrap_i64 (by omega) (by omega)
     repeat' (first | (with_reducible (show runOps ..); first | (refine Qr rfl ?_; try intro K' hK; try simp only [go_sem, *]) | (refine Qi rfl rfl rfl rfl (fun hb K' hK => ?_) (fun hb => ?_) <;> (have hc := hb; try simp only [go_sem] at hc; simp only [go_sem, *]))) | (with_reducible (show Hold ..); first | refine Qh rfl ?_ | refine s_draw rfl Tryz.mixed (by kernel_rfl) ?_ | (refine s_cond rfl ⟨_, rfl, fun hb => ?_, fun hb => ?_⟩ <;> (have hc := hb; try simp only [go_sem] at hc)) | refine s_ret rfl ?_) | (with_reducible (show callA ..); first | (refine call_s (sp_at _ _ _) ?_ ?_; (focus (simp only [go_sem, *]; done)); simp only [go_sem, *])) | ((with_reducible refine Qb ?_ ?_); focus kernel_rfl) | ((with_reducible refine And.intro ?_ ?_); focus omega) | (refine contA_of hK ?_; clear hK K'; simp only [go_sem, *]) | (simp only [thenA, inBlockA, go_sem, *]))
     ·obtain ⟨q1, q2⟩ := htoP i (by omega)
      refine upd_mv [⟨c.other, ⟨(i : Int) + 1, 0⟩⟩] (g := g) (x := l'.getD i default) v hs0 hs1 q2 (by simp only [go_sem, *]) (by simp only [go_sem, *]) rfl rfl q1 ?_
      simp only [go_sem, *]
      repeat' (first | (with_reducible (show runOps ..); first | (refine Qr rfl ?_; try intro K' hK; try simp only [go_sem, *]) | (refine Qi rfl rfl rfl rfl (fun hb K' hK => ?_) (fun hb => ?_) <;> (have hc := hb; try simp only [go_sem] at hc; simp only [go_sem, *]))) | (with_reducible (show Hold ..); first | refine Qh rfl ?_ | refine s_draw rfl Tryz.mixed (by kernel_rfl) ?_ | (refine s_cond rfl ⟨_, rfl, fun hb => ?_, fun hb => ?_⟩ <;> (have hc := hb; try simp only [go_sem] at hc)) | refine s_ret rfl ?_) | ((with_reducible refine Qb ?_ ?_); focus kernel_rfl) | ((with_reducible refine And.intro ?_ ?_); focus omega) | (refine contA_of hK ?_; clear hK K'; simp only [go_sem, *]) | (simp only [thenA, inBlockA, go_sem, *]))
      have e := take_succ_getD (l := l') (i := i) (by omega)
      refine ⟨_, (by omega), [some 0, some 1, some 2], [], _, _, _, (by (simp only [Weak, go_sem, List.map_append, List.map_set, *] <;> (try simp (disch := omega) only [wrap_succ]) <;> (try simp) <;> (try omega))), i + 1, updG p c g (l'.getD i default), rfl, (by omega), (by rw [e]; exact hP.one _), rfl, rfl, rfl⟩
     ·rw [List.take_of_length_le (by omega)] at hP
      have e0 := hP.fin hcov
      have e2 : outM p c = .mapo (keysP p) (movesP p g) := by rw [e0]; simp [outM, hf]
      refine ⟨[_], [some 0], [], ⟨rfl, trivial⟩, ?_⟩
      simp only [go_sem, hf, e2]
  ·have hf : fitsE p c = 3 := by rw [fitsE_court k, if_pos (.inr hd)]
   have e2 := fail _ hf (by omega)
   have hB := idx_none hd
   refine spec_body Tryz.func175 rfl (fun E hE => ?_); simp only [go_sem, Tryz.ntmps175]
   repeat' (first | (with_reducible (show runOps ..); first | (refine Qr rfl ?_; try intro K' hK; try simp only [go_sem, *]) | (refine Qi rfl rfl rfl rfl (fun hb K' hK => ?_) (fun hb => ?_) <;> (have hc := hb; try simp only [go_sem] at hc; simp only [go_sem, *]))) | (with_reducible (show Hold ..); first | refine Qh rfl ?_ | refine s_draw rfl Tryz.mixed (by kernel_rfl) ?_ | (refine s_cond rfl ⟨_, rfl, fun hb => ?_, fun hb => ?_⟩ <;> (have hc := hb; try simp only [go_sem] at hc)) | refine s_ret rfl ?_) | (with_reducible (show callA ..); first | ((first | refine call_s (sp_Index_plate (rowAt p c.street) c.src (by omega)) ?_ ?_ | refine call_s (sp_Index_plate (rowAt p c.street) c.dst (by omega)) ?_ ?_); (focus (simp only [go_sem, *]; done)); simp only [go_sem, *])) | ((with_reducible refine Qb ?_ ?_); focus kernel_rfl) | ((with_reducible refine And.intro ?_ ?_); focus omega) | (refine contA_of hK ?_; clear hK K'; simp only [go_sem, *]) | (simp only [thenA, inBlockA, go_sem, *]))
   all_goals first | (exfalso; omega) | (refine ⟨[_], [some 0], [], ⟨rfl, trivial⟩, ?_⟩; simp only [go_sem, *])
 ·have hf : fitsE p c = 3 := by rw [fitsE_court k, if_pos (.inl hm)]
  have e2 := fail _ hf (by omega)
  have hA := idx_none hm
  refine spec_body Tryz.func175 rfl (fun E hE => ?_); simp only [go_sem, Tryz.ntmps175]
  repeat' (first | (with_reducible (show runOps ..); first | (refine Qr rfl ?_; try intro K' hK; try simp only [go_sem, *]) | (refine Qi rfl rfl rfl rfl (fun hb K' hK => ?_) (fun hb => ?_) <;> (have hc := hb; try simp only [go_sem] at hc; simp only [go_sem, *]))) | (with_reducible (show Hold ..); first | refine Qh rfl ?_ | refine s_draw rfl Tryz.mixed (by kernel_rfl) ?_ | (refine s_cond rfl ⟨_, rfl, fun hb => ?_, fun hb => ?_⟩ <;> (have hc := hb; try simp only [go_sem] at hc)) | refine s_ret rfl ?_) | (with_reducible (show callA ..); first | ((first | refine call_s (sp_Index_plate (rowAt p c.street) c.src (by omega)) ?_ ?_ | refine call_s (sp_Index_plate (rowAt p c.street) c.dst (by omega)) ?_ ?_); (focus (simp only [go_sem, *]; done)); simp only [go_sem, *])) | ((with_reducible refine Qb ?_ ?_); focus kernel_rfl) | ((with_reducible refine And.intro ?_ ?_); focus omega) | (refine contA_of hK ?_; clear hK K'; simp only [go_sem, *]) | (simp only [thenA, inBlockA, go_sem, *]))
  all_goals first | (exfalso; omega) | (refine ⟨[_], [some 0], [], ⟨rfl, trivial⟩, ?_⟩; simp only [go_sem, *])
end Go.Abs

namespace Go.Abs
open Go Go.Proofs
set_option maxRecDepth 10000
theorem eff_kind (p : Plan) (c : Change) (hl : p.length ≤ 1000) (hbk : betw c.kind 1 7 = false) : Spec Tryz.prog 125 [encPlan p, c.enc] [] (.tup [.raw (.map none), iV 8]) [] := by
 have hwl : IntKind.i64.wrap ((p.length : Int) - 1) = (p.length : Int) - 1 := wrap_i64 (by omega) (by omega)
 refine spec_body Tryz.func125 rfl (fun E hE => ?_); simp only [go_sem, Tryz.ntmps125]
 repeat' (first | (with_reducible (show runOps ..); first | (refine Qr rfl ?_; try intro K' hK; try simp only [go_sem, *]) | (refine Qi rfl rfl rfl rfl (fun hb K' hK => ?_) (fun hb => ?_) <;> (have hc := hb; try simp only [go_sem] at hc; simp only [go_sem, *]))) | (with_reducible (show Hold ..); first | refine Qh rfl ?_ | refine s_draw rfl Tryz.mixed (by kernel_rfl) ?_ | (refine s_cond rfl ⟨_, rfl, fun hb => ?_, fun hb => ?_⟩ <;> (have hc := hb; try simp only [go_sem] at hc)) | refine s_ret rfl ?_) | (with_reducible (show callA ..); first | (refine call_s (sp_between _ _ _) ?_ ?_; (focus (simp only [go_sem, *]; done)); simp only [go_sem, *])) | ((with_reducible refine Qb ?_ ?_); focus kernel_rfl) | ((with_reducible refine And.intro ?_ ?_); focus omega) | (refine contA_of hK ?_; clear hK K'; simp only [go_sem, *]) | (simp only [thenA, inBlockA, go_sem, *]))
 all_goals (refine ⟨[_, _], [], [], ⟨rfl, rfl, trivial⟩, ?_⟩; simp only [go_sem, *])
theorem eff_street (p : Plan) (c : Change) (hl : p.length ≤ 1000) (hbk : betw c.kind 1 7 = true) (hbs : betw c.street 0 ((p.length : Int) - 1) = false) : Spec Tryz.prog 125 [encPlan p, c.enc] [] (.tup [.raw (.map none), iV 3]) [] := by
 have hwl : IntKind.i64.wrap ((p.length : Int) - 1) = (p.length : Int) - 1 := wrap_i64 (by omega) (by omega)
 refine spec_body Tryz.func125 rfl (fun E hE => ?_); simp only [go_sem, Tryz.ntmps125]
 repeat' (first | (with_reducible (show runOps ..); first | (refine Qr rfl ?_; try intro K' hK; try simp only [go_sem, *]) | (refine Qi rfl rfl rfl rfl (fun hb K' hK => ?_) (fun hb => ?_) <;> (have hc := hb; try simp only [go_sem] at hc; simp only [go_sem, *]))) | (with_reducible (show Hold ..); first | refine Qh rfl ?_ | refine s_draw rfl Tryz.mixed (by kernel_rfl) ?_ | (refine s_cond rfl ⟨_, rfl, fun hb => ?_, fun hb => ?_⟩ <;> (have hc := hb; try simp only [go_sem] at hc)) | refine s_ret rfl ?_) | (with_reducible (show callA ..); first | (refine call_s (sp_between _ _ _) ?_ ?_; (focus (simp only [go_sem, *]; done)); simp only [go_sem, *])) | ((with_reducible refine Qb ?_ ?_); focus kernel_rfl) | ((with_reducible refine And.intro ?_ ?_); focus omega) | (refine contA_of hK ?_; clear hK K'; simp only [go_sem, *]) | (simp only [thenA, inBlockA, go_sem, *]))
 all_goals (refine ⟨[_, _], [], [], ⟨rfl, rfl, trivial⟩, ?_⟩; simp only [go_sem, *])
theorem eff_o4 (p : Plan) (c : Change) (hl : p.length ≤ 1000) (hbk : betw c.kind 1 7 = true) (hbs : betw c.street 0 ((p.length : Int) - 1) = true) (hk4 : (c.kind == 4) = true) (hbo : betw c.other 0 ((p.length : Int) - 1) = false) : Spec Tryz.prog 125 [encPlan p, c.enc] [] (.tup [.raw (.map none), iV 3]) [] := by
 have hwl : IntKind.i64.wrap ((p.length : Int) - 1) = (p.length : Int) - 1 := wrap_i64 (by omega) (by omega)
 refine spec_body Tryz.func125 rfl (fun E hE => ?_); simp only [go_sem, Tryz.ntmps125]
 repeat' (first | (with_reducible (show runOps ..); first | (refine Qr rfl ?_; try intro K' hK; try simp only [go_sem, *]) | (refine Qi rfl rfl rfl rfl (fun hb K' hK => ?_) (fun hb => ?_) <;> (have hc := hb; try simp only [go_sem] at hc; simp only [go_sem, *]))) | (with_reducible (show Hold ..); first | refine Qh rfl ?_ | refine s_draw rfl Tryz.mixed (by kernel_rfl) ?_ | (refine s_cond rfl ⟨_, rfl, fun hb => ?_, fun hb => ?_⟩ <;> (have hc := hb; try simp only [go_sem] at hc)) | refine s_ret rfl ?_) | (with_reducible (show callA ..); first | (refine call_s (sp_between _ _ _) ?_ ?_; (focus (simp only [go_sem, *]; done)); simp only [go_sem, *])) | ((with_reducible refine Qb ?_ ?_); focus kernel_rfl) | ((with_reducible refine And.intro ?_ ?_); focus omega) | (refine contA_of hK ?_; clear hK K'; simp only [go_sem, *]) | (simp only [thenA, inBlockA, go_sem, *]))
 all_goals (refine ⟨[_, _], [], [], ⟨rfl, rfl, trivial⟩, ?_⟩; simp only [go_sem, *])
theorem eff_o7 (p : Plan) (c : Change) (hl : p.length ≤ 1000) (hbk : betw c.kind 1 7 = true) (hbs : betw c.street 0 ((p.length : Int) - 1) = true) (hk4 : (c.kind == 4) = false) (hk7 : (c.kind == 7) = true) (hbo : betw c.other 0 ((p.length : Int) - 1) = false) : Spec Tryz.prog 125 [encPlan p, c.enc] [] (.tup [.raw (.map none), iV 3]) [] := by
 have hwl : IntKind.i64.wrap ((p.length : Int) - 1) = (p.length : Int) - 1 := wrap_i64 (by omega) (by omega)
 refine spec_body Tryz.func125 rfl (fun E hE => ?_); simp only [go_sem, Tryz.ntmps125]
 repeat' (first | (with_reducible (show runOps ..); first | (refine Qr rfl ?_; try intro K' hK; try simp only [go_sem, *]) | (refine Qi rfl rfl rfl rfl (fun hb K' hK => ?_) (fun hb => ?_) <;> (have hc := hb; try simp only [go_sem] at hc; simp only [go_sem, *]))) | (with_reducible (show Hold ..); first | refine Qh rfl ?_ | refine s_draw rfl Tryz.mixed (by kernel_rfl) ?_ | (refine s_cond rfl ⟨_, rfl, fun hb => ?_, fun hb => ?_⟩ <;> (have hc := hb; try simp only [go_sem] at hc)) | refine s_ret rfl ?_) | (with_reducible (show callA ..); first | (refine call_s (sp_between _ _ _) ?_ ?_; (focus (simp only [go_sem, *]; done)); simp only [go_sem, *])) | ((with_reducible refine Qb ?_ ?_); focus kernel_rfl) | ((with_reducible refine And.intro ?_ ?_); focus omega) | (refine contA_of hK ?_; clear hK K'; simp only [go_sem, *]) | (simp only [thenA, inBlockA, go_sem, *]))
 all_goals (refine ⟨[_, _], [], [], ⟨rfl, rfl, trivial⟩, ?_⟩; simp only [go_sem, *])
theorem eff_r4 (p : Plan) (c : Change) (hl : p.length ≤ 1000) (hbk : betw c.kind 1 7 = true) (hbs : betw c.street 0 ((p.length : Int) - 1) = true) (hk4 : (c.kind == 4) = true) (hbo : betw c.other 0 ((p.length : Int) - 1) = true) (hrp : (c.other == c.street) = true) : Spec Tryz.prog 125 [encPlan p, c.enc] [] (.tup [.raw (.map none), iV 4]) [] := by
 have hwl : IntKind.i64.wrap ((p.length : Int) - 1) = (p.length : Int) - 1 := wrap_i64 (by omega) (by omega)
 refine spec_body Tryz.func125 rfl (fun E hE => ?_); simp only [go_sem, Tryz.ntmps125]
 repeat' (first | (with_reducible (show runOps ..); first | (refine Qr rfl ?_; try intro K' hK; try simp only [go_sem, *]) | (refine Qi rfl rfl rfl rfl (fun hb K' hK => ?_) (fun hb => ?_) <;> (have hc := hb; try simp only [go_sem] at hc; simp only [go_sem, *]))) | (with_reducible (show Hold ..); first | refine Qh rfl ?_ | refine s_draw rfl Tryz.mixed (by kernel_rfl) ?_ | (refine s_cond rfl ⟨_, rfl, fun hb => ?_, fun hb => ?_⟩ <;> (have hc := hb; try simp only [go_sem] at hc)) | refine s_ret rfl ?_) | (with_reducible (show callA ..); first | (refine call_s (sp_between _ _ _) ?_ ?_; (focus (simp only [go_sem, *]; done)); simp only [go_sem, *])) | ((with_reducible refine Qb ?_ ?_); focus kernel_rfl) | ((with_reducible refine And.intro ?_ ?_); focus omega) | (refine contA_of hK ?_; clear hK K'; simp only [go_sem, *]) | (simp only [thenA, inBlockA, go_sem, *]))
 all_goals (refine ⟨[_, _], [], [], ⟨rfl, rfl, trivial⟩, ?_⟩; simp only [go_sem, *])
theorem eff_r7 (p : Plan) (c : Change) (hl : p.length ≤ 1000) (hbk : betw c.kind 1 7 = true) (hbs : betw c.street 0 ((p.length : Int) - 1) = true) (hk4 : (c.kind == 4) = false) (hk7 : (c.kind == 7) = true) (hbo : betw c.other 0 ((p.length : Int) - 1) = true) (hrp : (c.other == c.street) = true) : Spec Tryz.prog 125 [encPlan p, c.enc] [] (.tup [.raw (.map none), iV 4]) [] := by
 have hwl : IntKind.i64.wrap ((p.length : Int) - 1) = (p.length : Int) - 1 := wrap_i64 (by omega) (by omega)
 refine spec_body Tryz.func125 rfl (fun E hE => ?_); simp only [go_sem, Tryz.ntmps125]
 repeat' (first | (with_reducible (show runOps ..); first | (refine Qr rfl ?_; try intro K' hK; try simp only [go_sem, *]) | (refine Qi rfl rfl rfl rfl (fun hb K' hK => ?_) (fun hb => ?_) <;> (have hc := hb; try simp only [go_sem] at hc; simp only [go_sem, *]))) | (with_reducible (show Hold ..); first | refine Qh rfl ?_ | refine s_draw rfl Tryz.mixed (by kernel_rfl) ?_ | (refine s_cond rfl ⟨_, rfl, fun hb => ?_, fun hb => ?_⟩ <;> (have hc := hb; try simp only [go_sem] at hc)) | refine s_ret rfl ?_) | (with_reducible (show callA ..); first | (refine call_s (sp_between _ _ _) ?_ ?_; (focus (simp only [go_sem, *]; done)); simp only [go_sem, *])) | ((with_reducible refine Qb ?_ ?_); focus kernel_rfl) | ((with_reducible refine And.intro ?_ ?_); focus omega) | (refine contA_of hK ?_; clear hK K'; simp only [go_sem, *]) | (simp only [thenA, inBlockA, go_sem, *]))
 all_goals (refine ⟨[_, _], [], [], ⟨rfl, rfl, trivial⟩, ?_⟩; simp only [go_sem, *])
theorem eff_a (p : Plan) (c : Change) (hl : p.length ≤ 1000) (hbk : betw c.kind 1 7 = true) (hbs : betw c.street 0 ((p.length : Int) - 1) = true) (hk4 : (c.kind == 4) = false) (hk7 : (c.kind == 7) = false) (hco : (c.other != 0) = true) : Spec Tryz.prog 125 [encPlan p, c.enc] [] (.tup [.raw (.map none), iV 1]) [] := by
 have hwl : IntKind.i64.wrap ((p.length : Int) - 1) = (p.length : Int) - 1 := wrap_i64 (by omega) (by omega)
 refine spec_body Tryz.func125 rfl (fun E hE => ?_); simp only [go_sem, Tryz.ntmps125]
 repeat' (first | (with_reducible (show runOps ..); first | (refine Qr rfl ?_; try intro K' hK; try simp only [go_sem, *]) | (refine Qi rfl rfl rfl rfl (fun hb K' hK => ?_) (fun hb => ?_) <;> (have hc := hb; try simp only [go_sem] at hc; simp only [go_sem, *]))) | (with_reducible (show Hold ..); first | refine Qh rfl ?_ | refine s_draw rfl Tryz.mixed (by kernel_rfl) ?_ | (refine s_cond rfl ⟨_, rfl, fun hb => ?_, fun hb => ?_⟩ <;> (have hc := hb; try simp only [go_sem] at hc)) | refine s_ret rfl ?_) | (with_reducible (show callA ..); first | (refine call_s (sp_between _ _ _) ?_ ?_; (focus (simp only [go_sem, *]; done)); simp only [go_sem, *])) | ((with_reducible refine Qb ?_ ?_); focus kernel_rfl) | ((with_reducible refine And.intro ?_ ?_); focus omega) | (refine contA_of hK ?_; clear hK K'; simp only [go_sem, *]) | (simp only [thenA, inBlockA, go_sem, *]))
 all_goals (refine ⟨[_, _], [], [], ⟨rfl, rfl, trivial⟩, ?_⟩; simp only [go_sem, *])
theorem eff_b4 (p : Plan) (c : Change) (hl : p.length ≤ 1000) (hbk : betw c.kind 1 7 = true) (hbs : betw c.street 0 ((p.length : Int) - 1) = true) (hk4 : (c.kind == 4) = true) (hbo : betw c.other 0 ((p.length : Int) - 1) = true) (hrp : (c.other == c.street) = false) (hk5 : decide (c.kind ≥ 5) = false) (hsz : (c.src.number == 0 && c.src.letter == 0) = false) : Spec Tryz.prog 125 [encPlan p, c.enc] [] (.tup [.raw (.map none), iV 1]) [] := by
 have hwl : IntKind.i64.wrap ((p.length : Int) - 1) = (p.length : Int) - 1 := wrap_i64 (by omega) (by omega)
 refine spec_body Tryz.func125 rfl (fun E hE => ?_); simp only [go_sem, Tryz.ntmps125]
 repeat' (first | (with_reducible (show runOps ..); first | (refine Qr rfl ?_; try intro K' hK; try simp only [go_sem, *]) | (refine Qi rfl rfl rfl rfl (fun hb K' hK => ?_) (fun hb => ?_) <;> (have hc := hb; try simp only [go_sem] at hc; simp only [go_sem, *]))) | (with_reducible (show Hold ..); first | refine Qh rfl ?_ | refine s_draw rfl Tryz.mixed (by kernel_rfl) ?_ | (refine s_cond rfl ⟨_, rfl, fun hb => ?_, fun hb => ?_⟩ <;> (have hc := hb; try simp only [go_sem] at hc)) | refine s_ret rfl ?_) | (with_reducible (show callA ..); first | (refine call_s (sp_between _ _ _) ?_ ?_; (focus (simp only [go_sem, *]; done)); simp only [go_sem, *])) | ((with_reducible refine Qb ?_ ?_); focus kernel_rfl) | ((with_reducible refine And.intro ?_ ?_); focus omega) | (refine contA_of hK ?_; clear hK K'; simp only [go_sem, *]) | (simp only [thenA, inBlockA, go_sem, *]))
 all_goals (refine ⟨[_, _], [], [], ⟨rfl, rfl, trivial⟩, ?_⟩; simp only [go_sem, *])
theorem eff_b (p : Plan) (c : Change) (hl : p.length ≤ 1000) (hbk : betw c.kind 1 7 = true) (hbs : betw c.street 0 ((p.length : Int) - 1) = true) (hk4 : (c.kind == 4) = false) (hk7 : (c.kind == 7) = false) (hco : (c.other != 0) = false) (hk5 : decide (c.kind ≥ 5) = false) (hsz : (c.src.number == 0 && c.src.letter == 0) = false) : Spec Tryz.prog 125 [encPlan p, c.enc] [] (.tup [.raw (.map none), iV 1]) [] := by
 have hwl : IntKind.i64.wrap ((p.length : Int) - 1) = (p.length : Int) - 1 := wrap_i64 (by omega) (by omega)
 refine spec_body Tryz.func125 rfl (fun E hE => ?_); simp only [go_sem, Tryz.ntmps125]
 repeat' (first | (with_reducible (show runOps ..); first | (refine Qr rfl ?_; try intro K' hK; try simp only [go_sem, *]) | (refine Qi rfl rfl rfl rfl (fun hb K' hK => ?_) (fun hb => ?_) <;> (have hc := hb; try simp only [go_sem] at hc; simp only [go_sem, *]))) | (with_reducible (show Hold ..); first | refine Qh rfl ?_ | refine s_draw rfl Tryz.mixed (by kernel_rfl) ?_ | (refine s_cond rfl ⟨_, rfl, fun hb => ?_, fun hb => ?_⟩ <;> (have hc := hb; try simp only [go_sem] at hc)) | refine s_ret rfl ?_) | (with_reducible (show callA ..); first | (refine call_s (sp_between _ _ _) ?_ ?_; (focus (simp only [go_sem, *]; done)); simp only [go_sem, *])) | ((with_reducible refine Qb ?_ ?_); focus kernel_rfl) | ((with_reducible refine And.intro ?_ ?_); focus omega) | (refine contA_of hK ?_; clear hK K'; simp only [go_sem, *]) | (simp only [thenA, inBlockA, go_sem, *]))
 all_goals (refine ⟨[_, _], [], [], ⟨rfl, rfl, trivial⟩, ?_⟩; simp only [go_sem, *])
theorem eff_c4 (p : Plan) (c : Change) (hl : p.length ≤ 1000) (hbk : betw c.kind 1 7 = true) (hbs : betw c.street 0 ((p.length : Int) - 1) = true) (hk4 : (c.kind == 4) = true) (hk7 : (c.kind == 7) = false) (hbo : betw c.other 0 ((p.length : Int) - 1) = true) (hrp : (c.other == c.street) = false) (hk5 : decide (c.kind ≥ 5) = false) (hsz : (c.src.number == 0 && c.src.letter == 0) = true) (hdz : (c.dst.number == 0 && c.dst.letter == 0) = false) : Spec Tryz.prog 125 [encPlan p, c.enc] [] (.tup [.raw (.map none), iV 1]) [] := by
 have hwl : IntKind.i64.wrap ((p.length : Int) - 1) = (p.length : Int) - 1 := wrap_i64 (by omega) (by omega)
 refine spec_body Tryz.func125 rfl (fun E hE => ?_); simp only [go_sem, Tryz.ntmps125]
 repeat' (first | (with_reducible (show runOps ..); first | (refine Qr rfl ?_; try intro K' hK; try simp only [go_sem, *]) | (refine Qi rfl rfl rfl rfl (fun hb K' hK => ?_) (fun hb => ?_) <;> (have hc := hb; try simp only [go_sem] at hc; simp only [go_sem, *]))) | (with_reducible (show Hold ..); first | refine Qh rfl ?_ | refine s_draw rfl Tryz.mixed (by kernel_rfl) ?_ | (refine s_cond rfl ⟨_, rfl, fun hb => ?_, fun hb => ?_⟩ <;> (have hc := hb; try simp only [go_sem] at hc)) | refine s_ret rfl ?_) | (with_reducible (show callA ..); first | (refine call_s (sp_between _ _ _) ?_ ?_; (focus (simp only [go_sem, *]; done)); simp only [go_sem, *])) | ((with_reducible refine Qb ?_ ?_); focus kernel_rfl) | ((with_reducible refine And.intro ?_ ?_); focus omega) | (refine contA_of hK ?_; clear hK K'; simp only [go_sem, *]) | (simp only [thenA, inBlockA, go_sem, *]))
 all_goals (refine ⟨[_, _], [], [], ⟨rfl, rfl, trivial⟩, ?_⟩; simp only [go_sem, *])
theorem eff_c (p : Plan) (c : Change) (hl : p.length ≤ 1000) (hbk : betw c.kind 1 7 = true) (hbs : betw c.street 0 ((p.length : Int) - 1) = true) (hk4 : (c.kind == 4) = false) (hk7 : (c.kind == 7) = false) (hco : (c.other != 0) = false) (hk5 : decide (c.kind ≥ 5) = false) (hsz : (c.src.number == 0 && c.src.letter == 0) = true) (hdz : (c.dst.number == 0 && c.dst.letter == 0) = false) : Spec Tryz.prog 125 [encPlan p, c.enc] [] (.tup [.raw (.map none), iV 1]) [] := by
 have hwl : IntKind.i64.wrap ((p.length : Int) - 1) = (p.length : Int) - 1 := wrap_i64 (by omega) (by omega)
 refine spec_body Tryz.func125 rfl (fun E hE => ?_); simp only [go_sem, Tryz.ntmps125]
 repeat' (first | (with_reducible (show runOps ..); first | (refine Qr rfl ?_; try intro K' hK; try simp only [go_sem, *]) | (refine Qi rfl rfl rfl rfl (fun hb K' hK => ?_) (fun hb => ?_) <;> (have hc := hb; try simp only [go_sem] at hc; simp only [go_sem, *]))) | (with_reducible (show Hold ..); first | refine Qh rfl ?_ | refine s_draw rfl Tryz.mixed (by kernel_rfl) ?_ | (refine s_cond rfl ⟨_, rfl, fun hb => ?_, fun hb => ?_⟩ <;> (have hc := hb; try simp only [go_sem] at hc)) | refine s_ret rfl ?_) | (with_reducible (show callA ..); first | (refine call_s (sp_between _ _ _) ?_ ?_; (focus (simp only [go_sem, *]; done)); simp only [go_sem, *])) | ((with_reducible refine Qb ?_ ?_); focus kernel_rfl) | ((with_reducible refine And.intro ?_ ?_); focus omega) | (refine contA_of hK ?_; clear hK K'; simp only [go_sem, *]) | (simp only [thenA, inBlockA, go_sem, *]))
 all_goals (refine ⟨[_, _], [], [], ⟨rfl, rfl, trivial⟩, ?_⟩; simp only [go_sem, *])
theorem eff_c5 (p : Plan) (c : Change) (hl : p.length ≤ 1000) (hbk : betw c.kind 1 7 = true) (hbs : betw c.street 0 ((p.length : Int) - 1) = true) (hk4 : (c.kind == 4) = false) (hk7 : (c.kind == 7) = false) (hco : (c.other != 0) = false) (hk5 : decide (c.kind ≥ 5) = true) (hdz : (c.dst.number == 0 && c.dst.letter == 0) = false) : Spec Tryz.prog 125 [encPlan p, c.enc] [] (.tup [.raw (.map none), iV 1]) [] := by
 have hwl : IntKind.i64.wrap ((p.length : Int) - 1) = (p.length : Int) - 1 := wrap_i64 (by omega) (by omega)
 refine spec_body Tryz.func125 rfl (fun E hE => ?_); simp only [go_sem, Tryz.ntmps125]
 repeat' (first | (with_reducible (show runOps ..); first | (refine Qr rfl ?_; try intro K' hK; try simp only [go_sem, *]) | (refine Qi rfl rfl rfl rfl (fun hb K' hK => ?_) (fun hb => ?_) <;> (have hc := hb; try simp only [go_sem] at hc; simp only [go_sem, *]))) | (with_reducible (show Hold ..); first | refine Qh rfl ?_ | refine s_draw rfl Tryz.mixed (by kernel_rfl) ?_ | (refine s_cond rfl ⟨_, rfl, fun hb => ?_, fun hb => ?_⟩ <;> (have hc := hb; try simp only [go_sem] at hc)) | refine s_ret rfl ?_) | (with_reducible (show callA ..); first | (refine call_s (sp_between _ _ _) ?_ ?_; (focus (simp only [go_sem, *]; done)); simp only [go_sem, *])) | ((with_reducible refine Qb ?_ ?_); focus kernel_rfl) | ((with_reducible refine And.intro ?_ ?_); focus omega) | (refine contA_of hK ?_; clear hK K'; simp only [go_sem, *]) | (simp only [thenA, inBlockA, go_sem, *]))
 all_goals (refine ⟨[_, _], [], [], ⟨rfl, rfl, trivial⟩, ?_⟩; simp only [go_sem, *])
end Go.Abs

namespace Go.Abs
open Go Go.Proofs
set_option maxRecDepth 10000
attribute [go_sem] ge_iff_le
theorem fitsE_low {p : Plan} {c : Change} (h : c.kind = 1 ∨ c.kind = 2 ∨ c.kind = 3) : fitsE p c = 0 := by
 unfold fitsE; rw [if_neg (by omega), if_neg (by omega), if_neg (by omega), if_neg (by omega)]
theorem outM_low {p : Plan} {c : Change} (h : fitsE p c = 0) : outM p c = .mapo (keysP p) (movesP p (mv p c)) := by simp [outM, h]
def effR (p : Plan) (c : Change) : AV := if fitsE p c = 0 then .tup [.mp 0, iV 0] else .tup [.raw (.map none), iV (fitsE p c)]
def effO (p : Plan) (c : Change) : List AObj := if fitsE p c = 0 then [.mapo (keysP p) (movesP p (mv p c))] else []
@[go_sem] theorem betw_k1 : betw 1 1 7 = true := by decide
@[go_sem] theorem betw_k2 : betw 2 1 7 = true := by decide
@[go_sem] theorem betw_k3 : betw 3 1 7 = true := by decide
@[go_sem] theorem betw_k4 : betw 4 1 7 = true := by decide
@[go_sem] theorem betw_k5 : betw 5 1 7 = true := by decide
@[go_sem] theorem betw_k6 : betw 6 1 7 = true := by decide
@[go_sem] theorem betw_k7 : betw 7 1 7 = true := by decide
theorem sp_kind1 (p : Plan) (c : Change) (v : Valid p) (f : Pre p c) (k : c.kind = 1) : Spec Tryz.prog 169 [encPlan p, c.enc, .mp 0] [.mapo (keysP p) (movesP p fun h => [h])] (iV (fitsE p c)) [outM p c] := by
 have h := fitsE_low (p := p) (c := c) (by omega)
 rw [outM_low h, h]
 exact sp_turned p c v (f.fit h) k
theorem sp_kind2 (p : Plan) (c : Change) (v : Valid p) (f : Pre p c) (k : c.kind = 2) : Spec Tryz.prog 170 [encPlan p, c.enc, .mp 0] [.mapo (keysP p) (movesP p fun h => [h])] (iV (fitsE p c)) [outM p c] := by
 have h := fitsE_low (p := p) (c := c) (by omega)
 rw [outM_low h, h]
 exact sp_swapped p c v (f.fit h) k
theorem sp_kind3 (p : Plan) (c : Change) (v : Valid p) (f : Pre p c) (k : c.kind = 3) : Spec Tryz.prog 171 [encPlan p, c.enc, .mp 0] [.mapo (keysP p) (movesP p fun h => [h])] (iV (fitsE p c)) [outM p c] := by
 have h := fitsE_low (p := p) (c := c) (by omega)
 rw [outM_low h, h]
 exact sp_counted p c v (f.fit h) k
theorem eff_k1 (p : Plan) (c : Change) (v : Valid p) (f : Pre p c) (k : c.kind = 1) (hco : (c.other != 0) = false) (hsz : (c.src.number == 0 && c.src.letter == 0) = true) (hdz : (c.dst.number == 0 && c.dst.letter == 0) = true) : Spec Tryz.prog 125 [encPlan p, c.enc] [] (effR p c) (effO p c) := by
 have hwl : IntKind.i64.wrap ((p.length : Int) - 1) = (p.length : Int) - 1 := by have := v.len; exact wrap_i64 (by omega) (by omega)
 have hbs : betw c.street 0 ((p.length : Int) - 1) = true := betw_iff.2 (by have := f.street; omega)
 refine spec_body Tryz.func125 rfl (fun E hE => ?_); simp only [go_sem, Tryz.ntmps125]
 repeat' (first | (with_reducible (show runOps ..); first | (refine Qr rfl ?_; try intro K' hK; try simp only [go_sem, *]) | (refine Qi rfl rfl rfl rfl (fun hb K' hK => ?_) (fun hb => ?_) <;> (have hc := hb; try simp only [go_sem] at hc; simp only [go_sem, *]))) | (with_reducible (show Hold ..); first | refine Qh rfl ?_ | refine s_draw rfl Tryz.mixed (by kernel_rfl) ?_ | (refine s_cond rfl ⟨_, rfl, fun hb => ?_, fun hb => ?_⟩ <;> (have hc := hb; try simp only [go_sem] at hc)) | refine s_ret rfl ?_) | (with_reducible (show callA ..); first | ((first | refine call_s (sp_between _ _ _) ?_ ?_ | refine call_s (sp_effects) ?_ ?_); (focus (simp only [go_sem, *]; done)); simp only [go_sem, *]) | (refine call_n (sp_stay p v) ?_ ?_ ?_ ?_; (focus (simp only [go_sem, *]; done)); (focus (first | (simp; done) | (simp [go_sem]; done))); (focus (first | (simp; done) | (simp [go_sem]; done))); simp only [go_sem, *])) | ((with_reducible refine Qb ?_ ?_); focus kernel_rfl) | ((with_reducible refine And.intro ?_ ?_); focus omega) | (refine contA_of hK ?_; clear hK K'; simp only [go_sem, *]) | (simp only [thenA, inBlockA, go_sem, *]))
 refine call_of [2] [] (sp_kind1 p c v f k) (by simp) (by simp only [go_sem, *]) (by simp only [go_sem, AObj.live, *]) (by simp) (.inl rfl) (by simp [go_sem]) (by simp [outM]; split <;> simp) ?_
 simp only [go_sem, *]
 repeat' (first | (with_reducible (show runOps ..); first | (refine Qr rfl ?_; try intro K' hK; try simp only [go_sem, *]) | (refine Qi rfl rfl rfl rfl (fun hb K' hK => ?_) (fun hb => ?_) <;> (have hc := hb; try simp only [go_sem] at hc; simp only [go_sem, *]))) | (with_reducible (show Hold ..); first | refine Qh rfl ?_ | refine s_draw rfl Tryz.mixed (by kernel_rfl) ?_ | (refine s_cond rfl ⟨_, rfl, fun hb => ?_, fun hb => ?_⟩ <;> (have hc := hb; try simp only [go_sem] at hc)) | refine s_ret rfl ?_) | ((with_reducible refine Qb ?_ ?_); focus kernel_rfl) | ((with_reducible refine And.intro ?_ ?_); focus omega) | (refine contA_of hK ?_; clear hK K'; simp only [go_sem, *]) | (simp only [thenA, inBlockA, go_sem, *]))
 ·have h : ¬ fitsE p c = 0 := by assumption
  have e1 : effR p c = .tup [.raw (.map none), iV (fitsE p c)] := by simp [effR, h]
  have e2 : effO p c = [] := by simp [effO, h]
  refine ⟨[_, _], [], [], ⟨rfl, rfl, trivial⟩, ?_⟩
  simp only [go_sem, e1, e2]
 ·have h : fitsE p c = 0 := by assumption
  have e1 : effR p c = .tup [.mp 0, iV 0] := by simp [effR, h]
  have e2 : effO p c = [.mapo (keysP p) (movesP p (mv p c))] := by simp [effO, h]
  have e3 := outM_low h
  refine ⟨[_, _], [some 2], [], ⟨rfl, rfl, trivial⟩, ?_⟩
  simp only [go_sem, e1, e2, e3, AObj.ren]
theorem eff_k2 (p : Plan) (c : Change) (v : Valid p) (f : Pre p c) (k : c.kind = 2) (hco : (c.other != 0) = false) (hsz : (c.src.number == 0 && c.src.letter == 0) = true) (hdz : (c.dst.number == 0 && c.dst.letter == 0) = true) : Spec Tryz.prog 125 [encPlan p, c.enc] [] (effR p c) (effO p c) := by
 have hwl : IntKind.i64.wrap ((p.length : Int) - 1) = (p.length : Int) - 1 := by have := v.len; exact wrap_i64 (by omega) (by omega)
 have hbs : betw c.street 0 ((p.length : Int) - 1) = true := betw_iff.2 (by have := f.street; omega)
 refine spec_body Tryz.func125 rfl (fun E hE => ?_); simp only [go_sem, Tryz.ntmps125]
 repeat' (first | (with_reducible (show runOps ..); first | (refine Qr rfl ?_; try intro K' hK; try simp only [go_sem, *]) | (refine Qi rfl rfl rfl rfl (fun hb K' hK => ?_) (fun hb => ?_) <;> (have hc := hb; try simp only [go_sem] at hc; simp only [go_sem, *]))) | (with_reducible (show Hold ..); first | refine Qh rfl ?_ | refine s_draw rfl Tryz.mixed (by kernel_rfl) ?_ | (refine s_cond rfl ⟨_, rfl, fun hb => ?_, fun hb => ?_⟩ <;> (have hc := hb; try simp only [go_sem] at hc)) | refine s_ret rfl ?_) | (with_reducible (show callA ..); first | ((first | refine call_s (sp_between _ _ _) ?_ ?_ | refine call_s (sp_effects) ?_ ?_); (focus (simp only [go_sem, *]; done)); simp only [go_sem, *]) | (refine call_n (sp_stay p v) ?_ ?_ ?_ ?_; (focus (simp only [go_sem, *]; done)); (focus (first | (simp; done) | (simp [go_sem]; done))); (focus (first | (simp; done) | (simp [go_sem]; done))); simp only [go_sem, *])) | ((with_reducible refine Qb ?_ ?_); focus kernel_rfl) | ((with_reducible refine And.intro ?_ ?_); focus omega) | (refine contA_of hK ?_; clear hK K'; simp only [go_sem, *]) | (simp only [thenA, inBlockA, go_sem, *]))
 refine call_of [2] [] (sp_kind2 p c v f k) (by simp) (by simp only [go_sem, *]) (by simp only [go_sem, AObj.live, *]) (by simp) (.inl rfl) (by simp [go_sem]) (by simp [outM]; split <;> simp) ?_
 simp only [go_sem, *]
 repeat' (first | (with_reducible (show runOps ..); first | (refine Qr rfl ?_; try intro K' hK; try simp only [go_sem, *]) | (refine Qi rfl rfl rfl rfl (fun hb K' hK => ?_) (fun hb => ?_) <;> (have hc := hb; try simp only [go_sem] at hc; simp only [go_sem, *]))) | (with_reducible (show Hold ..); first | refine Qh rfl ?_ | refine s_draw rfl Tryz.mixed (by kernel_rfl) ?_ | (refine s_cond rfl ⟨_, rfl, fun hb => ?_, fun hb => ?_⟩ <;> (have hc := hb; try simp only [go_sem] at hc)) | refine s_ret rfl ?_) | ((with_reducible refine Qb ?_ ?_); focus kernel_rfl) | ((with_reducible refine And.intro ?_ ?_); focus omega) | (refine contA_of hK ?_; clear hK K'; simp only [go_sem, *]) | (simp only [thenA, inBlockA, go_sem, *]))
 ·have h : ¬ fitsE p c = 0 := by assumption
  have e1 : effR p c = .tup [.raw (.map none), iV (fitsE p c)] := by simp [effR, h]
  have e2 : effO p c = [] := by simp [effO, h]
  refine ⟨[_, _], [], [], ⟨rfl, rfl, trivial⟩, ?_⟩
  simp only [go_sem, e1, e2]
 ·have h : fitsE p c = 0 := by assumption
  have e1 : effR p c = .tup [.mp 0, iV 0] := by simp [effR, h]
  have e2 : effO p c = [.mapo (keysP p) (movesP p (mv p c))] := by simp [effO, h]
  have e3 := outM_low h
  refine ⟨[_, _], [some 2], [], ⟨rfl, rfl, trivial⟩, ?_⟩
  simp only [go_sem, e1, e2, e3, AObj.ren]
theorem eff_k3 (p : Plan) (c : Change) (v : Valid p) (f : Pre p c) (k : c.kind = 3) (hco : (c.other != 0) = false) (hsz : (c.src.number == 0 && c.src.letter == 0) = true) (hdz : (c.dst.number == 0 && c.dst.letter == 0) = true) : Spec Tryz.prog 125 [encPlan p, c.enc] [] (effR p c) (effO p c) := by
 have hwl : IntKind.i64.wrap ((p.length : Int) - 1) = (p.length : Int) - 1 := by have := v.len; exact wrap_i64 (by omega) (by omega)
 have hbs : betw c.street 0 ((p.length : Int) - 1) = true := betw_iff.2 (by have := f.street; omega)
 refine spec_body Tryz.func125 rfl (fun E hE => ?_); simp only [go_sem, Tryz.ntmps125]
 repeat' (first | (with_reducible (show runOps ..); first | (refine Qr rfl ?_; try intro K' hK; try simp only [go_sem, *]) | (refine Qi rfl rfl rfl rfl (fun hb K' hK => ?_) (fun hb => ?_) <;> (have hc := hb; try simp only [go_sem] at hc; simp only [go_sem, *]))) | (with_reducible (show Hold ..); first | refine Qh rfl ?_ | refine s_draw rfl Tryz.mixed (by kernel_rfl) ?_ | (refine s_cond rfl ⟨_, rfl, fun hb => ?_, fun hb => ?_⟩ <;> (have hc := hb; try simp only [go_sem] at hc)) | refine s_ret rfl ?_) | (with_reducible (show callA ..); first | ((first | refine call_s (sp_between _ _ _) ?_ ?_ | refine call_s (sp_effects) ?_ ?_); (focus (simp only [go_sem, *]; done)); simp only [go_sem, *]) | (refine call_n (sp_stay p v) ?_ ?_ ?_ ?_; (focus (simp only [go_sem, *]; done)); (focus (first | (simp; done) | (simp [go_sem]; done))); (focus (first | (simp; done) | (simp [go_sem]; done))); simp only [go_sem, *])) | ((with_reducible refine Qb ?_ ?_); focus kernel_rfl) | ((with_reducible refine And.intro ?_ ?_); focus omega) | (refine contA_of hK ?_; clear hK K'; simp only [go_sem, *]) | (simp only [thenA, inBlockA, go_sem, *]))
 refine call_of [2] [] (sp_kind3 p c v f k) (by simp) (by simp only [go_sem, *]) (by simp only [go_sem, AObj.live, *]) (by simp) (.inl rfl) (by simp [go_sem]) (by simp [outM]; split <;> simp) ?_
 simp only [go_sem, *]
 repeat' (first | (with_reducible (show runOps ..); first | (refine Qr rfl ?_; try intro K' hK; try simp only [go_sem, *]) | (refine Qi rfl rfl rfl rfl (fun hb K' hK => ?_) (fun hb => ?_) <;> (have hc := hb; try simp only [go_sem] at hc; simp only [go_sem, *]))) | (with_reducible (show Hold ..); first | refine Qh rfl ?_ | refine s_draw rfl Tryz.mixed (by kernel_rfl) ?_ | (refine s_cond rfl ⟨_, rfl, fun hb => ?_, fun hb => ?_⟩ <;> (have hc := hb; try simp only [go_sem] at hc)) | refine s_ret rfl ?_) | ((with_reducible refine Qb ?_ ?_); focus kernel_rfl) | ((with_reducible refine And.intro ?_ ?_); focus omega) | (refine contA_of hK ?_; clear hK K'; simp only [go_sem, *]) | (simp only [thenA, inBlockA, go_sem, *]))
 ·have h : ¬ fitsE p c = 0 := by assumption
  have e1 : effR p c = .tup [.raw (.map none), iV (fitsE p c)] := by simp [effR, h]
  have e2 : effO p c = [] := by simp [effO, h]
  refine ⟨[_, _], [], [], ⟨rfl, rfl, trivial⟩, ?_⟩
  simp only [go_sem, e1, e2]
 ·have h : fitsE p c = 0 := by assumption
  have e1 : effR p c = .tup [.mp 0, iV 0] := by simp [effR, h]
  have e2 : effO p c = [.mapo (keysP p) (movesP p (mv p c))] := by simp [effO, h]
  have e3 := outM_low h
  refine ⟨[_, _], [some 2], [], ⟨rfl, rfl, trivial⟩, ?_⟩
  simp only [go_sem, e1, e2, e3, AObj.ren]
theorem eff_k4 (p : Plan) (c : Change) (v : Valid p) (f : Pre p c) (k : c.kind = 4) (hbo : betw c.other 0 ((p.length : Int) - 1) = true) (hrp : (c.other == c.street) = false) (hsz : (c.src.number == 0 && c.src.letter == 0) = true) (hdz : (c.dst.number == 0 && c.dst.letter == 0) = true) : Spec Tryz.prog 125 [encPlan p, c.enc] [] (effR p c) (effO p c) := by
 have hwl : IntKind.i64.wrap ((p.length : Int) - 1) = (p.length : Int) - 1 := by have := v.len; exact wrap_i64 (by omega) (by omega)
 have hbs : betw c.street 0 ((p.length : Int) - 1) = true := betw_iff.2 (by have := f.street; omega)
 refine spec_body Tryz.func125 rfl (fun E hE => ?_); simp only [go_sem, Tryz.ntmps125]
 repeat' (first | (with_reducible (show runOps ..); first | (refine Qr rfl ?_; try intro K' hK; try simp only [go_sem, *]) | (refine Qi rfl rfl rfl rfl (fun hb K' hK => ?_) (fun hb => ?_) <;> (have hc := hb; try simp only [go_sem] at hc; simp only [go_sem, *]))) | (with_reducible (show Hold ..); first | refine Qh rfl ?_ | refine s_draw rfl Tryz.mixed (by kernel_rfl) ?_ | (refine s_cond rfl ⟨_, rfl, fun hb => ?_, fun hb => ?_⟩ <;> (have hc := hb; try simp only [go_sem] at hc)) | refine s_ret rfl ?_) | (with_reducible (show callA ..); first | ((first | refine call_s (sp_between _ _ _) ?_ ?_ | refine call_s (sp_effects) ?_ ?_); (focus (simp only [go_sem, *]; done)); simp only [go_sem, *]) | (refine call_n (sp_stay p v) ?_ ?_ ?_ ?_; (focus (simp only [go_sem, *]; done)); (focus (first | (simp; done) | (simp [go_sem]; done))); (focus (first | (simp; done) | (simp [go_sem]; done))); simp only [go_sem, *])) | ((with_reducible refine Qb ?_ ?_); focus kernel_rfl) | ((with_reducible refine And.intro ?_ ?_); focus omega) | (refine contA_of hK ?_; clear hK K'; simp only [go_sem, *]) | (simp only [thenA, inBlockA, go_sem, *]))
 refine call_of [2] [] (sp_joined p c v f k) (by simp) (by simp only [go_sem, *]) (by simp only [go_sem, AObj.live, *]) (by simp) (.inl rfl) (by simp [go_sem]) (by simp [outM]; split <;> simp) ?_
 simp only [go_sem, *]
 repeat' (first | (with_reducible (show runOps ..); first | (refine Qr rfl ?_; try intro K' hK; try simp only [go_sem, *]) | (refine Qi rfl rfl rfl rfl (fun hb K' hK => ?_) (fun hb => ?_) <;> (have hc := hb; try simp only [go_sem] at hc; simp only [go_sem, *]))) | (with_reducible (show Hold ..); first | refine Qh rfl ?_ | refine s_draw rfl Tryz.mixed (by kernel_rfl) ?_ | (refine s_cond rfl ⟨_, rfl, fun hb => ?_, fun hb => ?_⟩ <;> (have hc := hb; try simp only [go_sem] at hc)) | refine s_ret rfl ?_) | ((with_reducible refine Qb ?_ ?_); focus kernel_rfl) | ((with_reducible refine And.intro ?_ ?_); focus omega) | (refine contA_of hK ?_; clear hK K'; simp only [go_sem, *]) | (simp only [thenA, inBlockA, go_sem, *]))
 ·have h : ¬ fitsE p c = 0 := by assumption
  have e1 : effR p c = .tup [.raw (.map none), iV (fitsE p c)] := by simp [effR, h]
  have e2 : effO p c = [] := by simp [effO, h]
  refine ⟨[_, _], [], [], ⟨rfl, rfl, trivial⟩, ?_⟩
  simp only [go_sem, e1, e2]
 ·have h : fitsE p c = 0 := by assumption
  have e1 : effR p c = .tup [.mp 0, iV 0] := by simp [effR, h]
  have e2 : effO p c = [.mapo (keysP p) (movesP p (mv p c))] := by simp [effO, h]
  have e3 := outM_low h
  refine ⟨[_, _], [some 2], [], ⟨rfl, rfl, trivial⟩, ?_⟩
  simp only [go_sem, e1, e2, e3, AObj.ren]
theorem eff_k5 (p : Plan) (c : Change) (v : Valid p) (f : Pre p c) (k : c.kind = 5) (hco : (c.other != 0) = false) (hdz : (c.dst.number == 0 && c.dst.letter == 0) = true) : Spec Tryz.prog 125 [encPlan p, c.enc] [] (effR p c) (effO p c) := by
 have hwl : IntKind.i64.wrap ((p.length : Int) - 1) = (p.length : Int) - 1 := by have := v.len; exact wrap_i64 (by omega) (by omega)
 have hbs : betw c.street 0 ((p.length : Int) - 1) = true := betw_iff.2 (by have := f.street; omega)
 refine spec_body Tryz.func125 rfl (fun E hE => ?_); simp only [go_sem, Tryz.ntmps125]
 repeat' (first | (with_reducible (show runOps ..); first | (refine Qr rfl ?_; try intro K' hK; try simp only [go_sem, *]) | (refine Qi rfl rfl rfl rfl (fun hb K' hK => ?_) (fun hb => ?_) <;> (have hc := hb; try simp only [go_sem] at hc; simp only [go_sem, *]))) | (with_reducible (show Hold ..); first | refine Qh rfl ?_ | refine s_draw rfl Tryz.mixed (by kernel_rfl) ?_ | (refine s_cond rfl ⟨_, rfl, fun hb => ?_, fun hb => ?_⟩ <;> (have hc := hb; try simp only [go_sem] at hc)) | refine s_ret rfl ?_) | (with_reducible (show callA ..); first | ((first | refine call_s (sp_between _ _ _) ?_ ?_ | refine call_s (sp_effects) ?_ ?_); (focus (simp only [go_sem, *]; done)); simp only [go_sem, *]) | (refine call_n (sp_stay p v) ?_ ?_ ?_ ?_; (focus (simp only [go_sem, *]; done)); (focus (first | (simp; done) | (simp [go_sem]; done))); (focus (first | (simp; done) | (simp [go_sem]; done))); simp only [go_sem, *])) | ((with_reducible refine Qb ?_ ?_); focus kernel_rfl) | ((with_reducible refine And.intro ?_ ?_); focus omega) | (refine contA_of hK ?_; clear hK K'; simp only [go_sem, *]) | (simp only [thenA, inBlockA, go_sem, *]))
 refine call_of [2] [] (sp_divided p c v f k) (by simp) (by simp only [go_sem, *]) (by simp only [go_sem, AObj.live, *]) (by simp) (.inl rfl) (by simp [go_sem]) (by simp [outM]; split <;> simp) ?_
 simp only [go_sem, *]
 repeat' (first | (with_reducible (show runOps ..); first | (refine Qr rfl ?_; try intro K' hK; try simp only [go_sem, *]) | (refine Qi rfl rfl rfl rfl (fun hb K' hK => ?_) (fun hb => ?_) <;> (have hc := hb; try simp only [go_sem] at hc; simp only [go_sem, *]))) | (with_reducible (show Hold ..); first | refine Qh rfl ?_ | refine s_draw rfl Tryz.mixed (by kernel_rfl) ?_ | (refine s_cond rfl ⟨_, rfl, fun hb => ?_, fun hb => ?_⟩ <;> (have hc := hb; try simp only [go_sem] at hc)) | refine s_ret rfl ?_) | ((with_reducible refine Qb ?_ ?_); focus kernel_rfl) | ((with_reducible refine And.intro ?_ ?_); focus omega) | (refine contA_of hK ?_; clear hK K'; simp only [go_sem, *]) | (simp only [thenA, inBlockA, go_sem, *]))
 ·have h : ¬ fitsE p c = 0 := by assumption
  have e1 : effR p c = .tup [.raw (.map none), iV (fitsE p c)] := by simp [effR, h]
  have e2 : effO p c = [] := by simp [effO, h]
  refine ⟨[_, _], [], [], ⟨rfl, rfl, trivial⟩, ?_⟩
  simp only [go_sem, e1, e2]
 ·have h : fitsE p c = 0 := by assumption
  have e1 : effR p c = .tup [.mp 0, iV 0] := by simp [effR, h]
  have e2 : effO p c = [.mapo (keysP p) (movesP p (mv p c))] := by simp [effO, h]
  have e3 := outM_low h
  refine ⟨[_, _], [some 2], [], ⟨rfl, rfl, trivial⟩, ?_⟩
  simp only [go_sem, e1, e2, e3, AObj.ren]
theorem eff_k6 (p : Plan) (c : Change) (v : Valid p) (f : Pre p c) (k : c.kind = 6) (hco : (c.other != 0) = false) (hdz : (c.dst.number == 0 && c.dst.letter == 0) = true) : Spec Tryz.prog 125 [encPlan p, c.enc] [] (effR p c) (effO p c) := by
 have hwl : IntKind.i64.wrap ((p.length : Int) - 1) = (p.length : Int) - 1 := by have := v.len; exact wrap_i64 (by omega) (by omega)
 have hbs : betw c.street 0 ((p.length : Int) - 1) = true := betw_iff.2 (by have := f.street; omega)
 refine spec_body Tryz.func125 rfl (fun E hE => ?_); simp only [go_sem, Tryz.ntmps125]
 repeat' (first | (with_reducible (show runOps ..); first | (refine Qr rfl ?_; try intro K' hK; try simp only [go_sem, *]) | (refine Qi rfl rfl rfl rfl (fun hb K' hK => ?_) (fun hb => ?_) <;> (have hc := hb; try simp only [go_sem] at hc; simp only [go_sem, *]))) | (with_reducible (show Hold ..); first | refine Qh rfl ?_ | refine s_draw rfl Tryz.mixed (by kernel_rfl) ?_ | (refine s_cond rfl ⟨_, rfl, fun hb => ?_, fun hb => ?_⟩ <;> (have hc := hb; try simp only [go_sem] at hc)) | refine s_ret rfl ?_) | (with_reducible (show callA ..); first | ((first | refine call_s (sp_between _ _ _) ?_ ?_ | refine call_s (sp_effects) ?_ ?_); (focus (simp only [go_sem, *]; done)); simp only [go_sem, *]) | (refine call_n (sp_stay p v) ?_ ?_ ?_ ?_; (focus (simp only [go_sem, *]; done)); (focus (first | (simp; done) | (simp [go_sem]; done))); (focus (first | (simp; done) | (simp [go_sem]; done))); simp only [go_sem, *])) | ((with_reducible refine Qb ?_ ?_); focus kernel_rfl) | ((with_reducible refine And.intro ?_ ?_); focus omega) | (refine contA_of hK ?_; clear hK K'; simp only [go_sem, *]) | (simp only [thenA, inBlockA, go_sem, *]))
 refine call_of [2] [] (sp_felled p c v f k) (by simp) (by simp only [go_sem, *]) (by simp only [go_sem, AObj.live, *]) (by simp) (.inl rfl) (by simp [go_sem]) (by simp [outM]; split <;> simp) ?_
 simp only [go_sem, *]
 repeat' (first | (with_reducible (show runOps ..); first | (refine Qr rfl ?_; try intro K' hK; try simp only [go_sem, *]) | (refine Qi rfl rfl rfl rfl (fun hb K' hK => ?_) (fun hb => ?_) <;> (have hc := hb; try simp only [go_sem] at hc; simp only [go_sem, *]))) | (with_reducible (show Hold ..); first | refine Qh rfl ?_ | refine s_draw rfl Tryz.mixed (by kernel_rfl) ?_ | (refine s_cond rfl ⟨_, rfl, fun hb => ?_, fun hb => ?_⟩ <;> (have hc := hb; try simp only [go_sem] at hc)) | refine s_ret rfl ?_) | ((with_reducible refine Qb ?_ ?_); focus kernel_rfl) | ((with_reducible refine And.intro ?_ ?_); focus omega) | (refine contA_of hK ?_; clear hK K'; simp only [go_sem, *]) | (simp only [thenA, inBlockA, go_sem, *]))
 ·have h : ¬ fitsE p c = 0 := by assumption
  have e1 : effR p c = .tup [.raw (.map none), iV (fitsE p c)] := by simp [effR, h]
  have e2 : effO p c = [] := by simp [effO, h]
  refine ⟨[_, _], [], [], ⟨rfl, rfl, trivial⟩, ?_⟩
  simp only [go_sem, e1, e2]
 ·have h : fitsE p c = 0 := by assumption
  have e1 : effR p c = .tup [.mp 0, iV 0] := by simp [effR, h]
  have e2 : effO p c = [.mapo (keysP p) (movesP p (mv p c))] := by simp [effO, h]
  have e3 := outM_low h
  refine ⟨[_, _], [some 2], [], ⟨rfl, rfl, trivial⟩, ?_⟩
  simp only [go_sem, e1, e2, e3, AObj.ren]
theorem eff_k7 (p : Plan) (c : Change) (v : Valid p) (f : Pre p c) (k : c.kind = 7) (hbo : betw c.other 0 ((p.length : Int) - 1) = true) (hrp : (c.other == c.street) = false) : Spec Tryz.prog 125 [encPlan p, c.enc] [] (effR p c) (effO p c) := by
 have hwl : IntKind.i64.wrap ((p.length : Int) - 1) = (p.length : Int) - 1 := by have := v.len; exact wrap_i64 (by omega) (by omega)
 have hbs : betw c.street 0 ((p.length : Int) - 1) = true := betw_iff.2 (by have := f.street; omega)
 refine spec_body Tryz.func125 rfl (fun E hE => ?_); simp only [go_sem, Tryz.ntmps125]
 repeat' (first | (with_reducible (show runOps ..); first | (refine Qr rfl ?_; try intro K' hK; try simp only [go_sem, *]) | (refine Qi rfl rfl rfl rfl (fun hb K' hK => ?_) (fun hb => ?_) <;> (have hc := hb; try simp only [go_sem] at hc; simp only [go_sem, *]))) | (with_reducible (show Hold ..); first | refine Qh rfl ?_ | refine s_draw rfl Tryz.mixed (by kernel_rfl) ?_ | (refine s_cond rfl ⟨_, rfl, fun hb => ?_, fun hb => ?_⟩ <;> (have hc := hb; try simp only [go_sem] at hc)) | refine s_ret rfl ?_) | (with_reducible (show callA ..); first | ((first | refine call_s (sp_between _ _ _) ?_ ?_ | refine call_s (sp_effects) ?_ ?_); (focus (simp only [go_sem, *]; done)); simp only [go_sem, *]) | (refine call_n (sp_stay p v) ?_ ?_ ?_ ?_; (focus (simp only [go_sem, *]; done)); (focus (first | (simp; done) | (simp [go_sem]; done))); (focus (first | (simp; done) | (simp [go_sem]; done))); simp only [go_sem, *])) | ((with_reducible refine Qb ?_ ?_); focus kernel_rfl) | ((with_reducible refine And.intro ?_ ?_); focus omega) | (refine contA_of hK ?_; clear hK K'; simp only [go_sem, *]) | (simp only [thenA, inBlockA, go_sem, *]))
 refine call_of [2] [] (sp_courted p c v f k) (by simp) (by simp only [go_sem, *]) (by simp only [go_sem, AObj.live, *]) (by simp) (.inl rfl) (by simp [go_sem]) (by simp [outM]; split <;> simp) ?_
 simp only [go_sem, *]
 repeat' (first | (with_reducible (show runOps ..); first | (refine Qr rfl ?_; try intro K' hK; try simp only [go_sem, *]) | (refine Qi rfl rfl rfl rfl (fun hb K' hK => ?_) (fun hb => ?_) <;> (have hc := hb; try simp only [go_sem] at hc; simp only [go_sem, *]))) | (with_reducible (show Hold ..); first | refine Qh rfl ?_ | refine s_draw rfl Tryz.mixed (by kernel_rfl) ?_ | (refine s_cond rfl ⟨_, rfl, fun hb => ?_, fun hb => ?_⟩ <;> (have hc := hb; try simp only [go_sem] at hc)) | refine s_ret rfl ?_) | ((with_reducible refine Qb ?_ ?_); focus kernel_rfl) | ((with_reducible refine And.intro ?_ ?_); focus omega) | (refine contA_of hK ?_; clear hK K'; simp only [go_sem, *]) | (simp only [thenA, inBlockA, go_sem, *]))
 ·have h : ¬ fitsE p c = 0 := by assumption
  have e1 : effR p c = .tup [.raw (.map none), iV (fitsE p c)] := by simp [effR, h]
  have e2 : effO p c = [] := by simp [effO, h]
  refine ⟨[_, _], [], [], ⟨rfl, rfl, trivial⟩, ?_⟩
  simp only [go_sem, e1, e2]
 ·have h : fitsE p c = 0 := by assumption
  have e1 : effR p c = .tup [.mp 0, iV 0] := by simp [effR, h]
  have e2 : effO p c = [.mapo (keysP p) (movesP p (mv p c))] := by simp [effO, h]
  have e3 := outM_low h
  refine ⟨[_, _], [some 2], [], ⟨rfl, rfl, trivial⟩, ?_⟩
  simp only [go_sem, e1, e2, e3, AObj.ren]
end Go.Abs

namespace Go.Abs
open Go
section
variable {α : Type} (cf : α → α → Int)
def insR (x : α) : List α → List α
 | [] => [x]
 | y :: r => if cf x y < 0 then y :: insR x r else x :: y :: r
def insI (pre : List α) (x : α) : List α := (insR cf x pre.reverse).reverse
def isort (xs : List α) : List α := xs.foldl (insI cf) []
theorem insR_perm (x : α) : ∀ l : List α, (insR cf x l).Perm (x :: l)
 | [] => .refl _
 | y :: r => by
  unfold insR
  split
  ·exact ((insR_perm x r).cons y).trans (.swap x y r)
  ·exact .refl _
theorem insI_perm (pre : List α) (x : α) : (insI cf pre x).Perm (pre ++ [x]) := by
 unfold insI
 refine (List.reverse_perm _).trans ((insR_perm cf x _).trans ?_)
 exact ((List.reverse_perm pre).cons x).trans (List.perm_append_comm (l₁ := [x]) (l₂ := pre))
theorem isort_aux : ∀ (xs pre : List α), (xs.foldl (insI cf) pre).Perm (pre ++ xs)
 | [], pre => by simp
 | x :: r, pre => by
  rw [List.foldl_cons]
  refine (isort_aux r _).trans ?_
  refine ((insI_perm cf pre x).append_right r).trans ?_
  simp
theorem isort_perm (xs : List α) : (isort cf xs).Perm xs := by have := isort_aux cf xs []; simpa [isort] using this
theorem isort_length (xs : List α) : (isort cf xs).length = xs.length := (isort_perm cf xs).length_eq
theorem isort_snoc (xs : List α) (x : α) : isort cf (xs ++ [x]) = insI cf (isort cf xs) x := by simp [isort, List.foldl_append]
def curL (S : List α) (x : α) (R : List α) (d : Nat) : List α := S.take (S.length - d) ++ x :: (S.drop (S.length - d) ++ R)
theorem curL_length (S : List α) (x : α) (R : List α) (d : Nat) : (curL S x R d).length = S.length + 1 + R.length := by simp [curL]; omega
variable [Inhabited α]
theorem curL_x (S : List α) (x : α) (R : List α) {d : Nat} (h : d ≤ S.length) : (curL S x R d).getD (S.length - d) default = x := by
 unfold curL
 simp only [List.getD_eq_getElem?_getD]
 rw [List.getElem?_append_right (by simp)]
 simp [show min (S.length - d) S.length = S.length - d by omega]
theorem curL_y (S : List α) (x : α) (R : List α) {d : Nat} (h : d < S.length) : (curL S x R d).getD (S.length - d - 1) default = S.getD (S.length - d - 1) default := by
 unfold curL
 simp only [List.getD_eq_getElem?_getD]
 rw [List.getElem?_append_left (by simp; omega), List.getElem?_take, if_pos (by omega)]
theorem curL_swap (S : List α) (x : α) (R : List α) {d : Nat} (h : d < S.length) :
  ((curL S x R d).set (S.length - d) (S.getD (S.length - d - 1) default)).set (S.length - d - 1) x = curL S x R (d + 1) := by
 obtain ⟨j, hj⟩ : ∃ j, S.length - d = j + 1 := ⟨S.length - d - 1, by omega⟩
 have hj' : S.length - (d + 1) = j := by omega
 have hlt : j < S.length := by omega
 unfold curL
 rw [hj, hj']
 have e1 : S.take (j + 1) = S.take j ++ [S.getD j default] := by rw [List.take_add_one]; simp [List.getD, hlt]
 have e2 : S.drop j = S.getD j default :: S.drop (j + 1) := drop_cons hlt
 rw [e1, e2]
 simp only [Nat.add_sub_cancel]
 have hl : (S.take j).length = j := by simp; omega
 rw [List.append_assoc, List.set_append_right _ _ (by omega), hl]
 simp only [Nat.add_sub_cancel_left, List.singleton_append, List.set_cons_succ, List.set_cons_zero]
 rw [List.set_append_right _ _ (by omega), hl]
 simp
theorem insI_snoc_lt (pre : List α) (x y : α) (h : cf x y < 0) : insI cf (pre ++ [y]) x = insI cf pre x ++ [y] := by
 have _ := (default : α)
 unfold insI; simp [insR, h]
theorem insI_snoc_ge (pre : List α) (x y : α) (h : ¬ cf x y < 0) : insI cf (pre ++ [y]) x = pre ++ [y] ++ [x] := by
 have _ := (default : α)
 unfold insI; simp [insR, h]
theorem take_succ_getD' {l : List α} {i : Nat} (h : i < l.length) : l.take (i + 1) = l.take i ++ [l.getD i default] := by
 rw [List.take_add_one]; simp [List.getD, h]
def InsP (S : List α) (x : α) (R : List α) (cur : List α) (d : Nat) : Prop := cur = curL S x R d ∧ insI cf S x = insI cf (S.take (S.length - d)) x ++ S.drop (S.length - d)
theorem InsP.start (S : List α) (x : α) (R : List α) : InsP cf S x R (S ++ x :: R) 0 := by simp [InsP, curL]
theorem InsP.next {S : List α} {x : α} {R cur : List α} {d : Nat} (h : InsP cf S x R cur d) (hd : d < S.length) (hc : cf x (S.getD (S.length - d - 1) default) < 0) :
  InsP cf S x R ((cur.set (S.length - d) (S.getD (S.length - d - 1) default)).set (S.length - d - 1) x) (d + 1) := by
 obtain ⟨h1, h2⟩ := h
 refine ⟨by rw [h1, curL_swap S x R hd], ?_⟩
 obtain ⟨j, hj⟩ : ∃ j, S.length - d = j + 1 := ⟨S.length - d - 1, by omega⟩
 have hj' : S.length - (d + 1) = j := by omega
 have hlt : j < S.length := by omega
 have e1 : S.take (j + 1) = S.take j ++ [S.getD j default] := by rw [List.take_add_one]; simp [List.getD, hlt]
 have e2 : S.drop j = S.getD j default :: S.drop (j + 1) := drop_cons hlt
 rw [hj] at h2 hc
 simp only [Nat.add_sub_cancel] at hc
 rw [h2, hj', e1, insI_snoc_lt cf _ _ _ hc, e2, List.append_assoc]; rfl
theorem InsP.stop {S : List α} {x : α} {R cur : List α} {d : Nat} (h : InsP cf S x R cur d) (hd : d ≤ S.length) (hc : d < S.length → ¬ cf x (S.getD (S.length - d - 1) default) < 0) : cur = insI cf S x ++ R := by
 obtain ⟨h1, h2⟩ := h
 rw [h1, h2]
 unfold curL
 by_cases e : d = S.length
 ·subst e; simp [insI, insR]
 ·obtain ⟨j, hj⟩ : ∃ j, S.length - d = j + 1 := ⟨S.length - d - 1, by omega⟩
  have hlt : j < S.length := by omega
  have e1 : S.take (j + 1) = S.take j ++ [S.getD j default] := by rw [List.take_add_one]; simp [List.getD, hlt]
  have hc' := hc (by omega)
  rw [hj] at hc' ⊢
  simp only [Nat.add_sub_cancel] at hc'
  rw [e1, insI_snoc_ge cf _ _ _ hc']; simp
end
end Go.Abs

namespace Go.Abs
open Go Go.Proofs
set_option maxRecDepth 10000
theorem outP_start_Plate (cf : Plate → Plate → Int) (xs : List Plate) : xs = isort cf (xs.take 1) ++ xs.drop 1 := by
 cases xs with
 | nil => rfl
 | cons x r => simp [isort, insI, insR]
def OutP_Plate (cf : Plate → Plate → Int) (xs cur : List Plate) (i : Nat) : Prop := cur = isort cf (xs.take (i + 1)) ++ xs.drop (i + 1)
theorem sp_ins_Plate {f : Nat} {cf : Plate → Plate → Int} (hc : callable Tryz.prog f = true) (hf : ∀ a b : Plate, Spec Tryz.prog f [a.enc, b.enc] [] (iV (cf a b)) []) (xs : List Plate) (h1 : xs.length ≤ 12) :
  Spec Tryz.prog 176 [.own 0 2 0 xs.length, iV 0, iV xs.length, fnV f] [.row 2 (xs.map Plate.enc)] (.tup []) [.row 2 ((isort cf xs).map Plate.enc)] := by
 refine spec_body Tryz.func176 rfl (fun E hE => ?_); simp only [go_sem, Tryz.ntmps176]
 have hw0 : IntKind.i64.wrap 1 = (1 : Int) := wrap_i64 (by omega) (by omega)
 repeat' (first | (with_reducible (show runOps ..); first | (refine Qr rfl ?_; try intro K' hK; try simp only [go_sem, *]) | (refine Qi rfl rfl rfl rfl (fun hb K' hK => ?_) (fun hb => ?_) <;> (have hc := hb; try simp only [go_sem] at hc; simp only [go_sem, *]))) | (with_reducible (show Hold ..); first | refine Qh rfl ?_ | refine s_draw rfl Tryz.mixed (by kernel_rfl) ?_ | (refine s_cond rfl ⟨_, rfl, fun hb => ?_, fun hb => ?_⟩ <;> (have hc := hb; try simp only [go_sem] at hc)) | refine s_ret rfl ?_) | ((with_reducible refine Qb ?_ ?_); focus kernel_rfl) | ((with_reducible refine And.intro ?_ ?_); focus omega) | (refine contA_of hK ?_; clear hK K'; simp only [go_sem, *]) | (simp only [thenA, inBlockA, go_sem, *]))
 refine s_loop rfl (fun zn zN zenv zAs => ∃ (i : Nat) (cur : List Plate), zn = (xs.length) - i ∧ i ≤ (xs.length) ∧ (OutP_Plate cf xs cur i) ∧ zN = 53 ∧ zenv = [(8, iV ((i : Int) + 1)), (0, .own 0 2 0 xs.length), (1, iV 0), (2, iV xs.length), (3, fnV f)] ∧ zAs = [.row 2 (cur.map Plate.enc)]) (xs.length) ⟨[some 0], [], _, _, _, (by (simp only [Weak, go_sem, List.map_append, List.map_set, *] <;> (try simp (disch := omega) only [wrap_succ]) <;> (try simp) <;> (try omega))), 0, xs, (by simp), (by simp), (by exact outP_start_Plate cf xs), rfl, rfl, rfl⟩ ?_; rintro _ _ _ _ ⟨i, cur, rfl, hi, hP, rfl, rfl, rfl⟩
 have hw : i < xs.length → IntKind.i64.wrap ((i : Int) + 1 + 1) = (((i + 1 : Nat) : Int) + 1) := fun h => by rw [wrap_i64 (by omega) (by omega)]; omega
 have hcm : ((i : Int) + 1 < (xs.length : Int)) = (i + 1 < xs.length) := by simp only [eq_iff_iff]; omega
 repeat' (first | (with_reducible (show runOps ..); first | (refine Qr rfl ?_; try intro K' hK; try simp only [go_sem, *]) | (refine Qi rfl rfl rfl rfl (fun hb K' hK => ?_) (fun hb => ?_) <;> (have hc := hb; try simp only [go_sem] at hc; simp only [go_sem, *]))) | (with_reducible (show Hold ..); first | refine Qh rfl ?_ | refine s_draw rfl Tryz.mixed (by kernel_rfl) ?_ | (refine s_cond rfl ⟨_, rfl, fun hb => ?_, fun hb => ?_⟩ <;> (have hc := hb; try simp only [go_sem] at hc)) | refine s_ret rfl ?_) | ((with_reducible refine Qb ?_ ?_); focus kernel_rfl) | ((with_reducible refine And.intro ?_ ?_); focus omega) | (refine contA_of hK ?_; clear hK K'; simp only [go_sem, *]) | (simp only [thenA, inBlockA, go_sem, *]))
 ·have hlt : i + 1 < xs.length := by assumption
  have hlt' : i < xs.length := by omega
  obtain ⟨S, hS⟩ : ∃ S, S = isort cf (xs.take (i + 1)) := ⟨_, rfl⟩
  have hSl : S.length = i + 1 := by rw [hS, isort_length]; simp; try omega
  obtain ⟨x, hx⟩ : ∃ x, x = xs.getD (i + 1) default := ⟨_, rfl⟩
  obtain ⟨R, hR⟩ : ∃ R, R = xs.drop (i + 1 + 1) := ⟨_, rfl⟩
  have hcur : cur = S ++ x :: R := by
   unfold OutP_Plate at hP
   rw [hP, hS, hx, hR, drop_cons hlt]
  have hfin : insI cf S x ++ R = isort cf (xs.take (i + 1 + 1)) ++ xs.drop (i + 1 + 1) := by
   rw [hS, hx, hR, take_succ_getD' hlt, isort_snoc]
  have hst : InsP cf S x R cur 0 := by rw [hcur]; exact InsP.start cf S x R
  have hRl : R.length = xs.length - (i + 2) := by rw [hR]; simp; try omega
  clear hS hx hR hcur hP
  refine s_loop rfl (fun zn zN zenv zAs => ∃ (d : Nat) (cur : List Plate), zn = (i + 1) - d ∧ d ≤ (i + 1) ∧ (InsP cf S x R cur d) ∧ zN = 53 ∧ zenv = [(9, iV (((i + 1) - d : Nat) : Int)), (8, iV ((i : Int) + 1)), (0, .own 0 2 0 xs.length), (1, iV 0), (2, iV xs.length), (3, fnV f)] ∧ zAs = [.row 2 (cur.map Plate.enc)]) (i + 1) ⟨[some 0], [], _, _, _, (by (simp only [Weak, go_sem, List.map_append, List.map_set, *] <;> (try simp (disch := omega) only [wrap_succ]) <;> (try simp) <;> (try omega))), 0, cur, (by simp), (by simp), (by exact hst), rfl, rfl, rfl⟩ ?_; rintro _ _ _ _ ⟨d, cur, rfl, hd, hQ, rfl, rfl, rfl⟩
  have hcl : cur.length = xs.length := by rw [hQ.1, curL_length]; omega
  have gx : cur.getD (i + 1 - d) default = x := by rw [hQ.1, ← hSl]; exact curL_x S x R (by omega)
  have gy : d < i + 1 → cur.getD (i + 1 - d - 1) default = S.getD (i + 1 - d - 1) default := fun h => by rw [hQ.1, ← hSl]; exact curL_y S x R (by omega)
  have hwk : 0 < i + 1 - d → IntKind.i64.wrap (((i + 1 - d : Nat) : Int) - 1) = ((i + 1 - d - 1 : Nat) : Int) := fun h => by rw [wrap_i64 (by omega) (by omega)]; omega
  have hnx : i + 1 - (d + 1) = i + 1 - d - 1 := by omega
  have hkl : i + 1 - d < xs.length := by omega
  have hkl1 : i + 1 - d - 1 < xs.length := by omega
  have hd1 : 0 < i + 1 - d → d < i + 1 := fun h => by omega
  repeat' (first | (with_reducible (show runOps ..); first | (refine Qr rfl ?_; try intro K' hK; try simp only [go_sem, *]) | (refine Qi rfl rfl rfl rfl (fun hb K' hK => ?_) (fun hb => ?_) <;> (have hc := hb; try simp only [go_sem] at hc; simp only [go_sem, *]))) | (with_reducible (show Hold ..); first | refine Qh rfl ?_ | refine s_draw rfl Tryz.mixed (by kernel_rfl) ?_ | (refine s_cond rfl ⟨_, rfl, fun hb => ?_, fun hb => ?_⟩ <;> (have hc := hb; try simp only [go_sem] at hc)) | refine s_ret rfl ?_) | (with_reducible (show callA ..); first | (refine call_s (hf _ _) ?_ ?_; (focus (simp only [go_sem, *]; done)); simp only [go_sem, *])) | ((with_reducible refine Qb ?_ ?_); focus kernel_rfl) | ((with_reducible refine And.intro ?_ ?_); focus omega) | (refine contA_of hK ?_; clear hK K'; simp only [go_sem, *]) | (simp only [thenA, inBlockA, go_sem, *]))
  ·refine ⟨_, (by omega), [some 0], [], _, _, _, (by (simp only [Weak, go_sem, List.map_append, List.map_set, *] <;> (try simp (disch := omega) only [wrap_succ]) <;> (try simp) <;> (try omega))), d + 1, (cur.set (i + 1 - d) (S.getD (i + 1 - d - 1) default)).set (i + 1 - d - 1) x, rfl, (by omega), (by have := InsP.next cf hQ (by omega) (by rw [hSl]; assumption); rwa [hSl] at this), rfl, rfl, rfl⟩
  ·have hs := InsP.stop cf hQ (by omega) (fun _ => by rw [hSl]; omega)
   refine ⟨_, (by omega), [some 0], [], _, _, _, (by (simp only [Weak, go_sem, List.map_append, List.map_set, *] <;> (try simp (disch := omega) only [wrap_succ]) <;> (try simp) <;> (try omega))), i + 1, cur, rfl, (by omega), (by rw [hs]; exact hfin), rfl, rfl, rfl⟩
  ·have hs := InsP.stop cf hQ (by omega) (fun h => by omega)
   refine ⟨_, (by omega), [some 0], [], _, _, _, (by (simp only [Weak, go_sem, List.map_append, List.map_set, *] <;> (try simp (disch := omega) only [wrap_succ]) <;> (try simp) <;> (try omega))), i + 1, cur, rfl, (by omega), (by rw [hs]; exact hfin), rfl, rfl, rfl⟩
 ·refine ⟨[], [some 0], [], trivial, ?_⟩
  have e1 : xs.take (i + 1) = xs := List.take_of_length_le (by omega)
  have e2 : xs.drop (i + 1) = [] := drop_end (by omega)
  unfold OutP_Plate at hP
  rw [e1, e2, List.append_nil] at hP
  rw [hP]
  simp only [go_sem, packR, *]
end Go.Abs

namespace Go.Abs
open Go Go.Proofs
set_option maxRecDepth 10000
theorem outP_start_House (cf : House → House → Int) (xs : List House) : xs = isort cf (xs.take 1) ++ xs.drop 1 := by
 cases xs with
 | nil => rfl
 | cons x r => simp [isort, insI, insR]
def OutP_House (cf : House → House → Int) (xs cur : List House) (i : Nat) : Prop := cur = isort cf (xs.take (i + 1)) ++ xs.drop (i + 1)
theorem sp_ins_House {f : Nat} {cf : House → House → Int} (hc : callable Tryz.prog f = true) (hf : ∀ a b : House, Spec Tryz.prog f [a.enc, b.enc] [] (iV (cf a b)) []) (xs : List House) (h1 : xs.length ≤ 12) :
  Spec Tryz.prog 186 [.own 0 3 0 xs.length, iV 0, iV xs.length, fnV f] [.row 3 (xs.map House.enc)] (.tup []) [.row 3 ((isort cf xs).map House.enc)] := by
 refine spec_body Tryz.func186 rfl (fun E hE => ?_); simp only [go_sem, Tryz.ntmps186]
 have hw0 : IntKind.i64.wrap 1 = (1 : Int) := wrap_i64 (by omega) (by omega)
 repeat' (first | (with_reducible (show runOps ..); first | (refine Qr rfl ?_; try intro K' hK; try simp only [go_sem, *]) | (refine Qi rfl rfl rfl rfl (fun hb K' hK => ?_) (fun hb => ?_) <;> (have hc := hb; try simp only [go_sem] at hc; simp only [go_sem, *]))) | (with_reducible (show Hold ..); first | refine Qh rfl ?_ | refine s_draw rfl Tryz.mixed (by kernel_rfl) ?_ | (refine s_cond rfl ⟨_, rfl, fun hb => ?_, fun hb => ?_⟩ <;> (have hc := hb; try simp only [go_sem] at hc)) | refine s_ret rfl ?_) | ((with_reducible refine Qb ?_ ?_); focus kernel_rfl) | ((with_reducible refine And.intro ?_ ?_); focus omega) | (refine contA_of hK ?_; clear hK K'; simp only [go_sem, *]) | (simp only [thenA, inBlockA, go_sem, *]))
 refine s_loop rfl (fun zn zN zenv zAs => ∃ (i : Nat) (cur : List House), zn = (xs.length) - i ∧ i ≤ (xs.length) ∧ (OutP_House cf xs cur i) ∧ zN = 53 ∧ zenv = [(8, iV ((i : Int) + 1)), (0, .own 0 3 0 xs.length), (1, iV 0), (2, iV xs.length), (3, fnV f)] ∧ zAs = [.row 3 (cur.map House.enc)]) (xs.length) ⟨[some 0], [], _, _, _, (by (simp only [Weak, go_sem, List.map_append, List.map_set, *] <;> (try simp (disch := omega) only [wrap_succ]) <;> (try simp) <;> (try omega))), 0, xs, (by simp), (by simp), (by exact outP_start_House cf xs), rfl, rfl, rfl⟩ ?_; rintro _ _ _ _ ⟨i, cur, rfl, hi, hP, rfl, rfl, rfl⟩
 have hw : i < xs.length → IntKind.i64.wrap ((i : Int) + 1 + 1) = (((i + 1 : Nat) : Int) + 1) := fun h => by rw [wrap_i64 (by omega) (by omega)]; omega
 have hcm : ((i : Int) + 1 < (xs.length : Int)) = (i + 1 < xs.length) := by simp only [eq_iff_iff]; omega
 repeat' (first | (with_reducible (show runOps ..); first | (refine Qr rfl ?_; try intro K' hK; try simp only [go_sem, *]) | (refine Qi rfl rfl rfl rfl (fun hb K' hK => ?_) (fun hb => ?_) <;> (have hc := hb; try simp only [go_sem] at hc; simp only [go_sem, *]))) | (with_reducible (show Hold ..); first | refine Qh rfl ?_ | refine s_draw rfl Tryz.mixed (by kernel_rfl) ?_ | (refine s_cond rfl ⟨_, rfl, fun hb => ?_, fun hb => ?_⟩ <;> (have hc := hb; try simp only [go_sem] at hc)) | refine s_ret rfl ?_) | ((with_reducible refine Qb ?_ ?_); focus kernel_rfl) | ((with_reducible refine And.intro ?_ ?_); focus omega) | (refine contA_of hK ?_; clear hK K'; simp only [go_sem, *]) | (simp only [thenA, inBlockA, go_sem, *]))
 ·have hlt : i + 1 < xs.length := by assumption
  have hlt' : i < xs.length := by omega
  obtain ⟨S, hS⟩ : ∃ S, S = isort cf (xs.take (i + 1)) := ⟨_, rfl⟩
  have hSl : S.length = i + 1 := by rw [hS, isort_length]; simp; try omega
  obtain ⟨x, hx⟩ : ∃ x, x = xs.getD (i + 1) default := ⟨_, rfl⟩
  obtain ⟨R, hR⟩ : ∃ R, R = xs.drop (i + 1 + 1) := ⟨_, rfl⟩
  have hcur : cur = S ++ x :: R := by
   unfold OutP_House at hP
   rw [hP, hS, hx, hR, drop_cons hlt]
  have hfin : insI cf S x ++ R = isort cf (xs.take (i + 1 + 1)) ++ xs.drop (i + 1 + 1) := by
   rw [hS, hx, hR, take_succ_getD' hlt, isort_snoc]
  have hst : InsP cf S x R cur 0 := by rw [hcur]; exact InsP.start cf S x R
  have hRl : R.length = xs.length - (i + 2) := by rw [hR]; simp; try omega
  clear hS hx hR hcur hP
  refine s_loop rfl (fun zn zN zenv zAs => ∃ (d : Nat) (cur : List House), zn = (i + 1) - d ∧ d ≤ (i + 1) ∧ (InsP cf S x R cur d) ∧ zN = 53 ∧ zenv = [(9, iV (((i + 1) - d : Nat) : Int)), (8, iV ((i : Int) + 1)), (0, .own 0 3 0 xs.length), (1, iV 0), (2, iV xs.length), (3, fnV f)] ∧ zAs = [.row 3 (cur.map House.enc)]) (i + 1) ⟨[some 0], [], _, _, _, (by (simp only [Weak, go_sem, List.map_append, List.map_set, *] <;> (try simp (disch := omega) only [wrap_succ]) <;> (try simp) <;> (try omega))), 0, cur, (by simp), (by simp), (by exact hst), rfl, rfl, rfl⟩ ?_; rintro _ _ _ _ ⟨d, cur, rfl, hd, hQ, rfl, rfl, rfl⟩
  have hcl : cur.length = xs.length := by rw [hQ.1, curL_length]; omega
  have gx : cur.getD (i + 1 - d) default = x := by rw [hQ.1, ← hSl]; exact curL_x S x R (by omega)
  have gy : d < i + 1 → cur.getD (i + 1 - d - 1) default = S.getD (i + 1 - d - 1) default := fun h => by rw [hQ.1, ← hSl]; exact curL_y S x R (by omega)
  have hwk : 0 < i + 1 - d → IntKind.i64.wrap (((i + 1 - d : Nat) : Int) - 1) = ((i + 1 - d - 1 : Nat) : Int) := fun h => by rw [wrap_i64 (by omega) (by omega)]; omega
  have hnx : i + 1 - (d + 1) = i + 1 - d - 1 := by omega
  have hkl : i + 1 - d < xs.length := by omega
  have hkl1 : i + 1 - d - 1 < xs.length := by omega
  have hd1 : 0 < i + 1 - d → d < i + 1 := fun h => by omega
  repeat' (first | (with_reducible (show runOps ..); first | (refine Qr rfl ?_; try intro K' hK; try simp only [go_sem, *]) | (refine Qi rfl rfl rfl rfl (fun hb K' hK => ?_) (fun hb => ?_) <;> (have hc := hb; try simp only [go_sem] at hc; simp only [go_sem, *]))) | (with_reducible (show Hold ..); first | refine Qh rfl ?_ | refine s_draw rfl Tryz.mixed (by kernel_rfl) ?_ | (refine s_cond rfl ⟨_, rfl, fun hb => ?_, fun hb => ?_⟩ <;> (have hc := hb; try simp only [go_sem] at hc)) | refine s_ret rfl ?_) | (with_reducible (show callA ..); first | (refine call_s (hf _ _) ?_ ?_; (focus (simp only [go_sem, *]; done)); simp only [go_sem, *])) | ((with_reducible refine Qb ?_ ?_); focus kernel_rfl) | ((with_reducible refine And.intro ?_ ?_); focus omega) | (refine contA_of hK ?_; clear hK K'; simp only [go_sem, *]) | (simp only [thenA, inBlockA, go_sem, *]))
  ·refine ⟨_, (by omega), [some 0], [], _, _, _, (by (simp only [Weak, go_sem, List.map_append, List.map_set, *] <;> (try simp (disch := omega) only [wrap_succ]) <;> (try simp) <;> (try omega))), d + 1, (cur.set (i + 1 - d) (S.getD (i + 1 - d - 1) default)).set (i + 1 - d - 1) x, rfl, (by omega), (by have := InsP.next cf hQ (by omega) (by rw [hSl]; assumption); rwa [hSl] at this), rfl, rfl, rfl⟩
  ·have hs := InsP.stop cf hQ (by omega) (fun _ => by rw [hSl]; omega)
   refine ⟨_, (by omega), [some 0], [], _, _, _, (by (simp only [Weak, go_sem, List.map_append, List.map_set, *] <;> (try simp (disch := omega) only [wrap_succ]) <;> (try simp) <;> (try omega))), i + 1, cur, rfl, (by omega), (by rw [hs]; exact hfin), rfl, rfl, rfl⟩
  ·have hs := InsP.stop cf hQ (by omega) (fun h => by omega)
   refine ⟨_, (by omega), [some 0], [], _, _, _, (by (simp only [Weak, go_sem, List.map_append, List.map_set, *] <;> (try simp (disch := omega) only [wrap_succ]) <;> (try simp) <;> (try omega))), i + 1, cur, rfl, (by omega), (by rw [hs]; exact hfin), rfl, rfl, rfl⟩
 ·refine ⟨[], [some 0], [], trivial, ?_⟩
  have e1 : xs.take (i + 1) = xs := List.take_of_length_le (by omega)
  have e2 : xs.drop (i + 1) = [] := drop_end (by omega)
  unfold OutP_House at hP
  rw [e1, e2, List.append_nil] at hP
  rw [hP]
  simp only [go_sem, packR, *]
end Go.Abs

namespace Go.Abs
open Go Go.Proofs
set_option maxRecDepth 10000
theorem wrap_u64 {n : Int} (h0 : 0 ≤ n) (h1 : n ≤ 1000) : IntKind.u64.wrap n = n := by
 simp [IntKind.wrap, IntKind.signed, IntKind.bits]; omega
theorem wrap_u8 {n : Int} (h0 : 0 ≤ n) (h1 : n ≤ 200) : IntKind.u8.wrap n = n := by
 simp [IntKind.wrap, IntKind.signed, IntKind.bits]; omega
theorem sp_Len64 (n : Nat) (h : n ≤ 12) : Spec Tryz.prog 185 [.raw (.int .u64 n)] [] .any [] := by
 have hw8 : IntKind.u8.wrap (n : Int) = (n : Int) := wrap_u8 (by omega) (by omega)
 have h1 : ((4294967296 : Int) ≤ (n : Int)) = False := by simp only [eq_iff_iff, iff_false]; omega
 have h2 : ((65536 : Int) ≤ (n : Int)) = False := by simp only [eq_iff_iff, iff_false]; omega
 have h3 : ((256 : Int) ≤ (n : Int)) = False := by simp only [eq_iff_iff, iff_false]; omega
 refine spec_body Tryz.func185 rfl (fun E hE => ?_); simp only [go_sem, Tryz.ntmps185]
 repeat' (first | (with_reducible (show runOps ..); first | (refine Qr rfl ?_; try intro K' hK; try simp only [go_sem, *])) | (with_reducible (show Hold ..); first | refine Qh rfl ?_ | (refine s_cond rfl ⟨_, rfl, fun hb => ?_, fun hb => ?_⟩ <;> (have hc := hb; try simp only [go_sem] at hc)) | refine s_ret rfl ?_) | ((with_reducible refine Qb ?_ ?_); focus kernel_rfl) | ((with_reducible refine And.intro ?_ ?_); focus omega) | (refine contA_of hK ?_; clear hK K'; simp only [go_sem, *]) | (simp only [thenA, inBlockA, go_sem, *]))
 refine ⟨Nat.lt_of_le_of_lt h (by decide), ?_⟩
 repeat' (first | (with_reducible (show runOps ..); first | (refine Qr rfl ?_; try intro K' hK; try simp only [go_sem, *])) | (with_reducible (show Hold ..); first | refine Qh rfl ?_ | (refine s_cond rfl ⟨_, rfl, fun hb => ?_, fun hb => ?_⟩ <;> (have hc := hb; try simp only [go_sem] at hc)) | refine s_ret rfl ?_) | ((with_reducible refine Qb ?_ ?_); focus kernel_rfl) | ((with_reducible refine And.intro ?_ ?_); focus omega) | (refine contA_of hK ?_; clear hK K'; simp only [go_sem, *]) | (simp only [thenA, inBlockA, go_sem, *]))
 all_goals (refine ⟨[_], [], [], ⟨rfl, trivial⟩, ?_⟩; simp only [go_sem])
theorem sp_bitsLen (n : Nat) (h : n ≤ 12) : Spec Tryz.prog 154 [.raw (.int .u64 n)] [] .any [] := by
 refine spec_body Tryz.func154 rfl (fun E hE => ?_); simp only [go_sem, Tryz.ntmps154]
 repeat' (first | (with_reducible (show runOps ..); first | (refine Qr rfl ?_; try intro K' hK; try simp only [go_sem, *])) | (with_reducible (show Hold ..); first | refine Qh rfl ?_ | (refine s_cond rfl ⟨_, rfl, fun hb => ?_, fun hb => ?_⟩ <;> (have hc := hb; try simp only [go_sem] at hc)) | refine s_ret rfl ?_) | (with_reducible (show callA ..); first | (refine call_s (sp_Len64 n h) ?_ ?_; (focus (simp only [go_sem, *]; done)); simp only [go_sem, *])) | ((with_reducible refine Qb ?_ ?_); focus kernel_rfl) | ((with_reducible refine And.intro ?_ ?_); focus omega) | (refine contA_of hK ?_; clear hK K'; simp only [go_sem, *]) | (simp only [thenA, inBlockA, go_sem, *]))
 all_goals (refine ⟨[_], [], [], ⟨rfl, trivial⟩, ?_⟩; simp only [go_sem])
end Go.Abs

namespace Go.Abs
open Go Go.Proofs
set_option maxRecDepth 10000
theorem sp_pdq_Plate {f : Nat} {cf : Plate → Plate → Int} (hcal : callable Tryz.prog f = true) (hf : ∀ a b : Plate, Spec Tryz.prog f [a.enc, b.enc] [] (iV (cf a b)) []) (xs : List Plate) (h1 : xs.length ≤ 12) :
  Spec Tryz.prog 153 [.own 0 2 0 xs.length, iV 0, iV xs.length, .any, fnV f] [.row 2 (xs.map Plate.enc)] (.tup []) [.row 2 ((isort cf xs).map Plate.enc)] := by
 have hw : IntKind.i64.wrap ((xs.length : Int) - 0) = (xs.length : Int) := by rw [wrap_i64 (by omega) (by omega)]; omega
 have h12 : ((xs.length : Int) ≤ 12) = True := by simp only [eq_iff_iff, iff_true]; omega
 refine spec_body Tryz.func153 rfl (fun E hE => ?_); simp only [go_sem, Tryz.ntmps153]
 repeat' (first | (with_reducible (show runOps ..); first | (refine Qr rfl ?_; try intro K' hK; try simp only [go_sem, *]) | (refine Qi rfl rfl rfl rfl (fun hb K' hK => ?_) (fun hb => ?_) <;> (have hc := hb; try simp only [go_sem] at hc; simp only [go_sem, *]))) | (with_reducible (show Hold ..); first | refine Qh rfl ?_ | refine s_draw rfl Tryz.mixed (by kernel_rfl) ?_ | (refine s_cond rfl ⟨_, rfl, fun hb => ?_, fun hb => ?_⟩ <;> (have hc := hb; try simp only [go_sem] at hc)) | refine s_ret rfl ?_) | ((with_reducible refine Qb ?_ ?_); focus kernel_rfl) | ((with_reducible refine And.intro ?_ ?_); focus omega) | (refine contA_of hK ?_; clear hK K'; simp only [go_sem, *]) | (simp only [thenA, inBlockA, go_sem, *]))
 refine s_loop rfl (fun zn zN zenv zAs => ∃ (i : Nat), zn = (1) - i ∧ i ≤ (1) ∧ (NoP i) ∧ zN = 148 ∧ zenv = [(0, .own 0 2 0 xs.length), (1, iV 0), (2, iV xs.length), (4, fnV f)] ∧ zAs = [.row 2 (xs.map Plate.enc)]) (1) ⟨[some 0], [], _, _, _, (by (simp only [Weak, go_sem, List.map_append, List.map_set, *] <;> (try simp (disch := omega) only [wrap_succ]) <;> (try simp) <;> (try omega))), 0, (by simp), (by simp), (by trivial), rfl, rfl, rfl⟩ ?_; rintro _ _ _ _ ⟨i, rfl, hi, hP, rfl, rfl, rfl⟩
 repeat' (first | (with_reducible (show runOps ..); first | (refine Qr rfl ?_; try intro K' hK; try simp only [go_sem, *]) | (refine Qi rfl rfl rfl rfl (fun hb K' hK => ?_) (fun hb => ?_) <;> (have hc := hb; try simp only [go_sem] at hc; simp only [go_sem, *]))) | (with_reducible (show Hold ..); first | refine Qh rfl ?_ | refine s_draw rfl Tryz.mixed (by kernel_rfl) ?_ | (refine s_cond rfl ⟨_, rfl, fun hb => ?_, fun hb => ?_⟩ <;> (have hc := hb; try simp only [go_sem] at hc)) | refine s_ret rfl ?_) | ((with_reducible refine Qb ?_ ?_); focus kernel_rfl) | ((with_reducible refine And.intro ?_ ?_); focus omega) | (refine contA_of hK ?_; clear hK K'; simp only [go_sem, *]) | (simp only [thenA, inBlockA, go_sem, *]))
 refine call_of [0] [] (sp_ins_Plate hcal hf xs h1) (by simp) (by simp only [go_sem, *]) (by simp only [go_sem, AObj.live, *]) (by simp) (.inl rfl) (by simp [go_sem]) (by simp) ?_
 simp only [go_sem, *]
 repeat' (first | (with_reducible (show runOps ..); first | (refine Qr rfl ?_; try intro K' hK; try simp only [go_sem, *]) | (refine Qi rfl rfl rfl rfl (fun hb K' hK => ?_) (fun hb => ?_) <;> (have hc := hb; try simp only [go_sem] at hc; simp only [go_sem, *]))) | (with_reducible (show Hold ..); first | refine Qh rfl ?_ | refine s_draw rfl Tryz.mixed (by kernel_rfl) ?_ | (refine s_cond rfl ⟨_, rfl, fun hb => ?_, fun hb => ?_⟩ <;> (have hc := hb; try simp only [go_sem] at hc)) | refine s_ret rfl ?_) | ((with_reducible refine Qb ?_ ?_); focus kernel_rfl) | ((with_reducible refine And.intro ?_ ?_); focus omega) | (refine contA_of hK ?_; clear hK K'; simp only [go_sem, *]) | (simp only [thenA, inBlockA, go_sem, *]))
 refine ⟨[], [some 0], [], trivial, ?_⟩
 simp only [go_sem, packR, AObj.ren, *]
theorem sp_SortFunc_Plate {f : Nat} {cf : Plate → Plate → Int} (hcal : callable Tryz.prog f = true) (hf : ∀ a b : Plate, Spec Tryz.prog f [a.enc, b.enc] [] (iV (cf a b)) []) (xs : List Plate) (h1 : xs.length ≤ 12) :
  Spec Tryz.prog 126 [.own 0 2 0 xs.length, fnV f] [.row 2 (xs.map Plate.enc)] (.tup []) [.row 2 ((isort cf xs).map Plate.enc)] := by
 have hw : IntKind.u64.wrap (xs.length : Int) = (xs.length : Int) := wrap_u64 (by omega) (by omega)
 refine spec_body Tryz.func126 rfl (fun E hE => ?_); simp only [go_sem, Tryz.ntmps126]
 repeat' (first | (with_reducible (show runOps ..); first | (refine Qr rfl ?_; try intro K' hK; try simp only [go_sem, *])) | (with_reducible (show Hold ..); first | refine Qh rfl ?_ | (refine s_cond rfl ⟨_, rfl, fun hb => ?_, fun hb => ?_⟩ <;> (have hc := hb; try simp only [go_sem] at hc)) | refine s_ret rfl ?_) | (with_reducible (show callA ..); first | (refine call_s (sp_bitsLen xs.length h1) ?_ ?_; (focus (simp only [go_sem, *]; done)); simp only [go_sem, *])) | ((with_reducible refine Qb ?_ ?_); focus kernel_rfl) | ((with_reducible refine And.intro ?_ ?_); focus omega) | (refine contA_of hK ?_; clear hK K'; simp only [go_sem, *]) | (simp only [thenA, inBlockA, go_sem, *]))
 refine call_of [0] [] (sp_pdq_Plate hcal hf xs h1) (by simp) (by simp only [go_sem, *]) (by simp only [go_sem, AObj.live, *]) (by simp) (.inl rfl) (by simp [go_sem]) (by simp) ?_
 simp only [go_sem, *]
 repeat' (first | (with_reducible (show runOps ..); first | (refine Qr rfl ?_; try intro K' hK; try simp only [go_sem, *])) | (with_reducible (show Hold ..); first | refine Qh rfl ?_ | (refine s_cond rfl ⟨_, rfl, fun hb => ?_, fun hb => ?_⟩ <;> (have hc := hb; try simp only [go_sem] at hc)) | refine s_ret rfl ?_) | ((with_reducible refine Qb ?_ ?_); focus kernel_rfl) | ((with_reducible refine And.intro ?_ ?_); focus omega) | (refine contA_of hK ?_; clear hK K'; simp only [go_sem, *]) | (simp only [thenA, inBlockA, go_sem, *]))
 refine ⟨[], [some 0], [], trivial, ?_⟩
 simp only [go_sem, packR, AObj.ren, *]
end Go.Abs

namespace Go.Abs
open Go Go.Proofs
set_option maxRecDepth 10000
theorem sp_pdq_House {f : Nat} {cf : House → House → Int} (hcal : callable Tryz.prog f = true) (hf : ∀ a b : House, Spec Tryz.prog f [a.enc, b.enc] [] (iV (cf a b)) []) (xs : List House) (h1 : xs.length ≤ 12) :
  Spec Tryz.prog 159 [.own 0 3 0 xs.length, iV 0, iV xs.length, .any, fnV f] [.row 3 (xs.map House.enc)] (.tup []) [.row 3 ((isort cf xs).map House.enc)] := by
 have hw : IntKind.i64.wrap ((xs.length : Int) - 0) = (xs.length : Int) := by rw [wrap_i64 (by omega) (by omega)]; omega
 have h12 : ((xs.length : Int) ≤ 12) = True := by simp only [eq_iff_iff, iff_true]; omega
 refine spec_body Tryz.func159 rfl (fun E hE => ?_); simp only [go_sem, Tryz.ntmps159]
 repeat' (first | (with_reducible (show runOps ..); first | (refine Qr rfl ?_; try intro K' hK; try simp only [go_sem, *]) | (refine Qi rfl rfl rfl rfl (fun hb K' hK => ?_) (fun hb => ?_) <;> (have hc := hb; try simp only [go_sem] at hc; simp only [go_sem, *]))) | (with_reducible (show Hold ..); first | refine Qh rfl ?_ | refine s_draw rfl Tryz.mixed (by kernel_rfl) ?_ | (refine s_cond rfl ⟨_, rfl, fun hb => ?_, fun hb => ?_⟩ <;> (have hc := hb; try simp only [go_sem] at hc)) | refine s_ret rfl ?_) | ((with_reducible refine Qb ?_ ?_); focus kernel_rfl) | ((with_reducible refine And.intro ?_ ?_); focus omega) | (refine contA_of hK ?_; clear hK K'; simp only [go_sem, *]) | (simp only [thenA, inBlockA, go_sem, *]))
 refine s_loop rfl (fun zn zN zenv zAs => ∃ (i : Nat), zn = (1) - i ∧ i ≤ (1) ∧ (NoP i) ∧ zN = 148 ∧ zenv = [(0, .own 0 3 0 xs.length), (1, iV 0), (2, iV xs.length), (4, fnV f)] ∧ zAs = [.row 3 (xs.map House.enc)]) (1) ⟨[some 0], [], _, _, _, (by (simp only [Weak, go_sem, List.map_append, List.map_set, *] <;> (try simp (disch := omega) only [wrap_succ]) <;> (try simp) <;> (try omega))), 0, (by simp), (by simp), (by trivial), rfl, rfl, rfl⟩ ?_; rintro _ _ _ _ ⟨i, rfl, hi, hP, rfl, rfl, rfl⟩
 repeat' (first | (with_reducible (show runOps ..); first | (refine Qr rfl ?_; try intro K' hK; try simp only [go_sem, *]) | (refine Qi rfl rfl rfl rfl (fun hb K' hK => ?_) (fun hb => ?_) <;> (have hc := hb; try simp only [go_sem] at hc; simp only [go_sem, *]))) | (with_reducible (show Hold ..); first | refine Qh rfl ?_ | refine s_draw rfl Tryz.mixed (by kernel_rfl) ?_ | (refine s_cond rfl ⟨_, rfl, fun hb => ?_, fun hb => ?_⟩ <;> (have hc := hb; try simp only [go_sem] at hc)) | refine s_ret rfl ?_) | ((with_reducible refine Qb ?_ ?_); focus kernel_rfl) | ((with_reducible refine And.intro ?_ ?_); focus omega) | (refine contA_of hK ?_; clear hK K'; simp only [go_sem, *]) | (simp only [thenA, inBlockA, go_sem, *]))
 refine call_of [0] [] (sp_ins_House hcal hf xs h1) (by simp) (by simp only [go_sem, *]) (by simp only [go_sem, AObj.live, *]) (by simp) (.inl rfl) (by simp [go_sem]) (by simp) ?_
 simp only [go_sem, *]
 repeat' (first | (with_reducible (show runOps ..); first | (refine Qr rfl ?_; try intro K' hK; try simp only [go_sem, *]) | (refine Qi rfl rfl rfl rfl (fun hb K' hK => ?_) (fun hb => ?_) <;> (have hc := hb; try simp only [go_sem] at hc; simp only [go_sem, *]))) | (with_reducible (show Hold ..); first | refine Qh rfl ?_ | refine s_draw rfl Tryz.mixed (by kernel_rfl) ?_ | (refine s_cond rfl ⟨_, rfl, fun hb => ?_, fun hb => ?_⟩ <;> (have hc := hb; try simp only [go_sem] at hc)) | refine s_ret rfl ?_) | ((with_reducible refine Qb ?_ ?_); focus kernel_rfl) | ((with_reducible refine And.intro ?_ ?_); focus omega) | (refine contA_of hK ?_; clear hK K'; simp only [go_sem, *]) | (simp only [thenA, inBlockA, go_sem, *]))
 refine ⟨[], [some 0], [], trivial, ?_⟩
 simp only [go_sem, packR, AObj.ren, *]
theorem sp_SortFunc_House {f : Nat} {cf : House → House → Int} (hcal : callable Tryz.prog f = true) (hf : ∀ a b : House, Spec Tryz.prog f [a.enc, b.enc] [] (iV (cf a b)) []) (xs : List House) (h1 : xs.length ≤ 12) :
  Spec Tryz.prog 135 [.own 0 3 0 xs.length, fnV f] [.row 3 (xs.map House.enc)] (.tup []) [.row 3 ((isort cf xs).map House.enc)] := by
 have hw : IntKind.u64.wrap (xs.length : Int) = (xs.length : Int) := wrap_u64 (by omega) (by omega)
 refine spec_body Tryz.func135 rfl (fun E hE => ?_); simp only [go_sem, Tryz.ntmps135]
 repeat' (first | (with_reducible (show runOps ..); first | (refine Qr rfl ?_; try intro K' hK; try simp only [go_sem, *])) | (with_reducible (show Hold ..); first | refine Qh rfl ?_ | (refine s_cond rfl ⟨_, rfl, fun hb => ?_, fun hb => ?_⟩ <;> (have hc := hb; try simp only [go_sem] at hc)) | refine s_ret rfl ?_) | (with_reducible (show callA ..); first | (refine call_s (sp_bitsLen xs.length h1) ?_ ?_; (focus (simp only [go_sem, *]; done)); simp only [go_sem, *])) | ((with_reducible refine Qb ?_ ?_); focus kernel_rfl) | ((with_reducible refine And.intro ?_ ?_); focus omega) | (refine contA_of hK ?_; clear hK K'; simp only [go_sem, *]) | (simp only [thenA, inBlockA, go_sem, *]))
 refine call_of [0] [] (sp_pdq_House hcal hf xs h1) (by simp) (by simp only [go_sem, *]) (by simp only [go_sem, AObj.live, *]) (by simp) (.inl rfl) (by simp [go_sem]) (by simp) ?_
 simp only [go_sem, *]
 repeat' (first | (with_reducible (show runOps ..); first | (refine Qr rfl ?_; try intro K' hK; try simp only [go_sem, *])) | (with_reducible (show Hold ..); first | refine Qh rfl ?_ | (refine s_cond rfl ⟨_, rfl, fun hb => ?_, fun hb => ?_⟩ <;> (have hc := hb; try simp only [go_sem] at hc)) | refine s_ret rfl ?_) | ((with_reducible refine Qb ?_ ?_); focus kernel_rfl) | ((with_reducible refine And.intro ?_ ?_); focus omega) | (refine contA_of hK ?_; clear hK K'; simp only [go_sem, *]) | (simp only [thenA, inBlockA, go_sem, *]))
 refine ⟨[], [some 0], [], trivial, ?_⟩
 simp only [go_sem, packR, AObj.ren, *]
end Go.Abs

namespace Go.Abs
open Go
section
variable {α : Type} (cf : α → α → Int)
structure Ordr : Prop where
 asym : ∀ x y, cf x y < 0 → ¬ cf y x < 0
 trans : ∀ x y z, ¬ cf y x < 0 → ¬ cf z y < 0 → ¬ cf z x < 0
theorem insR_sorted (o : Ordr cf) (x : α) : ∀ l : List α, l.Pairwise (fun a b => ¬ cf a b < 0) → (insR cf x l).Pairwise (fun a b => ¬ cf a b < 0)
 | [], _ => by simp [insR]
 | y :: r, h => by
  obtain ⟨h1, h2⟩ := List.pairwise_cons.1 h
  unfold insR
  split
  ·rename_i hc
   refine List.pairwise_cons.2 ⟨fun z hz => ?_, insR_sorted o x r h2⟩
   rcases List.mem_cons.1 ((insR_perm cf x r).mem_iff.1 hz) with rfl | hz
   ·exact o.asym _ _ hc
   ·exact h1 z hz
  ·rename_i hc
   refine List.pairwise_cons.2 ⟨fun z hz => ?_, h⟩
   rcases List.mem_cons.1 hz with rfl | hz
   ·exact hc
   ·exact o.trans _ _ _ (h1 z hz) hc
theorem insI_sorted (o : Ordr cf) {pre : List α} (x : α) (h : pre.Pairwise (fun a b => ¬ cf b a < 0)) : (insI cf pre x).Pairwise (fun a b => ¬ cf b a < 0) := by
 unfold insI
 rw [List.pairwise_reverse]
 exact insR_sorted cf o x _ (List.pairwise_reverse.2 h)
theorem isort_sorted (o : Ordr cf) (xs : List α) : (isort cf xs).Pairwise (fun a b => ¬ cf b a < 0) := by
 have key : ∀ (xs pre : List α), pre.Pairwise (fun a b => ¬ cf b a < 0) → (xs.foldl (insI cf) pre).Pairwise (fun a b => ¬ cf b a < 0) := by
  intro xs
  induction xs with
  | nil => intro pre h; exact h
  | cons x r ih => intro pre h; exact ih _ (insI_sorted cf o x h)
 exact key xs [] List.Pairwise.nil
end
theorem ordr_cmpP : Ordr cmpP := ⟨fun x y h => by rw [cmpP_lt, Plate.lt_iff] at *; omega, fun x y z h1 h2 => by rw [cmpP_lt, Plate.lt_iff] at *; omega⟩
theorem ordr_cmpH : Ordr cmpH := ⟨fun x y h => by rw [cmpH_lt, House.lt_iff] at *; omega, fun x y z h1 h2 => by rw [cmpH_lt, House.lt_iff] at *; omega⟩
theorem isort_strict_plates {xs : List Plate} (hn : xs.Nodup) : (isort cmpP xs).Pairwise (fun a b => a.lt b = true) := by
 have h1 := isort_sorted cmpP ordr_cmpP xs
 have h2 : (isort cmpP xs).Nodup := (isort_perm cmpP xs).nodup_iff.2 hn
 refine (h1.and h2).imp (fun {a b} h => ?_)
 rcases Plate.lt_tri a b with h3 | h3 | h3
 ·exact h3
 ·exact absurd h3 h.2
 ·exact absurd ((cmpP_lt b a).2 h3) h.1
def rowS (i s : Nat) (b : List Plate) : List Plate := if s < i then isort cmpP b else b
attribute [go_sem] rowS isort_length
@[go_sem] theorem take_isort (f : Plate → AV) (b : List Plate) : ((isort cmpP b).map f).take b.length = (isort cmpP b).map f := List.take_of_length_le (by simp [isort_length])
def Bk (b : List Plate) (s : Nat) (rest tot : List House) : Prop := (b ++ (rest.filter (fun h => h.street == (s : Int))).map House.plate).Perm ((tot.filter (fun h => h.street == (s : Int))).map House.plate)
theorem Bk.start (s : Nat) (tot : List House) : Bk [] s tot tot := by simp [Bk]
theorem Bk.step_in {b : List Plate} {s : Nat} {h : House} {rest tot : List House} (hb : Bk b s (h :: rest) tot) (e : h.street = s) : Bk (b ++ [h.plate]) s rest tot := by
 unfold Bk at *
 rw [List.filter_cons, if_pos (by simp [e])] at hb
 simpa using hb
theorem Bk.step_out {b : List Plate} {s : Nat} {h : House} {rest tot : List House} (hb : Bk b s (h :: rest) tot) (e : h.street ≠ s) : Bk b s rest tot := by
 unfold Bk at *
 rw [List.filter_cons, if_neg (by simpa using e)] at hb
 exact hb
theorem Bk.perm {b : List Plate} {s : Nat} {rest rest' tot : List House} (hb : Bk b s rest tot) (hp : rest.Perm rest') : Bk b s rest' tot :=
 (List.Perm.append_left b ((hp.symm.filter _).map _)).trans hb
theorem erase_perm {α : Type} : ∀ (l : List α) (i : Nat) (h : i < l.length), l.Perm (l[i] :: l.eraseIdx i)
 | x :: r, 0, _ => by simp
 | x :: r, i + 1, h => by
  simp only [List.getElem_cons_succ, List.eraseIdx_cons_succ]
  exact ((erase_perm r i (by simpa using h)).cons x).trans (.swap _ _ _)
theorem Bk.pick {b : List Plate} {s : Nat} {rem : List House} {g : House → List House} {tot : List House} (hb : Bk b s (rem.flatMap g) tot) (i : Nat) (h : i < rem.length) : Bk b s (g rem[i] ++ (rem.eraseIdx i).flatMap g) tot := by
 refine hb.perm ?_
 have := (erase_perm rem i h).flatMap_right g
 simpa using this
theorem Bk.len {b : List Plate} {s : Nat} {rest tot : List House} (hb : Bk b s rest tot) : b.length ≤ (tot.filter (fun h => h.street == (s : Int))).length := by
 have := hb.length_eq
 simp at this; omega
theorem Bk.fin {b : List Plate} {s n : Nat} {tot : List House} (hb : Bk b s [] tot) (hn : tot.Nodup) (hs : s < n) : isort cmpP b = rowAt (laid tot n) s := by
 have hp : b.Perm ((tot.filter (fun h => h.street == (s : Int))).map House.plate) := by simpa [Bk] using hb
 have hnd : ((tot.filter (fun h => h.street == (s : Int))).map House.plate).Nodup := by
  rw [List.nodup_iff_pairwise_ne, List.pairwise_map]
  refine (hn.filter _).imp_of_mem (fun {a b} ha hb' hab e => hab ?_)
  have h1 := (List.mem_filter.1 ha).2
  have h2 := (List.mem_filter.1 hb').2
  simp at h1 h2
  cases a; cases b; simp_all
 refine plates_uniq (isort_strict_plates (hp.nodup_iff.2 hnd)) (sorted_laid_row (by omega) (by omega)) (fun z => ?_)
 rw [(isort_perm cmpP b).mem_iff, hp.mem_iff, mem_laid_row (by omega) (by omega)]
 simp only [List.mem_map, List.mem_filter, beq_iff_eq]
 constructor
 ·rintro ⟨h, ⟨h1, h2⟩, rfl⟩
  rw [← h2]; exact h1
 ·intro h; exact ⟨_, ⟨h, rfl⟩, rfl⟩
end Go.Abs

namespace Go.Abs
open Go Go.Proofs
set_option maxRecDepth 10000
def AfP1 (g : House → List House) (hs rem : List House) (i : Nat) (b0 : List Plate) : Prop := rem.length + i = hs.length ∧ (∀ h, h ∈ rem → h ∈ hs) ∧ Bk b0 0 (rem.flatMap g) (hs.flatMap g)
def AfQ1 (rest tot : List House) (b0 : List Plate) : Prop := Bk b0 0 rest tot ∧ True
theorem sp_after1 (hs : List House) (g : House → List House) (hst : ∀ z, z ∈ hs.flatMap g → 0 ≤ z.street ∧ z.street < 1) (hnd : (hs.flatMap g).Nodup) (hlen : ∀ s : Nat, s < 1 → ((hs.flatMap g).filter (fun h => h.street == (s : Int))).length ≤ 12) (hsl : hs.length ≤ 1000) (hgl : ∀ h, h ∈ hs → (g h).length ≤ 1000) :
  Spec Tryz.prog 89 [.fmap (hs.map House.key) (hs.map (MapV g)), iV 1] [] (encPlan (laid (hs.flatMap g) 1)) [] := by
 have rz : List.replicate 1 (AV.raw (Value.slice none 0 0)) = [AV.raw (Value.slice none 0 0)] := rfl
 have hmt : (mapT Tryz.prog 121).isSome = true := by kernel_rfl
 have hv1 : IntKind.i64.wrap 1 = (1 : Int) := wrap_i64 (by omega) (by omega)
 have hv2 : IntKind.i64.wrap 2 = (2 : Int) := wrap_i64 (by omega) (by omega)
 have hv3 : IntKind.i64.wrap 3 = (3 : Int) := wrap_i64 (by omega) (by omega)
 refine spec_body Tryz.func89 rfl (fun E hE => ?_); simp only [go_sem, Tryz.ntmps89]
 repeat' (first | (with_reducible (show runOps ..); first | (refine Qr rfl ?_; try intro K' hK; try simp only [go_sem, *])) | (with_reducible (show Hold ..); first | refine Qh rfl ?_ | refine s_draw rfl Tryz.mixed (by kernel_rfl) ?_ | (refine s_cond rfl ⟨_, rfl, fun hb => ?_, fun hb => ?_⟩ <;> (have hc := hb; try simp only [go_sem] at hc)) | refine s_ret rfl ?_) | ((with_reducible refine Qb ?_ ?_); focus kernel_rfl) | ((with_reducible refine And.intro ?_ ?_); focus omega) | (refine contA_of hK ?_; clear hK K'; simp only [go_sem, *]) | (simp only [thenA, inBlockA, go_sem, *]))
 refine s_loop rfl (fun zn zN zenv zAs => ∃ (i : Nat) (cur : Option (Value × AV)) (rem : List House) (b0 : List Plate), zn = (hs.length) - i ∧ i ≤ (hs.length) ∧ (AfP1 g hs rem i b0) ∧ zN = 54 ∧ zenv = [(4, .ptr 0 0), (5, .ptr 1 0), (16, .ptr 4 0)] ∧ zAs = [.box [nilV], .box [.own 2 1 0 1], .box [.own 3 2 0 b0.length], .row 2 (b0.map Plate.enc), .iter cur (rem.map House.key) (rem.map (MapV g))]) (hs.length) ⟨[some 0, some 2, some 1, none, some 3], [], _, _, _, (by (simp only [Weak, go_sem, List.map_append, List.map_set, *] <;> (try simp (disch := omega) only [wrap_succ]) <;> (try simp) <;> (try omega))), 0, none, hs, [], (by simp), (by simp), (by exact ⟨by omega, fun h hh => hh, Bk.start _ _⟩), rfl, rfl, rfl⟩ ?_; rintro _ _ _ _ ⟨i, cur, rem, b0, rfl, hi, hP, rfl, rfl, rfl⟩
 refine s_seq rfl ?_
 refine s_next (o := 4) rfl rfl rfl rfl rfl rfl rfl cur (rem.map House.key) (rem.map (MapV g)) (by simp only [go_sem]) (by simp only [go_sem]) (show (17 : Nat) < 54 by decide) (show (18 : Nat) < 54 by decide) (fun hk _ => ?_) (fun r hr1 hr2 => ?_)
 ·simp only [go_sem]
  repeat' (first | (with_reducible (show runOps ..); first | (refine Qr rfl ?_; try intro K' hK; try simp only [go_sem, *])) | (with_reducible (show Hold ..); first | refine Qh rfl ?_ | refine s_draw rfl Tryz.mixed (by kernel_rfl) ?_ | (refine s_cond rfl ⟨_, rfl, fun hb => ?_, fun hb => ?_⟩ <;> (have hc := hb; try simp only [go_sem] at hc)) | refine s_ret rfl ?_) | ((with_reducible refine Qb ?_ ?_); focus kernel_rfl) | ((with_reducible refine And.intro ?_ ?_); focus omega) | (refine contA_of hK ?_; clear hK K'; simp only [go_sem, *]) | (simp only [thenA, inBlockA, go_sem, *]))
  obtain rfl : rem = [] := by simpa using hk
  obtain ⟨hlen0, hsub, p0⟩ := hP
  rw [List.flatMap_nil] at p0
  have hl0 := Nat.le_trans p0.len (hlen 0 (by omega))
  refine s_loop rfl (fun zn zN zenv zAs => ∃ (k : Nat), zn = (1) - k ∧ k ≤ (1) ∧ (NoP k) ∧ zN = 54 ∧ zenv = [(46, iV k), (45, iV 1), (44, .own 2 1 0 1), (4, .ptr 0 0), (5, .ptr 1 0)] ∧ zAs = [.box [nilV], .box [.own 2 1 0 1], .box [.own 3 2 0 b0.length], .row 2 ((rowS k 0 b0).map Plate.enc)]) (1) ⟨[some 0, some 1, some 2, some 3], [], _, _, _, (by (simp only [Weak, go_sem, List.map_append, List.map_set, *] <;> (try simp (disch := omega) only [wrap_succ]) <;> (try simp) <;> (try omega))), 0, (by simp), (by simp), (by trivial), rfl, rfl, rfl⟩ ?_; rintro _ _ _ _ ⟨k, rfl, hk, hK, rfl, rfl, rfl⟩
  rcases (by omega : k = 0 ∨ k = 1) with rfl | rfl
  ·repeat' (first | (with_reducible (show runOps ..); first | (refine Qr rfl ?_; try intro K' hK; try simp only [go_sem, *])) | (with_reducible (show Hold ..); first | refine Qh rfl ?_ | refine s_draw rfl Tryz.mixed (by kernel_rfl) ?_ | (refine s_cond rfl ⟨_, rfl, fun hb => ?_, fun hb => ?_⟩ <;> (have hc := hb; try simp only [go_sem] at hc)) | refine s_ret rfl ?_) | ((with_reducible refine Qb ?_ ?_); focus kernel_rfl) | ((with_reducible refine And.intro ?_ ?_); focus omega) | (refine contA_of hK ?_; clear hK K'; simp only [go_sem, *]) | (simp only [thenA, inBlockA, go_sem, *]))
   refine call_of [3] [] (sp_SortFunc_Plate (by kernel_rfl) sp_comparePlates b0 (by omega)) (by simp) (by simp only [go_sem, *]) (by simp only [go_sem, AObj.live, *]) (by simp) (.inl rfl) (by simp [go_sem]) (by simp) ?_
   simp only [go_sem, AObj.ren, *]
   repeat' (first | (with_reducible (show runOps ..); first | (refine Qr rfl ?_; try intro K' hK; try simp only [go_sem, *])) | (with_reducible (show Hold ..); first | refine Qh rfl ?_ | refine s_draw rfl Tryz.mixed (by kernel_rfl) ?_ | (refine s_cond rfl ⟨_, rfl, fun hb => ?_, fun hb => ?_⟩ <;> (have hc := hb; try simp only [go_sem] at hc)) | refine s_ret rfl ?_) | ((with_reducible refine Qb ?_ ?_); focus kernel_rfl) | ((with_reducible refine And.intro ?_ ?_); focus omega) | (refine contA_of hK ?_; clear hK K'; simp only [go_sem, *]) | (simp only [thenA, inBlockA, go_sem, *]))
   refine ⟨_, (by omega), [some 0, some 1, some 2, some 3], [], _, _, _, (by (simp only [Weak, go_sem, List.map_append, List.map_set, *] <;> (try simp (disch := omega) only [wrap_succ]) <;> (try simp) <;> (try omega))), 0 + 1, rfl, (by omega), (by trivial), rfl, rfl, rfl⟩
  ·repeat' (first | (with_reducible (show runOps ..); first | (refine Qr rfl ?_; try intro K' hK; try simp only [go_sem, *])) | (with_reducible (show Hold ..); first | refine Qh rfl ?_ | refine s_draw rfl Tryz.mixed (by kernel_rfl) ?_ | (refine s_cond rfl ⟨_, rfl, fun hb => ?_, fun hb => ?_⟩ <;> (have hc := hb; try simp only [go_sem] at hc)) | refine s_ret rfl ?_) | ((with_reducible refine Qb ?_ ?_); focus kernel_rfl) | ((with_reducible refine And.intro ?_ ?_); focus omega) | (refine contA_of hK ?_; clear hK K'; simp only [go_sem, *]) | (simp only [thenA, inBlockA, go_sem, *]))
   have e : laid (hs.flatMap g) 1 = [isort cmpP b0] := by
    rw [p0.fin hnd (n := 1) (by omega)]; simp [laid, rowAt, List.range_succ]
   refine ⟨[.agg [.own 2 1 0 1]], [], [2, 3], ⟨by simp only [resOne, go_sem], trivial⟩, ?_⟩
   simp only [go_sem, e, *]
   exact .inr (by simp)
 ·obtain ⟨hr, hrk, hrx⟩ : ∃ hr : r < rem.length, (rem.map House.key)[r] = (rem[r]).key ∧ (rem.map (MapV g))[r] = .list ((g rem[r]).map House.enc) := ⟨by simpa using hr1, by simp, by simp [MapV]⟩
  rw [hrk, hrx, ← map_eraseIdx', ← map_eraseIdx']
  generalize (rem[r]).key = kk at *
  clear hrk
  simp only [go_sem]
  repeat' (first | (with_reducible (show runOps ..); first | (refine Qr rfl ?_; try intro K' hK; try simp only [go_sem, *])) | (with_reducible (show Hold ..); first | refine Qh rfl ?_ | refine s_draw rfl Tryz.mixed (by kernel_rfl) ?_ | (refine s_cond rfl ⟨_, rfl, fun hb => ?_, fun hb => ?_⟩ <;> (have hc := hb; try simp only [go_sem] at hc)) | refine s_ret rfl ?_) | ((with_reducible refine Qb ?_ ?_); focus kernel_rfl) | ((with_reducible refine And.intro ?_ ?_); focus omega) | (refine contA_of hK ?_; clear hK K'; simp only [go_sem, *]) | (simp only [thenA, inBlockA, go_sem, *]))
  obtain ⟨hlen0, hsub, p0⟩ := hP
  have p0 := p0.pick r hr
  have hll : (g rem[r]).length ≤ 1000 := hgl _ (hsub _ (List.getElem_mem hr))
  have hsl2 : ∀ z, z ∈ g rem[r] → 0 ≤ z.street ∧ z.street < 1 := fun z hz => hst z (List.mem_flatMap.2 ⟨_, hsub _ (List.getElem_mem hr), hz⟩)
  clear hrx
  generalize g rem[r] = l at *
  refine s_loop rfl (fun zn zN zenv zAs => ∃ (j : Nat) (b0 : List Plate), zn = (l.length) - j ∧ j ≤ (l.length) ∧ (AfQ1 (l.drop j ++ (rem.eraseIdx r).flatMap g) (hs.flatMap g) b0) ∧ zN = 54 ∧ zenv = [(23, iV j), (22, iV l.length), (21, encHouses l), (4, .ptr 0 0), (5, .ptr 1 0), (16, .ptr 4 0)] ∧ zAs = [.box [nilV], .box [.own 2 1 0 1], .box [.own 3 2 0 b0.length], .row 2 (b0.map Plate.enc), .iter (some (kk, .list (l.map House.enc))) ((rem.eraseIdx r).map House.key) ((rem.eraseIdx r).map (MapV g))]) (l.length) ⟨[some 0, some 1, some 2, some 3, some 4], [], _, _, _, (by (simp only [Weak, go_sem, List.map_append, List.map_set, *] <;> (try simp (disch := omega) only [wrap_succ]) <;> (try simp) <;> (try omega))), 0, b0, (by simp), (by simp), (by exact ⟨p0, trivial⟩), rfl, rfl, rfl⟩ ?_; rintro _ _ _ _ ⟨j, b0, rfl, hj, hQ, rfl, rfl, rfl⟩
  by_cases hj : j < l.length
  ·have hz := hsl2 _ (getD_mem hj)
   have hdj := drop_cons hj
   rw [hdj, List.cons_append] at hQ
   obtain ⟨q0, _⟩ := hQ
   have hl0 := Nat.le_trans q0.len (hlen 0 (by omega))
   clear hdj
   rcases (by omega : (l.getD j default).street = 0) with hs0
   ·repeat' (first | (with_reducible (show runOps ..); first | (refine Qr rfl ?_; try intro K' hK; try simp only [go_sem, *])) | (with_reducible (show Hold ..); first | refine Qh rfl ?_ | refine s_draw rfl Tryz.mixed (by kernel_rfl) ?_ | (refine s_cond rfl ⟨_, rfl, fun hb => ?_, fun hb => ?_⟩ <;> (have hc := hb; try simp only [go_sem] at hc)) | refine s_ret rfl ?_) | ((with_reducible refine Qb ?_ ?_); focus kernel_rfl) | ((with_reducible refine And.intro ?_ ?_); focus omega) | (refine contA_of hK ?_; clear hK K'; simp only [go_sem, *]) | (simp only [thenA, inBlockA, go_sem, *]))
    refine ⟨_, (by omega), [some 0, some 1, some 2, some 7, some 4], [], _, _, _, (by (simp only [Weak, go_sem, List.map_append, List.map_set, *] <;> (try simp (disch := omega) only [wrap_succ]) <;> (try simp) <;> (try omega))), j + 1, b0 ++ [(l.getD j default).plate], rfl, (by omega), (by exact ⟨q0.step_in (by rw [hs0]; rfl), trivial⟩), rfl, rfl, rfl⟩
  ·repeat' (first | (with_reducible (show runOps ..); first | (refine Qr rfl ?_; try intro K' hK; try simp only [go_sem, *])) | (with_reducible (show Hold ..); first | refine Qh rfl ?_ | refine s_draw rfl Tryz.mixed (by kernel_rfl) ?_ | (refine s_cond rfl ⟨_, rfl, fun hb => ?_, fun hb => ?_⟩ <;> (have hc := hb; try simp only [go_sem] at hc)) | refine s_ret rfl ?_) | ((with_reducible refine Qb ?_ ?_); focus kernel_rfl) | ((with_reducible refine And.intro ?_ ?_); focus omega) | (refine contA_of hK ?_; clear hK K'; simp only [go_sem, *]) | (simp only [thenA, inBlockA, go_sem, *]))
   rw [drop_end (by omega), List.nil_append] at hQ
   refine ⟨_, (by omega), [some 0, some 1, some 2, some 3, some 4], [], _, _, _, (by (simp only [Weak, go_sem, List.map_append, List.map_set, *] <;> (try simp (disch := omega) only [wrap_succ]) <;> (try simp) <;> (try omega))), i + 1, (some (kk, .list (l.map House.enc))), rem.eraseIdx r, b0, rfl, (by omega), (by exact ⟨by rw [List.length_eraseIdx_of_lt hr]; omega, fun h hh => hsub h ((List.eraseIdx_sublist _ _).subset hh), hQ.1⟩), rfl, rfl, rfl⟩
end Go.Abs

