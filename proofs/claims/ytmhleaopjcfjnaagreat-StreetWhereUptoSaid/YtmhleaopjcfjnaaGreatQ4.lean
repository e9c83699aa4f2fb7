/-
  WHAT THE PROOF STANDS ON, PART 4: contracts of the program's functions and the logic that they are proved in. No condition.
-/
import Derived.Test.YtmhleaopjcfjnaaGreatQ3
set_option maxRecDepth 100000
set_option maxHeartbeats 4000000
set_option linter.unusedVariables false
set_option linter.unusedSimpArgs false
set_option linter.unusedSectionVars false
namespace Go.Abs
open Go Go.Proofs Tryz
attribute [local irreducible] y6 Hold x8
theorem zHG (l : List Int) (h1 : l.length ≤ 4294967296) : zLp prog 164 [.list (l.map iV)] [] (.own 0 1 0 l.length) [.row 1 (l.map iV)] := by
 cases l with
 | nil =>
  refine zAy (fun a c => ?_)
  refine q8 func164 rfl (fun E hE => ?_); simp only [go_sem, ntmps164]
  repeat' (first | (refine Qr rfl ?_; try intro _ hK; try simp only [go_sem, *]) | refine Qh rfl ?_ | (refine Qc rfl rfl ?_ ?_ <;> (intro hb; have hc := hb; try simp only [go_sem] at hc)) | refine q6 rfl ?_ | ((with_reducible apply And.intro); focus omega) | (refine z8 hK ?_; clear hK; simp only [go_sem, *]) | simp only [z6, z7, go_sem, *])
  ·refine ⟨[_], [none], [], ⟨rfl, trivial⟩, ?_⟩
   simp only [go_sem, *]
   simp
  ·refine ⟨[_], [some 1], [], ⟨rfl, trivial⟩, ?_⟩
   simp only [go_sem, *]
 | cons x r =>
  have h2 : r.length + 1 ≤ 4294967296 := by simpa using h1
  refine q8 func164 rfl (fun E hE => ?_); simp only [go_sem, ntmps164]
  repeat' (first | (refine Qr rfl ?_; try intro _ hK; try simp only [go_sem, *]) | refine Qh rfl ?_ | (refine Qc rfl rfl ?_ ?_ <;> (intro hb; have hc := hb; try simp only [go_sem] at hc)) | refine q6 rfl ?_ | ((with_reducible apply And.intro); focus omega) | (refine z8 hK ?_; clear hK; simp only [go_sem, *]) | simp only [z6, z7, go_sem, *])
  all_goals try contradiction
  refine ⟨fun y hy => ?_, fun y hy => ?_, by omega, by omega, ?_⟩
  ·obtain ⟨z, _, rfl⟩ := List.mem_map.1 hy
   simp [go_sem]
  ·obtain ⟨z, _, rfl⟩ := List.mem_map.1 hy
   simp [go_sem]
  ·repeat' (first | (refine Qr rfl ?_; try intro _ hK; try simp only [go_sem, *]) | refine Qh rfl ?_ | (refine Qc rfl rfl ?_ ?_ <;> (intro hb; have hc := hb; try simp only [go_sem] at hc)) | refine q6 rfl ?_ | ((with_reducible apply And.intro); focus omega) | (refine z8 hK ?_; clear hK; simp only [go_sem, *]) | simp only [z6, z7, go_sem, *])
   refine ⟨[_], [some 1], [], ⟨rfl, trivial⟩, ?_⟩
   simp only [go_sem, *]
theorem zHI (l : List Plate) (h1 : l.length ≤ 4294967296) : zLp prog 147 [.list (l.map Plate.enc)] [] (.own 0 2 0 l.length) [.row 2 (l.map Plate.enc)] := by
 cases l with
 | nil =>
  refine zAy (fun a c => ?_)
  refine q8 func147 rfl (fun E hE => ?_); simp only [go_sem, ntmps147]
  repeat' (first | (refine Qr rfl ?_; try intro _ hK; try simp only [go_sem, *]) | refine Qh rfl ?_ | (refine Qc rfl rfl ?_ ?_ <;> (intro hb; have hc := hb; try simp only [go_sem] at hc)) | refine q6 rfl ?_ | ((with_reducible apply And.intro); focus omega) | (refine z8 hK ?_; clear hK; simp only [go_sem, *]) | simp only [z6, z7, go_sem, *])
  ·refine ⟨[_], [none], [], ⟨rfl, trivial⟩, ?_⟩
   simp only [go_sem, *]
   simp
  ·refine ⟨[_], [some 1], [], ⟨rfl, trivial⟩, ?_⟩
   simp only [go_sem, *]
 | cons x r =>
  have h2 : r.length + 1 ≤ 4294967296 := by simpa using h1
  refine q8 func147 rfl (fun E hE => ?_); simp only [go_sem, ntmps147]
  repeat' (first | (refine Qr rfl ?_; try intro _ hK; try simp only [go_sem, *]) | refine Qh rfl ?_ | (refine Qc rfl rfl ?_ ?_ <;> (intro hb; have hc := hb; try simp only [go_sem] at hc)) | refine q6 rfl ?_ | ((with_reducible apply And.intro); focus omega) | (refine z8 hK ?_; clear hK; simp only [go_sem, *]) | simp only [z6, z7, go_sem, *])
  all_goals try contradiction
  refine ⟨fun y hy => ?_, fun y hy => ?_, by omega, by omega, ?_⟩
  ·obtain ⟨z, _, rfl⟩ := List.mem_map.1 hy
   simp [go_sem]
  ·obtain ⟨z, _, rfl⟩ := List.mem_map.1 hy
   simp [go_sem]
  ·repeat' (first | (refine Qr rfl ?_; try intro _ hK; try simp only [go_sem, *]) | refine Qh rfl ?_ | (refine Qc rfl rfl ?_ ?_ <;> (intro hb; have hc := hb; try simp only [go_sem] at hc)) | refine q6 rfl ?_ | ((with_reducible apply And.intro); focus omega) | (refine z8 hK ?_; clear hK; simp only [go_sem, *]) | simp only [z6, z7, go_sem, *])
   refine ⟨[_], [some 1], [], ⟨rfl, trivial⟩, ?_⟩
   simp only [go_sem, *]
theorem zHH (l : List House) (h1 : l.length ≤ 4294967296) : zLp prog 134 [.list (l.map House.enc)] [] (.own 0 3 0 l.length) [.row 3 (l.map House.enc)] := by
 cases l with
 | nil =>
  refine zAy (fun a c => ?_)
  refine q8 func134 rfl (fun E hE => ?_); simp only [go_sem, ntmps134]
  repeat' (first | (refine Qr rfl ?_; try intro _ hK; try simp only [go_sem, *]) | refine Qh rfl ?_ | (refine Qc rfl rfl ?_ ?_ <;> (intro hb; have hc := hb; try simp only [go_sem] at hc)) | refine q6 rfl ?_ | ((with_reducible apply And.intro); focus omega) | (refine z8 hK ?_; clear hK; simp only [go_sem, *]) | simp only [z6, z7, go_sem, *])
  ·refine ⟨[_], [none], [], ⟨rfl, trivial⟩, ?_⟩
   simp only [go_sem, *]
   simp
  ·refine ⟨[_], [some 1], [], ⟨rfl, trivial⟩, ?_⟩
   simp only [go_sem, *]
 | cons x r =>
  have h2 : r.length + 1 ≤ 4294967296 := by simpa using h1
  refine q8 func134 rfl (fun E hE => ?_); simp only [go_sem, ntmps134]
  repeat' (first | (refine Qr rfl ?_; try intro _ hK; try simp only [go_sem, *]) | refine Qh rfl ?_ | (refine Qc rfl rfl ?_ ?_ <;> (intro hb; have hc := hb; try simp only [go_sem] at hc)) | refine q6 rfl ?_ | ((with_reducible apply And.intro); focus omega) | (refine z8 hK ?_; clear hK; simp only [go_sem, *]) | simp only [z6, z7, go_sem, *])
  all_goals try contradiction
  refine ⟨fun y hy => ?_, fun y hy => ?_, by omega, by omega, ?_⟩
  ·obtain ⟨z, _, rfl⟩ := List.mem_map.1 hy
   simp [go_sem]
  ·obtain ⟨z, _, rfl⟩ := List.mem_map.1 hy
   simp [go_sem]
  ·repeat' (first | (refine Qr rfl ?_; try intro _ hK; try simp only [go_sem, *]) | refine Qh rfl ?_ | (refine Qc rfl rfl ?_ ?_ <;> (intro hb; have hc := hb; try simp only [go_sem] at hc)) | refine q6 rfl ?_ | ((with_reducible apply And.intro); focus omega) | (refine z8 hK ?_; clear hK; simp only [go_sem, *]) | simp only [z6, z7, go_sem, *])
   refine ⟨[_], [some 1], [], ⟨rfl, trivial⟩, ?_⟩
   simp only [go_sem, *]
def zMe (l : List House) (x : House) : Int := if x ∈ l then (l.idxOf x : Nat) else -1
theorem zB3 {l : List House} {x : House} (h : x ∈ l) : zMe l x = (l.idxOf x : Nat) := by simp [zMe, h]
theorem zB2 {l : List House} {x : House} (hn : x ∉ l) : zMe l x = -1 := by simp [zMe, hn]
theorem zIJ {l : List House} {i : Nat} {x : House} (h : i < l.length) (hn : x ∉ l.take i) (hx : ¬ l.getD i default = x) : x ∉ l.take (i + 1) := by
 rw [List.take_add_one]
 simp only [List.getD_eq_getElem?_getD, List.getElem?_eq_getElem h, Option.getD_some] at hx
 simp only [List.getElem?_eq_getElem h, Option.toList_some, List.mem_append, List.mem_singleton, not_or]
 exact ⟨hn, fun e => hx e.symm⟩
theorem zFq {l : List House} {i : Nat} {x : House} (h : i < l.length) (hn : x ∉ l.take i) (hx : l.getD i default = x) : zMe l x = i := by
 have hg : l.drop i = x :: l.drop (i + 1) := by rw [u0 h, hx]
 have hl : l = l.take i ++ x :: l.drop (i + 1) := by rw [← hg, List.take_append_drop]
 have hm : x ∈ l := by rw [hl]; simp
 rw [zB3 hm]
 conv => lhs; rw [hl]
 rw [List.idxOf_append, if_neg hn]
 simp; omega
theorem zHV (l : List House) (x : House) (h1 : l.length ≤ 4294967296) : zLp prog 142 [.list (l.map House.enc), x.enc] [] (iV (zMe l x)) [] := by
 refine q8 func142 rfl (fun E hE => ?_); simp only [go_sem, ntmps142]
 repeat' (first | (refine Qr rfl ?_; try intro _ hK; try simp only [go_sem, *]) | refine Qh rfl ?_ | refine Qd rfl (by kernel_rfl) ?_ | (refine Qc rfl rfl ?_ ?_ <;> (intro hb; have hc := hb; try simp only [go_sem] at hc)) | refine q6 rfl ?_ | (refine Qb ?_ ?_; focus kernel_rfl) | ((with_reducible apply And.intro); focus omega) | (refine z8 hK ?_; clear hK; simp only [go_sem, *]) | simp only [z6, z7, go_sem, *])
 refine u3 rfl (l.length) (fun i => x ∉ l.take i) 19 (fun i => [(8, iV i), (7, iV l.length), (3, .ptr 0 0), (0, .list (l.map House.enc))]) (fun i => [.box [iV x.street, iV x.plate.number, iV x.plate.letter]]) [some 0] [] (by simp) ?_; intro i hi hP
 repeat' (first | (refine Qr rfl ?_; try intro _ hK; try simp only [go_sem, *]) | refine Qh rfl ?_ | refine Qd rfl (by kernel_rfl) ?_ | (refine Qc rfl rfl ?_ ?_ <;> (intro hb; have hc := hb; try simp only [go_sem] at hc)) | refine q6 rfl ?_ | (refine Qb ?_ ?_; focus kernel_rfl) | ((with_reducible apply And.intro); focus omega) | (refine z8 hK ?_; clear hK; simp only [go_sem, *]) | simp only [z6, z7, go_sem, *])
 ·(refine ⟨[_], [], [], ⟨rfl, trivial⟩, ?_⟩; simp only [go_sem, *])
  have e : x = l.getD i default := by assumption
  rw [← e]
  exact zAN (zFq (by assumption) hP e.symm)
 ·exact u2 (i' := i + 1) [some 0] [] (by exact zIJ (by assumption) hP (fun e => absurd e.symm (by assumption)))
 ·(refine ⟨[_], [], [], ⟨rfl, trivial⟩, ?_⟩; simp only [go_sem, *])
  rw [List.take_of_length_le (by omega)] at hP
  rw [zB2 hP]
theorem zAo (l : List House) (x : House) (h1 : l.length ≤ 4294967296) : zLp prog 106 [.list (l.map House.enc), x.enc] [] (bV (decide (x ∈ l))) [] := by
 refine q8 func106 rfl (fun E hE => ?_); simp only [go_sem, ntmps106]
 repeat' (first | (refine Qr rfl ?_; try intro _ hK; try simp only [go_sem, *]) | refine Qh rfl ?_ | (refine Qc rfl rfl ?_ ?_ <;> (intro hb; have hc := hb; try simp only [go_sem] at hc)) | refine q6 rfl ?_ | (refine y4 (zHV l x h1) ?_; simp only [go_sem, *]) | ((with_reducible apply And.intro); focus omega) | (refine z8 hK ?_; clear hK; simp only [go_sem, *]) | simp only [z6, z7, go_sem, *])
 (refine ⟨[_], [], [], ⟨rfl, trivial⟩, ?_⟩; simp only [go_sem, *])
 refine T0 ?_
 by_cases hm : x ∈ l
 ·simp [zB3 hm, hm]
 ·simp [zB2 hm, hm]
theorem zHJ (l : List House) (h1 : l.length ≤ 4294967296) (hn : l.Nodup) : zLp prog 137 [.own 0 3 0 l.length] [.row 3 (l.map House.enc)] (.own 0 3 0 l.length) [.row 3 (l.map House.enc)] := by
 have hne : ∀ i, i + 1 < l.length → ¬ l.getD (i + 1) default = l.getD i default := fun i hi e => by
  have e1 : l.getD (i + 1) default = l[i + 1] := by simp [List.getD, hi]
  have e2 : l.getD i default = l[i] := by simp [List.getD, show i < l.length by omega]
  rw [e1, e2] at e
  have := (X5 hn).1 e
  omega
 refine q8 func137 rfl (fun E hE => ?_); simp only [go_sem, ntmps137]
 repeat' (first | (refine Qr rfl ?_; try intro _ hK; try simp only [go_sem, *]) | refine Qh rfl ?_ | refine Qd rfl (by kernel_rfl) ?_ | (refine Qc rfl rfl ?_ ?_ <;> (intro hb; have hc := hb; try simp only [go_sem] at hc)) | refine q6 rfl ?_ | (refine Qb ?_ ?_; focus kernel_rfl) | ((with_reducible apply And.intro); focus omega) | (refine z8 hK ?_; clear hK; simp only [go_sem, *]) | simp only [z6, z7, go_sem, *])
 ·refine ⟨[_], [some 0], [], ⟨rfl, trivial⟩, ?_⟩
  simp only [go_sem, *]
 ·refine u3 rfl (l.length - 1) (fun i => NoP i) 61 (fun i => [(3, iV ((i : Int) + 1)), (0, .own 0 3 0 l.length)]) (fun i => [.row 3 (l.map House.enc)]) [some 0] [] (by trivial) ?_; intro i hi hP
  have hw1 : i + 1 < l.length → IntKind.i64.wrap ((i : Int) + 1 - 1) = (i : Int) := fun h => by rw [wrap_i64 (by omega) (by omega)]; omega
  have hw2 : i + 1 < l.length → IntKind.i64.wrap ((i : Int) + 1 + 1) = (((i + 1 : Nat) : Int) + 1) := fun h => by rw [wrap_i64 (by omega) (by omega)]; omega
  have hlt : ((i : Int) + 1 < (l.length : Int)) = (i + 1 < l.length) := by simp only [eq_iff_iff]; omega
  have htn : ((i : Int) + 1).toNat = i + 1 := by omega
  by_cases h2 : i + 1 < l.length
  ·have h3 : i < l.length := by omega
   have hne := hne i h2
   have hne' : decide (l.getD (i + 1) default = l.getD i default) = false := by simpa using hne
   repeat' (first | (refine Qr rfl ?_; try intro _ hK; try simp only [go_sem, *]) | refine Qh rfl ?_ | refine Qd rfl (by kernel_rfl) ?_ | (refine Qc rfl rfl ?_ ?_ <;> (intro hb; have hc := hb; try simp only [go_sem] at hc)) | refine q6 rfl ?_ | (refine Qb ?_ ?_; focus kernel_rfl) | ((with_reducible apply And.intro); focus omega) | (refine z8 hK ?_; clear hK; simp only [go_sem, *]) | simp only [z6, z7, go_sem, *])
   all_goals try contradiction
   exact u2 (i' := i + 1) [some 0] [] (by trivial)
  ·repeat' (first | (refine Qr rfl ?_; try intro _ hK; try simp only [go_sem, *]) | refine Qh rfl ?_ | refine Qd rfl (by kernel_rfl) ?_ | (refine Qc rfl rfl ?_ ?_ <;> (intro hb; have hc := hb; try simp only [go_sem] at hc)) | refine q6 rfl ?_ | (refine Qb ?_ ?_; focus kernel_rfl) | ((with_reducible apply And.intro); focus omega) | (refine z8 hK ?_; clear hK; simp only [go_sem, *]) | simp only [z6, z7, go_sem, *])
   refine ⟨[_], [some 0], [], ⟨rfl, trivial⟩, ?_⟩
   simp only [go_sem, *]
theorem zF1 {xs : List House} (hn : xs.Nodup) : Strict (v8 zME xs) := by
 have h1 := zCC zME zGV xs
 have h2 : (v8 zME xs).Nodup := (S2 zME xs).nodup_iff.2 hn
 refine (h1.and h2).imp (fun {a b} h => ?_)
 rcases House.lt_tri a b with h3 | h3 | h3
 ·exact h3
 ·exact absurd h3 h.2
 ·exact absurd ((A0 b a).2 h3) h.1
theorem zAO {xs : List House} (hn : xs.Nodup) : v8 zME xs = s6 xs :=
 I7 (zF1 hn) (R3 xs) (fun z => by rw [(S2 zME xs).mem_iff, mem_sortH])
theorem zC7 (l : List House) (hn : l.Nodup) (h12 : l.length ≤ 12) : zLp prog 99 [.list (l.map House.enc)] [] (.list ((s6 l).map House.enc)) [] := by
 have hcal : p9 prog 136 = true := by kernel_rfl
 have ss := zHY hcal (fun a b => zHe a b) l h12
 rw [zAO hn] at ss
 have hl : (s6 l).length = l.length := by rw [← zAO hn]; exact (S2 zME l).length_eq
 have hns : (s6 l).Nodup := by rw [← zAO hn]; exact (S2 zME l).nodup_iff.2 hn
 have sc := zHJ (s6 l) (by omega) hns
 rw [hl] at sc
 have hl2 : l.length ≤ (s6 l).length := by omega
 have hl3 : (s6 l).length ≤ l.length := by omega
 clear hl hns
 have hcl := zHH l (by omega)
 refine q8 func99 rfl (fun E hE => ?_); simp only [go_sem, ntmps99]
 repeat' (first | (refine Qr rfl ?_; try intro _ hK; try simp only [go_sem, *]) | refine Qh rfl ?_ | (refine Qc rfl rfl ?_ ?_ <;> (intro hb; have hc := hb; try simp only [go_sem] at hc)) | refine q6 rfl ?_ | (refine s8 (hcl) ?_; simp only [go_sem, *]) | ((with_reducible apply And.intro); focus omega) | (refine z8 hK ?_; clear hK; simp only [go_sem, *]) | simp only [z6, z7, go_sem, *])
 refine y9 [0] [] ss (by simp) (by simp only [go_sem, *]) (by simp only [go_sem, AObj.live, *]) (by simp) (.inl rfl) (by simp [go_sem]) (by simp) ?_
 simp only [go_sem, *]
 repeat' (first | (refine Qr rfl ?_; try intro _ hK; try simp only [go_sem, *]) | refine Qh rfl ?_ | (refine Qc rfl rfl ?_ ?_ <;> (intro hb; have hc := hb; try simp only [go_sem] at hc)) | refine q6 rfl ?_ | ((with_reducible apply And.intro); focus omega) | (refine z8 hK ?_; clear hK; simp only [go_sem, *]) | simp only [z6, z7, go_sem, *])
 refine y9 [0] [] sc (by simp) (by simp only [go_sem, *]) (by simp only [go_sem, AObj.live, *]) (by simp) (.inl rfl) (by simp [go_sem]) (by simp) ?_
 simp only [go_sem, *]
 repeat' (first | (refine Qr rfl ?_; try intro _ hK; try simp only [go_sem, *]) | refine Qh rfl ?_ | (refine Qc rfl rfl ?_ ?_ <;> (intro hb; have hc := hb; try simp only [go_sem] at hc)) | refine q6 rfl ?_ | ((with_reducible apply And.intro); focus omega) | (refine z8 hK ?_; clear hK; simp only [go_sem, *]) | simp only [z6, z7, go_sem, *])
 refine ⟨[_], [], [0], ⟨rfl, trivial⟩, ?_⟩
 simp only [go_sem, *]
 exact (List.take_of_length_le (by simpa using hl3)).symm
end Go.Abs

namespace Go.Abs
open Go Go.Proofs Tryz
attribute [local irreducible] y6 Hold x8
@[go_sem] theorem zKp (h : House) : p6 h.key = h.enc := by simp [House.key, House.enc, p6, Value.oneCell']
def ThP (hs don rem : List House) (i : Nat) : Prop := rem.length + i = hs.length ∧ (don ++ rem).Perm hs
def U6 (f g : House → List House) (h : House) : List House := s6 ((f h).flatMap g)
theorem zH7 (hs ks : List House) (f g : House → List House) (hn : hs.Nodup) (hw : ∀ k, k ∈ hs → k.Wf) (kw : ∀ k, k ∈ ks → k.Wf) (hk : ∀ h, h ∈ hs → ∀ x, x ∈ f h → x ∈ ks) (hnd : ∀ h, h ∈ hs → ((f h).flatMap g).Nodup) (h12 : ∀ h, h ∈ hs → ((f h).flatMap g).length ≤ 12)
  (hsl : hs.length ≤ 1000) (hfl : ∀ h, h ∈ hs → (f h).length ≤ 1000) (hgl : ∀ x, x ∈ ks → (g x).length ≤ 1000) :
  zLp prog 165 [.fmap (hs.map House.key) (hs.map (zLs f)), .fmap (ks.map House.key) (ks.map (zLs g))] [] (.fmap (hs.map House.key) (hs.map (zLs (U6 f g)))) [] := by
 have hmt : (zMB prog 121).isSome = true := by kernel_rfl
 refine q8 func165 rfl (fun E hE => ?_); simp only [go_sem, ntmps165]
 repeat' (first | (refine Qr rfl ?_; try intro _ hK; try simp only [go_sem, *]) | refine Qh rfl ?_ | refine Qd rfl (by kernel_rfl) ?_ | (refine Qc rfl rfl ?_ ?_ <;> (intro hb; have hc := hb; try simp only [go_sem] at hc)) | refine q6 rfl ?_ | (refine Qb ?_ ?_; focus kernel_rfl) | ((with_reducible apply And.intro); focus omega) | (refine z8 hK ?_; clear hK; simp only [go_sem, *]) | simp only [z6, z7, go_sem, *])
 refine X7 rfl (fun zn zN zenv zAs => ∃ (i : Nat) (cur : Option (Value × AV)) (don rem : List House), zn = (hs.length) - i ∧ i ≤ (hs.length) ∧ (ThP hs don rem i) ∧ zN = 36 ∧ zenv = [(5, .mp 0), (13, .ptr 1 0), (1, .fmap (ks.map House.key) (ks.map (zLs g)))] ∧ zAs = [.mapo (don.map House.key) (don.map (zLs (U6 f g))), .iter cur (rem.map House.key) (rem.map (zLs f))]) (hs.length) ⟨[some 0, some 1], [], _, _, _, (by (simp only [Weak, go_sem, List.map_append, List.map_set, *] <;> (try simp (disch := omega) only [t8]) <;> (try simp) <;> (try omega))), 0, none, [], hs, (by simp), (by simp), (by exact ⟨by omega, by simp⟩), rfl, rfl, rfl⟩ ?_; rintro _ _ _ _ ⟨i, cur, don, rem, rfl, hi, hP, rfl, rfl, rfl⟩
 refine M0 rfl ?_
 refine D4 (o := 1) rfl rfl rfl rfl rfl rfl rfl cur (rem.map House.key) (rem.map (zLs f)) (by simp only [go_sem]) (by simp only [go_sem]) (show (14 : Nat) < 36 by decide) (show (15 : Nat) < 36 by decide) (fun hk0 _ => ?_) (fun r hr1 hr2 => ?_)
 ·obtain rfl : rem = [] := by simpa using hk0
  simp only [go_sem]
  repeat' (first | (refine Qr rfl ?_; try intro _ hK; try simp only [go_sem, *]) | refine Qh rfl ?_ | refine Qd rfl (by kernel_rfl) ?_ | (refine Qc rfl rfl ?_ ?_ <;> (intro hb; have hc := hb; try simp only [go_sem] at hc)) | refine q6 rfl ?_ | (refine Qb ?_ ?_; focus kernel_rfl) | ((with_reducible apply And.intro); focus omega) | (refine z8 hK ?_; clear hK; simp only [go_sem, *]) | simp only [z6, z7, go_sem, *])
  obtain ⟨_, p0⟩ := hP
  rw [List.append_nil] at p0
  have hpm : MPerm (hs.map House.key) (hs.map (zLs (U6 f g))) (don.map House.key) (don.map (zLs (U6 f g))) := by
   refine .inr ⟨by simp, by simp, ?_⟩
   rw [List.zip_map', List.zip_map']
   exact (p0.map _).symm
  refine ⟨[_], [], [0], ⟨rfl, trivial⟩, ?_⟩
  simp only [go_sem, *]
 ·obtain ⟨hr, hrk, hrx⟩ : ∃ hr : r < rem.length, (rem.map House.key)[r] = (rem[r]).key ∧ (rem.map (zLs f))[r] = .list ((f rem[r]).map House.enc) := ⟨by simpa using hr1, by simp, by simp [zLs]⟩
  rw [hrk, hrx, ← X4, ← X4]
  obtain ⟨hlen0, hperm⟩ := hP
  have hq : (rem[r] :: rem.eraseIdx r).Perm rem := (A2 rem r hr).symm
  have hel : (rem.eraseIdx r).length = rem.length - 1 := List.length_eraseIdx_of_lt hr
  clear hrk hrx
  generalize rem.eraseIdx r = rem' at *
  generalize rem[r] = h at *
  have hq2 : ((don ++ [h]) ++ rem').Perm hs := by
   rw [List.append_assoc]
   exact (List.Perm.append_left don hq).trans hperm
  have hmh : h ∈ hs := hq2.mem_iff.1 (by simp)
  have hmd : ∀ k, k ∈ don → k ∈ hs := fun k hk => hq2.mem_iff.1 (by simp [hk])
  have hnd2 := hq2.nodup_iff.2 hn
  have hnot : h ∉ don := fun hd => by
   rw [List.append_assoc] at hnd2
   exact (List.nodup_append.1 hnd2).2.2 h hd h (by simp) rfl
  have hil : i < hs.length := by omega
  have hfh := hfl h hmh
  have hkh := hk h hmh
  have hndh := hnd h hmh
  have h12h := h12 h hmh
  clear hq hperm hnd2
  simp only [go_sem]
  repeat' (first | (refine Qr rfl ?_; try intro _ hK; try simp only [go_sem, *]) | refine Qh rfl ?_ | refine Qd rfl (by kernel_rfl) ?_ | (refine Qc rfl rfl ?_ ?_ <;> (intro hb; have hc := hb; try simp only [go_sem] at hc)) | refine q6 rfl ?_ | (refine Qb ?_ ?_; focus kernel_rfl) | ((with_reducible apply And.intro); focus omega) | (refine z8 hK ?_; clear hK; simp only [go_sem, *]) | simp only [z6, z7, go_sem, *])
  refine u4 rfl ((f h).length) (fun j (acc : List House) => acc ++ ((f h).drop j).flatMap g = (f h).flatMap g) 36 (fun j acc => [(21, iV j), (20, iV (f h).length), (19, .list ((f h).map House.enc)), (8, .own 3 3 0 acc.length), (6, .ptr 2 0), (5, .mp 0), (13, .ptr 1 0), (1, .fmap (ks.map House.key) (ks.map (zLs g)))]) (fun j acc => [.mapo (don.map House.key) (don.map (zLs (U6 f g))), .iter (some (h.key, .list ((f h).map House.enc))) (rem'.map House.key) (rem'.map (zLs f)), .box [iV h.street, iV h.plate.number, iV h.plate.letter], .row 3 (acc.map House.enc)]) [some 0, some 1, some 2, none] [] ([]) (by simp) ?_; intro j acc hj hQ
  have hql := congrArg List.length hQ
  simp only [List.length_append] at hql
  by_cases hj : j < (f h).length
  ·have hdj := u0 hj
   rw [hdj, List.flatMap_cons] at hQ hql
   simp only [List.length_append] at hql
   have hxk := hkh _ (w8 hj)
   have hxw := kw _ hxk
   have hgx := hgl _ hxk
   clear hdj
   repeat' (first | (refine Qr rfl ?_; try intro _ hK; try simp only [go_sem, *]) | refine Qh rfl ?_ | refine Qd rfl (by kernel_rfl) ?_ | (refine Qc rfl rfl ?_ ?_ <;> (intro hb; have hc := hb; try simp only [go_sem] at hc)) | refine q6 rfl ?_ | (refine Qb ?_ ?_; focus kernel_rfl) | ((with_reducible apply And.intro); focus omega) | (refine z8 hK ?_; clear hK; simp only [go_sem, *]) | simp only [z6, z7, go_sem, *])
   refine V7 (h := (f h).getD j default) (hs := ks) (F := zLs g) kw hxw ?_
   rw [if_pos hxk, zLs]
   repeat' (first | (refine Qr rfl ?_; try intro _ hK; try simp only [go_sem, *]) | refine Qh rfl ?_ | refine Qd rfl (by kernel_rfl) ?_ | (refine Qc rfl rfl ?_ ?_ <;> (intro hb; have hc := hb; try simp only [go_sem] at hc)) | refine q6 rfl ?_ | (refine Qb ?_ ?_; focus kernel_rfl) | ((with_reducible apply And.intro); focus omega) | (refine z8 hK ?_; clear hK; simp only [go_sem, *]) | simp only [z6, z7, go_sem, *])
   refine ⟨fun y hy => ?_, fun y hy => ?_, by omega, ?_⟩
   ·obtain ⟨z, _, rfl⟩ := List.mem_map.1 hy
    simp [go_sem]
   ·obtain ⟨z, _, rfl⟩ := List.mem_map.1 hy
    simp [go_sem]
   ·repeat' (first | (refine Qr rfl ?_; try intro _ hK; try simp only [go_sem, *]) | refine Qh rfl ?_ | refine Qd rfl (by kernel_rfl) ?_ | (refine Qc rfl rfl ?_ ?_ <;> (intro hb; have hc := hb; try simp only [go_sem] at hc)) | refine q6 rfl ?_ | (refine Qb ?_ ?_; focus kernel_rfl) | ((with_reducible apply And.intro); focus omega) | (refine z8 hK ?_; clear hK; simp only [go_sem, *]) | simp only [z6, z7, go_sem, *])
    exact w6 (i' := j + 1) [some 0, some 1, some 2, some 5] [] (acc ++ g ((f h).getD j default)) (by rw [← hQ]; simp)
  ·rw [u7 (by omega), List.flatMap_nil, List.append_nil] at hQ
   subst hQ
   repeat' (first | (refine Qr rfl ?_; try intro _ hK; try simp only [go_sem, *]) | refine Qh rfl ?_ | refine Qd rfl (by kernel_rfl) ?_ | (refine Qc rfl rfl ?_ ?_ <;> (intro hb; have hc := hb; try simp only [go_sem] at hc)) | refine q6 rfl ?_ | (refine Qb ?_ ?_; focus kernel_rfl) | ((with_reducible apply And.intro); focus omega) | (refine z8 hK ?_; clear hK; simp only [go_sem, *]) | simp only [z6, z7, go_sem, *])
   refine o7 (gone := [3]) (zC7 ((f h).flatMap g) hndh h12h) (by simp only [go_sem, *]; simp [List.take_of_length_le]) (by simp only [go_sem, *]; simp) (by simp only [go_sem]) (by simp) (by simp) ?_
   simp only [go_sem, v6]
   repeat' (first | (refine Qr rfl ?_; try intro _ hK; try simp only [go_sem, *]) | refine Qh rfl ?_ | refine Qd rfl (by kernel_rfl) ?_ | (refine Qc rfl rfl ?_ ?_ <;> (intro hb; have hc := hb; try simp only [go_sem] at hc)) | refine q6 rfl ?_ | (refine Qb ?_ ?_; focus kernel_rfl) | ((with_reducible apply And.intro); focus omega) | (refine z8 hK ?_; clear hK; simp only [go_sem, *]) | simp only [z6, z7, go_sem, *])
   refine zCV (h := h) (hs := don) (xs := don.map (zLs (U6 f g))) (by simp only [go_sem, *]) (fun k hk => hw k (hmd k hk)) (hw h hmh) hnot (by simp only [go_sem, *]) (by simp only [go_sem, *]) ?_
   simp only [go_sem, *]
   repeat' (first | (refine Qr rfl ?_; try intro _ hK; try simp only [go_sem, *]) | refine Qh rfl ?_ | refine Qd rfl (by kernel_rfl) ?_ | (refine Qc rfl rfl ?_ ?_ <;> (intro hb; have hc := hb; try simp only [go_sem] at hc)) | refine q6 rfl ?_ | (refine Qb ?_ ?_; focus kernel_rfl) | ((with_reducible apply And.intro); focus omega) | (refine z8 hK ?_; clear hK; simp only [go_sem, *]) | simp only [z6, z7, go_sem, *])
   have hM : zLs (U6 f g) h = .list ((s6 ((f h).flatMap g)).map House.enc) := rfl
   refine ⟨_, (by omega), [some 0, some 1], [], _, _, _, (by (simp only [Weak, go_sem, List.map_append, List.map_set, *] <;> (try simp (disch := omega) only [t8]) <;> (try simp) <;> (try omega))), i + 1, (some (h.key, .list ((f h).map House.enc))), don ++ [h], rem', rfl, (by omega), (by exact ⟨by omega, hq2⟩), rfl, rfl, rfl⟩
end Go.Abs

namespace Go.Abs
open Go Go.Proofs Tryz
attribute [local irreducible] y6 Hold x8
def l2 : List Change → Int
 | [] => 0
 | c :: r => if zLr c.kind 1 7 = true then l2 r else 8
def Y2 : List (List Change) → Int
 | [] => 0
 | w :: r => if w.length = 0 then 7 else if 3 < w.length then 6 else if l2 w = 0 then Y2 r else 8
def Q4 (p : zLo) : List Fact → Int
 | [] => 0
 | f :: r => if f.src ∈ q9 p ∧ zLr f.dst.street 0 (p.length - 1) = true then (if f.dst.plate.ok = true then Q4 p r else 1) else 3
def L8 (s : Story) : Int := if 4 < s.facts.length then 6 else Q4 s.first s.facts
def W2 (s : Story) (l : List (List Change)) : Int := if Y2 l = 0 then L8 s else Y2 l
def r9 (s : Story) : Int := if check s.first = 0 then if 3 < s.steps.length then 6 else W2 s s.steps else check s.first
def l0 (s : Story) : AObj := .box [.list (s.first.map y7), .list (s.steps.map i9), .list (s.facts.map Fact.enc), .list ((q9 s.first).map House.enc)]
attribute [go_sem] l0
abbrev zMt : AV := .raw (.pointer none)
def G0 (G : Int) (R : AV) (out : List AObj) (s : Story) : Prop := (G = 0 → R = .tup [.ptr 0 0, iV 0] ∧ out = [l0 s]) ∧ (G ≠ 0 → R = .tup [zMt, iV G] ∧ out = [])
theorem zIT {l : List Change} {i : Nat} (h : i < l.length) : l2 (l.drop i) = if zLr (l.getD i default).kind 1 7 = true then l2 (l.drop (i + 1)) else 8 := by
 rw [u0 h, l2]
theorem zIE {l : List (List Change)} {i : Nat} (h : i < l.length) : Y2 (l.drop i) = if (l.getD i default).length = 0 then 7 else if 3 < (l.getD i default).length then 6 else if l2 (l.getD i default) = 0 then Y2 (l.drop (i + 1)) else 8 := by
 rw [u0 h, Y2]
theorem zEi {p : zLo} {l : List Fact} {i : Nat} (h : i < l.length) : Q4 p (l.drop i) = if (l.getD i default).src ∈ q9 p ∧ zLr (l.getD i default).dst.street 0 (p.length - 1) = true then (if (l.getD i default).dst.plate.ok = true then Q4 p (l.drop (i + 1)) else 1) else 3 := by
 rw [u0 h, Q4]
theorem zC0 (s : Story) (hst : s.steps.length ≤ 4294967296) (hwl : ∀ w, w ∈ s.steps → w.length ≤ 4294967296) (hfl : s.facts.length ≤ 4294967296) (hpl : s.first.length ≤ 4294967296) (R : AV) (out : List AObj) (G : Int) (hG : r9 s = G) (hR : G0 G R out s) :
  zLp prog 138 [s.enc] [] R out := by
 have sc := Z5 s.first hpl
 by_cases hc0 : check s.first = 0
 ·rw [r9, if_pos hc0] at hG
  have v := (T1 s.first).1 hc0
  rw [hc0] at sc
  clear hc0
  by_cases h3 : 3 < s.steps.length
  ·have h3i : (s.steps.length : Int) > 3 := by omega
   rw [if_pos h3] at hG
   subst hG
   obtain ⟨rfl, rfl⟩ := hR.2 (by decide)
   clear hR
   refine q8 func138 rfl (fun E hE => ?_); simp only [go_sem, ntmps138]
   repeat' (first | (refine Qr rfl ?_; try intro _ hK; try simp only [go_sem, *]) | (refine Qi rfl rfl rfl rfl ?_ ?_ <;> (intro hb; (try intro _ hK); have hc := hb; try simp only [go_sem] at hc; simp only [go_sem, *])) | refine Qh rfl ?_ | refine Qd rfl (by kernel_rfl) ?_ | (refine Qc rfl rfl ?_ ?_ <;> (intro hb; have hc := hb; try simp only [go_sem] at hc)) | refine q6 rfl ?_ | (refine Qb ?_ ?_; focus kernel_rfl) | (refine y4 (sc) ?_; simp only [go_sem, *]) | ((with_reducible apply And.intro); focus omega) | (refine z8 hK ?_; clear hK; simp only [go_sem, *]) | simp only [z6, z7, go_sem, *])
   all_goals try contradiction
   all_goals (refine ⟨[_, _], [], [], ⟨rfl, rfl, trivial⟩, ?_⟩; simp only [go_sem, *])
  ·have h3i : ¬ (s.steps.length : Int) > 3 := by omega
   rw [if_neg h3] at hG
   refine q8 func138 rfl (fun E hE => ?_); simp only [go_sem, ntmps138]
   repeat' (first | (refine Qr rfl ?_; try intro _ hK; try simp only [go_sem, *]) | (refine Qi rfl rfl rfl rfl ?_ ?_ <;> (intro hb; (try intro _ hK); have hc := hb; try simp only [go_sem] at hc; simp only [go_sem, *])) | refine Qh rfl ?_ | refine Qd rfl (by kernel_rfl) ?_ | (refine Qc rfl rfl ?_ ?_ <;> (intro hb; have hc := hb; try simp only [go_sem] at hc)) | refine q6 rfl ?_ | (refine Qb ?_ ?_; focus kernel_rfl) | (refine y4 (sc) ?_; simp only [go_sem, *]) | ((with_reducible apply And.intro); focus omega) | (refine z8 hK ?_; clear hK; simp only [go_sem, *]) | simp only [z6, z7, go_sem, *])
   all_goals try contradiction
   refine u3 rfl (s.steps.length) (fun i => W2 s (s.steps.drop i) = G) 96 (fun i => [(25, iV i), (24, iV s.steps.length), (23, .list (s.steps.map i9)), (1, .ptr 0 0)]) (fun i => [.box [.list (s.first.map y7), .list (s.steps.map i9), .list (s.facts.map Fact.enc)]]) [some 0] [] (by exact hG) ?_; intro i hi hP
   clear hG
   by_cases hi2 : i < s.steps.length
   ·unfold W2 at hP
    rw [zIE hi2] at hP
    have hwi := hwl _ (w8 hi2)
    generalize hw : s.steps.getD i default = w at *
    by_cases hw0 : w.length = 0
    ·have hw0i : (w.length : Int) = 0 := by omega
     rw [if_pos hw0, if_neg (by decide)] at hP
     subst hP
     obtain ⟨rfl, rfl⟩ := hR.2 (by decide)
     clear hR
     repeat' (first | (refine Qr rfl ?_; try intro _ hK; try simp only [go_sem, *]) | (refine Qi rfl rfl rfl rfl ?_ ?_ <;> (intro hb; (try intro _ hK); have hc := hb; try simp only [go_sem] at hc; simp only [go_sem, *])) | refine Qh rfl ?_ | refine Qd rfl (by kernel_rfl) ?_ | (refine Qc rfl rfl ?_ ?_ <;> (intro hb; have hc := hb; try simp only [go_sem] at hc)) | refine q6 rfl ?_ | (refine Qb ?_ ?_; focus kernel_rfl) | ((with_reducible apply And.intro); focus omega) | (refine z8 hK ?_; clear hK; simp only [go_sem, *]) | simp only [z6, z7, go_sem, *])
     all_goals try contradiction
     (refine ⟨[_, _], [], [], ⟨rfl, rfl, trivial⟩, ?_⟩; simp only [go_sem, *])
    rw [if_neg hw0] at hP
    have hw0i : ¬ (w.length : Int) = 0 := by omega
    by_cases hw3 : 3 < w.length
    ·have hw3i : (w.length : Int) > 3 := by omega
     rw [if_pos hw3, if_neg (by decide)] at hP
     subst hP
     obtain ⟨rfl, rfl⟩ := hR.2 (by decide)
     clear hR
     repeat' (first | (refine Qr rfl ?_; try intro _ hK; try simp only [go_sem, *]) | (refine Qi rfl rfl rfl rfl ?_ ?_ <;> (intro hb; (try intro _ hK); have hc := hb; try simp only [go_sem] at hc; simp only [go_sem, *])) | refine Qh rfl ?_ | refine Qd rfl (by kernel_rfl) ?_ | (refine Qc rfl rfl ?_ ?_ <;> (intro hb; have hc := hb; try simp only [go_sem] at hc)) | refine q6 rfl ?_ | (refine Qb ?_ ?_; focus kernel_rfl) | ((with_reducible apply And.intro); focus omega) | (refine z8 hK ?_; clear hK; simp only [go_sem, *]) | simp only [z6, z7, go_sem, *])
     all_goals try contradiction
     (refine ⟨[_, _], [], [], ⟨rfl, rfl, trivial⟩, ?_⟩; simp only [go_sem, *])
    rw [if_neg hw3] at hP
    have hw3i : ¬ (w.length : Int) > 3 := by omega
    have hP0 : (if l2 (w.drop 0) = 0 then W2 s (s.steps.drop (i + 1)) else 8) = G := by
     rw [← hP, List.drop_zero]
     unfold W2
     split <;> rfl
    clear hP
    repeat' (first | (refine Qr rfl ?_; try intro _ hK; try simp only [go_sem, *]) | (refine Qi rfl rfl rfl rfl ?_ ?_ <;> (intro hb; (try intro _ hK); have hc := hb; try simp only [go_sem] at hc; simp only [go_sem, *])) | refine Qh rfl ?_ | refine Qd rfl (by kernel_rfl) ?_ | (refine Qc rfl rfl ?_ ?_ <;> (intro hb; have hc := hb; try simp only [go_sem] at hc)) | refine q6 rfl ?_ | (refine Qb ?_ ?_; focus kernel_rfl) | ((with_reducible apply And.intro); focus omega) | (refine z8 hK ?_; clear hK; simp only [go_sem, *]) | simp only [z6, z7, go_sem, *])
    all_goals try contradiction
    refine u3 rfl (w.length) (fun j => (if l2 (w.drop j) = 0 then W2 s (s.steps.drop (i + 1)) else 8) = G) 96 (fun j => [(40, iV j), (39, iV w.length), (38, .list (w.map Change.enc)), (25, iV i), (24, iV s.steps.length), (23, .list (s.steps.map i9)), (1, .ptr 0 0)]) (fun j => [.box [.list (s.first.map y7), .list (s.steps.map i9), .list (s.facts.map Fact.enc)]]) [some 0] [] (by exact hP0) ?_; intro j hj hQ
    by_cases hj : j < w.length
    ·rw [zIT hj] at hQ
     have sb := r8 (w.getD j default).kind 1 7
     by_cases hbt : zLr (w.getD j default).kind 1 7 = true
     ·rw [if_pos hbt] at hQ
      rw [hbt] at sb
      repeat' (first | (refine Qr rfl ?_; try intro _ hK; try simp only [go_sem, *]) | (refine Qi rfl rfl rfl rfl ?_ ?_ <;> (intro hb; (try intro _ hK); have hc := hb; try simp only [go_sem] at hc; simp only [go_sem, *])) | refine Qh rfl ?_ | refine Qd rfl (by kernel_rfl) ?_ | (refine Qc rfl rfl ?_ ?_ <;> (intro hb; have hc := hb; try simp only [go_sem] at hc)) | refine q6 rfl ?_ | (refine Qb ?_ ?_; focus kernel_rfl) | (refine y4 (sb) ?_; simp only [go_sem, *]) | ((with_reducible apply And.intro); focus omega) | (refine z8 hK ?_; clear hK; simp only [go_sem, *]) | simp only [z6, z7, go_sem, *])
      all_goals try contradiction
      exact u2 (i' := j + 1) [some 0] [] (by exact hQ)
     ·rw [if_neg hbt, if_neg (by decide)] at hQ
      rw [Bool.not_eq_true] at hbt
      rw [hbt] at sb
      subst hQ
      obtain ⟨rfl, rfl⟩ := hR.2 (by decide)
      clear hR
      repeat' (first | (refine Qr rfl ?_; try intro _ hK; try simp only [go_sem, *]) | (refine Qi rfl rfl rfl rfl ?_ ?_ <;> (intro hb; (try intro _ hK); have hc := hb; try simp only [go_sem] at hc; simp only [go_sem, *])) | refine Qh rfl ?_ | refine Qd rfl (by kernel_rfl) ?_ | (refine Qc rfl rfl ?_ ?_ <;> (intro hb; have hc := hb; try simp only [go_sem] at hc)) | refine q6 rfl ?_ | (refine Qb ?_ ?_; focus kernel_rfl) | (refine y4 (sb) ?_; simp only [go_sem, *]) | ((with_reducible apply And.intro); focus omega) | (refine z8 hK ?_; clear hK; simp only [go_sem, *]) | simp only [z6, z7, go_sem, *])
      all_goals try contradiction
      (refine ⟨[_, _], [], [], ⟨rfl, rfl, trivial⟩, ?_⟩; simp only [go_sem, *])
    ·rw [u7 (by omega), l2, if_pos rfl] at hQ
     repeat' (first | (refine Qr rfl ?_; try intro _ hK; try simp only [go_sem, *]) | (refine Qi rfl rfl rfl rfl ?_ ?_ <;> (intro hb; (try intro _ hK); have hc := hb; try simp only [go_sem] at hc; simp only [go_sem, *])) | refine Qh rfl ?_ | refine Qd rfl (by kernel_rfl) ?_ | (refine Qc rfl rfl ?_ ?_ <;> (intro hb; have hc := hb; try simp only [go_sem] at hc)) | refine q6 rfl ?_ | (refine Qb ?_ ?_; focus kernel_rfl) | ((with_reducible apply And.intro); focus omega) | (refine z8 hK ?_; clear hK; simp only [go_sem, *]) | simp only [z6, z7, go_sem, *])
     exact u2 (i' := i + 1) [some 0] [] (by exact hQ)
   ·rw [u7 (by omega), W2, Y2, if_pos rfl] at hP
    by_cases hf4 : 4 < s.facts.length
    ·have hf4i : (s.facts.length : Int) > 4 := by omega
     rw [L8, if_pos hf4] at hP
     subst hP
     obtain ⟨rfl, rfl⟩ := hR.2 (by decide)
     clear hR
     repeat' (first | (refine Qr rfl ?_; try intro _ hK; try simp only [go_sem, *]) | (refine Qi rfl rfl rfl rfl ?_ ?_ <;> (intro hb; (try intro _ hK); have hc := hb; try simp only [go_sem] at hc; simp only [go_sem, *])) | refine Qh rfl ?_ | refine Qd rfl (by kernel_rfl) ?_ | (refine Qc rfl rfl ?_ ?_ <;> (intro hb; have hc := hb; try simp only [go_sem] at hc)) | refine q6 rfl ?_ | (refine Qb ?_ ?_; focus kernel_rfl) | ((with_reducible apply And.intro); focus omega) | (refine z8 hK ?_; clear hK; simp only [go_sem, *]) | simp only [z6, z7, go_sem, *])
     all_goals try contradiction
     (refine ⟨[_, _], [], [], ⟨rfl, rfl, trivial⟩, ?_⟩; simp only [go_sem, *])
    have hf4i : ¬ (s.facts.length : Int) > 4 := by omega
    rw [L8, if_neg hf4] at hP
    repeat' (first | (refine Qr rfl ?_; try intro _ hK; try simp only [go_sem, *]) | (refine Qi rfl rfl rfl rfl ?_ ?_ <;> (intro hb; (try intro _ hK); have hc := hb; try simp only [go_sem] at hc; simp only [go_sem, *])) | refine Qh rfl ?_ | refine Qd rfl (by kernel_rfl) ?_ | (refine Qc rfl rfl ?_ ?_ <;> (intro hb; have hc := hb; try simp only [go_sem] at hc)) | refine q6 rfl ?_ | (refine Qb ?_ ?_; focus kernel_rfl) | (refine s8 (zC4 v) ?_; simp only [go_sem, *]) | ((with_reducible apply And.intro); focus omega) | (refine z8 hK ?_; clear hK; simp only [go_sem, *]) | simp only [z6, z7, go_sem, *])
    all_goals try contradiction
    clear hi2 hi
    refine u3 rfl (s.facts.length) (fun k => Q4 s.first (s.facts.drop k) = G) 96 (fun k => [(63, iV k), (62, iV s.facts.length), (61, .list (s.facts.map Fact.enc)), (9, .ptr 1 0), (1, .ptr 0 0)]) (fun k => [.box [.list (s.first.map y7), .list (s.steps.map i9), .list (s.facts.map Fact.enc)], .box [.list (s.first.map y7), .list (s.steps.map i9), .list (s.facts.map Fact.enc), .list ((q9 s.first).map House.enc)]]) [some 0, some 2] [1] (by exact hP) ?_; intro k hk hQ
    by_cases hk : k < s.facts.length
    ·rw [zEi hk] at hQ
     have hcn := v.count
     have hln := v.len
     have hwp : IntKind.i64.wrap ((s.first.length : Int) - 1) = (s.first.length : Int) - 1 := wrap_i64 (by omega) (by omega)
     have s1 := zAo (q9 s.first) (s.facts.getD k default).src (by omega)
     have s2 := r8 (s.facts.getD k default).dst.street 0 ((s.first.length : Int) - 1)
     have s3 := zC9 (s.facts.getD k default).dst.plate
     by_cases q1 : (s.facts.getD k default).src ∈ q9 s.first
     ·by_cases q2 : zLr (s.facts.getD k default).dst.street 0 ((s.first.length : Int) - 1) = true
      ·rw [if_pos ⟨q1, q2⟩] at hQ
       have q1' : decide ((s.facts.getD k default).src ∈ q9 s.first) = true := by simpa using q1
       rw [q1'] at s1
       rw [q2] at s2
       by_cases q3 : (s.facts.getD k default).dst.plate.ok = true
       ·rw [if_pos q3] at hQ
        rw [q3] at s3
        clear q1 q1' q2 q3
        repeat' (first | (refine Qr rfl ?_; try intro _ hK; try simp only [go_sem, *]) | (refine Qi rfl rfl rfl rfl ?_ ?_ <;> (intro hb; (try intro _ hK); have hc := hb; try simp only [go_sem] at hc; simp only [go_sem, *])) | refine Qh rfl ?_ | refine Qd rfl (by kernel_rfl) ?_ | (refine Qc rfl rfl ?_ ?_ <;> (intro hb; have hc := hb; try simp only [go_sem] at hc)) | refine q6 rfl ?_ | (refine Qb ?_ ?_; focus kernel_rfl) | ((first | refine y4 (s1) ?_ | refine y4 (s2) ?_ | refine y4 (s3) ?_); simp only [go_sem, *]) | ((with_reducible apply And.intro); focus omega) | (refine z8 hK ?_; clear hK; simp only [go_sem, *]) | simp only [z6, z7, go_sem, *])
        all_goals try contradiction
        exact u2 (i' := k + 1) [some 0, some 1] [] (by exact hQ)
       ·rw [if_neg q3] at hQ
        rw [Bool.not_eq_true] at q3
        rw [q3] at s3
        clear q1 q1' q2 q3
        subst hQ
        obtain ⟨rfl, rfl⟩ := hR.2 (by decide)
        clear hR
        repeat' (first | (refine Qr rfl ?_; try intro _ hK; try simp only [go_sem, *]) | (refine Qi rfl rfl rfl rfl ?_ ?_ <;> (intro hb; (try intro _ hK); have hc := hb; try simp only [go_sem] at hc; simp only [go_sem, *])) | refine Qh rfl ?_ | refine Qd rfl (by kernel_rfl) ?_ | (refine Qc rfl rfl ?_ ?_ <;> (intro hb; have hc := hb; try simp only [go_sem] at hc)) | refine q6 rfl ?_ | (refine Qb ?_ ?_; focus kernel_rfl) | ((first | refine y4 (s1) ?_ | refine y4 (s2) ?_ | refine y4 (s3) ?_); simp only [go_sem, *]) | ((with_reducible apply And.intro); focus omega) | (refine z8 hK ?_; clear hK; simp only [go_sem, *]) | simp only [z6, z7, go_sem, *])
        all_goals try contradiction
        (refine ⟨[_, _], [], [], ⟨rfl, rfl, trivial⟩, ?_⟩; simp only [go_sem, *])
      ·rw [if_neg (fun h => q2 h.2)] at hQ
       have q1' : decide ((s.facts.getD k default).src ∈ q9 s.first) = true := by simpa using q1
       rw [q1'] at s1
       rw [Bool.not_eq_true] at q2
       rw [q2] at s2
       clear q1 q1' q2
       subst hQ
       obtain ⟨rfl, rfl⟩ := hR.2 (by decide)
       clear hR
       repeat' (first | (refine Qr rfl ?_; try intro _ hK; try simp only [go_sem, *]) | (refine Qi rfl rfl rfl rfl ?_ ?_ <;> (intro hb; (try intro _ hK); have hc := hb; try simp only [go_sem] at hc; simp only [go_sem, *])) | refine Qh rfl ?_ | refine Qd rfl (by kernel_rfl) ?_ | (refine Qc rfl rfl ?_ ?_ <;> (intro hb; have hc := hb; try simp only [go_sem] at hc)) | refine q6 rfl ?_ | (refine Qb ?_ ?_; focus kernel_rfl) | ((first | refine y4 (s1) ?_ | refine y4 (s2) ?_ | refine y4 (s3) ?_); simp only [go_sem, *]) | ((with_reducible apply And.intro); focus omega) | (refine z8 hK ?_; clear hK; simp only [go_sem, *]) | simp only [z6, z7, go_sem, *])
       all_goals try contradiction
       (refine ⟨[_, _], [], [], ⟨rfl, rfl, trivial⟩, ?_⟩; simp only [go_sem, *])
     ·rw [if_neg (fun h => q1 h.1)] at hQ
      have q1' : decide ((s.facts.getD k default).src ∈ q9 s.first) = false := by simpa using q1
      rw [q1'] at s1
      clear q1 q1'
      subst hQ
      obtain ⟨rfl, rfl⟩ := hR.2 (by decide)
      clear hR
      repeat' (first | (refine Qr rfl ?_; try intro _ hK; try simp only [go_sem, *]) | (refine Qi rfl rfl rfl rfl ?_ ?_ <;> (intro hb; (try intro _ hK); have hc := hb; try simp only [go_sem] at hc; simp only [go_sem, *])) | refine Qh rfl ?_ | refine Qd rfl (by kernel_rfl) ?_ | (refine Qc rfl rfl ?_ ?_ <;> (intro hb; have hc := hb; try simp only [go_sem] at hc)) | refine q6 rfl ?_ | (refine Qb ?_ ?_; focus kernel_rfl) | ((first | refine y4 (s1) ?_ | refine y4 (s2) ?_ | refine y4 (s3) ?_); simp only [go_sem, *]) | ((with_reducible apply And.intro); focus omega) | (refine z8 hK ?_; clear hK; simp only [go_sem, *]) | simp only [z6, z7, go_sem, *])
      all_goals try contradiction
      (refine ⟨[_, _], [], [], ⟨rfl, rfl, trivial⟩, ?_⟩; simp only [go_sem, *])
    ·rw [u7 (by omega), Q4] at hQ
     obtain ⟨rfl, rfl⟩ := hR.1 hQ.symm
     clear hR
     repeat' (first | (refine Qr rfl ?_; try intro _ hK; try simp only [go_sem, *]) | (refine Qi rfl rfl rfl rfl ?_ ?_ <;> (intro hb; (try intro _ hK); have hc := hb; try simp only [go_sem] at hc; simp only [go_sem, *])) | refine Qh rfl ?_ | refine Qd rfl (by kernel_rfl) ?_ | (refine Qc rfl rfl ?_ ?_ <;> (intro hb; have hc := hb; try simp only [go_sem] at hc)) | refine q6 rfl ?_ | (refine Qb ?_ ?_; focus kernel_rfl) | ((with_reducible apply And.intro); focus omega) | (refine z8 hK ?_; clear hK; simp only [go_sem, *]) | simp only [z6, z7, go_sem, *])
     refine ⟨[_, _], [some 1], [], ⟨rfl, rfl, trivial⟩, ?_⟩
     simp only [go_sem, *]
 ·have e : (check s.first == 0) = false := by simpa using hc0
  have e2 : (check s.first != 0) = true := by simpa using hc0
  rw [r9, if_neg hc0] at hG
  obtain ⟨rfl, rfl⟩ := hR.2 (by rw [← hG]; exact hc0)
  subst hG
  clear hR hc0
  generalize check s.first = k at *
  refine q8 func138 rfl (fun E hE => ?_); simp only [go_sem, ntmps138]
  repeat' (first | (refine Qr rfl ?_; try intro _ hK; try simp only [go_sem, *]) | (refine Qi rfl rfl rfl rfl ?_ ?_ <;> (intro hb; (try intro _ hK); have hc := hb; try simp only [go_sem] at hc; simp only [go_sem, *])) | refine Qh rfl ?_ | refine Qd rfl (by kernel_rfl) ?_ | (refine Qc rfl rfl ?_ ?_ <;> (intro hb; have hc := hb; try simp only [go_sem] at hc)) | refine q6 rfl ?_ | (refine Qb ?_ ?_; focus kernel_rfl) | (refine y4 (sc) ?_; simp only [go_sem, *]) | ((with_reducible apply And.intro); focus omega) | (refine z8 hK ?_; clear hK; simp only [go_sem, *]) | simp only [z6, z7, go_sem, *])
  all_goals try contradiction
  all_goals (refine ⟨[_, _], [], [], ⟨rfl, rfl, trivial⟩, ?_⟩; simp only [go_sem, *])
end Go.Abs

namespace Go.Abs
open Go Go.Proofs Tryz
attribute [local irreducible] y6 Hold x8
structure Truth where
 ways : List Int
 fin : zLo
 now : House → List House
@[reducible] def Truth.enc (p : zLo) (t : Truth) : AV := .agg [.list (t.ways.map iV), .list (t.fin.map y7), .fmap (w5 p) (w4 p t.now)]
attribute [go_sem] Truth.enc
def f7 (l : List Fact) (t : Truth) : Bool := l.all fun f => decide (f.dst ∈ t.now f.src)
theorem zEl {l : List Fact} {t : Truth} {i : Nat} (h : i < l.length) : f7 (l.drop i) t = (decide ((l.getD i default).dst ∈ t.now (l.getD i default).src) && f7 (l.drop (i + 1)) t) := by
 rw [u0 h]; simp [f7]
theorem zHk (s : Story) (t : Truth) (v : Valid s.first) (hf : s.facts.length ≤ 1000) (hsrc : ∀ f, f ∈ s.facts → f.src ∈ q9 s.first) (hnl : ∀ h, h ∈ q9 s.first → (t.now h).length ≤ 1000) (b : Bool) (hb0 : f7 (s.facts.drop 0) t = b) :
  zLp prog 163 [.ptr 0 0, t.enc s.first] [l0 s] (bV b) [l0 s] := by
 have hw := v.wf
 refine q8 func163 rfl (fun E hE => ?_); simp only [go_sem, ntmps163]
 repeat' (first | (refine Qr rfl ?_; try intro _ hK; try simp only [go_sem, *]) | refine Qh rfl ?_ | refine Qd rfl (by kernel_rfl) ?_ | (refine Qc rfl rfl ?_ ?_ <;> (intro hb; have hc := hb; try simp only [go_sem] at hc)) | refine q6 rfl ?_ | (refine Qb ?_ ?_; focus kernel_rfl) | ((with_reducible apply And.intro); focus omega) | (refine z8 hK ?_; clear hK; simp only [go_sem, *]) | simp only [z6, z7, go_sem, *])
 refine u3 rfl (s.facts.length) (fun i => f7 (s.facts.drop i) t = b) 27 (fun i => [(13, iV i), (12, iV s.facts.length), (11, .list (s.facts.map Fact.enc)), (3, .ptr 1 0)]) (fun i => [l0 s, .box [.list (t.ways.map iV), .list (t.fin.map y7), .fmap (w5 s.first) (w4 s.first t.now)]]) [some 0, some 1] [] (by exact hb0) ?_; intro i hi hP
 by_cases hi2 : i < s.facts.length
 ·rw [zEl hi2] at hP
  have hm := hsrc _ (w8 hi2)
  have hl := hnl _ hm
  have hwf := hw _ hm
  have sc := zAo (t.now (s.facts.getD i default).src) (s.facts.getD i default).dst (by omega)
  by_cases q : (s.facts.getD i default).dst ∈ t.now (s.facts.getD i default).src
  ·have q' : decide ((s.facts.getD i default).dst ∈ t.now (s.facts.getD i default).src) = true := by simpa using q
   rw [q', Bool.true_and] at hP
   rw [q'] at sc
   clear q q'
   repeat' (first | (refine Qr rfl ?_; try intro _ hK; try simp only [go_sem, *]) | refine Qh rfl ?_ | refine Qd rfl (by kernel_rfl) ?_ | (refine Qc rfl rfl ?_ ?_ <;> (intro hb; have hc := hb; try simp only [go_sem] at hc)) | refine q6 rfl ?_ | (refine Qb ?_ ?_; focus kernel_rfl) | ((with_reducible apply And.intro); focus omega) | (refine z8 hK ?_; clear hK; simp only [go_sem, *]) | simp only [z6, z7, go_sem, *])
   refine V7 (h := (s.facts.getD i default).src) (hs := q9 s.first) (F := zLs t.now) hw hwf ?_
   rw [if_pos hm, zLs]
   repeat' (first | (refine Qr rfl ?_; try intro _ hK; try simp only [go_sem, *]) | refine Qh rfl ?_ | refine Qd rfl (by kernel_rfl) ?_ | (refine Qc rfl rfl ?_ ?_ <;> (intro hb; have hc := hb; try simp only [go_sem] at hc)) | refine q6 rfl ?_ | (refine Qb ?_ ?_; focus kernel_rfl) | (refine y4 (sc) ?_; simp only [go_sem, *]) | ((with_reducible apply And.intro); focus omega) | (refine z8 hK ?_; clear hK; simp only [go_sem, *]) | simp only [z6, z7, go_sem, *])
   all_goals try contradiction
   exact u2 (i' := i + 1) [some 0, some 1] [] (by exact hP)
  ·have q' : decide ((s.facts.getD i default).dst ∈ t.now (s.facts.getD i default).src) = false := by simpa using q
   rw [q', Bool.false_and] at hP
   rw [q'] at sc
   clear q q'
   subst hP
   repeat' (first | (refine Qr rfl ?_; try intro _ hK; try simp only [go_sem, *]) | refine Qh rfl ?_ | refine Qd rfl (by kernel_rfl) ?_ | (refine Qc rfl rfl ?_ ?_ <;> (intro hb; have hc := hb; try simp only [go_sem] at hc)) | refine q6 rfl ?_ | (refine Qb ?_ ?_; focus kernel_rfl) | ((with_reducible apply And.intro); focus omega) | (refine z8 hK ?_; clear hK; simp only [go_sem, *]) | simp only [z6, z7, go_sem, *])
   refine V7 (h := (s.facts.getD i default).src) (hs := q9 s.first) (F := zLs t.now) hw hwf ?_
   rw [if_pos hm, zLs]
   repeat' (first | (refine Qr rfl ?_; try intro _ hK; try simp only [go_sem, *]) | refine Qh rfl ?_ | refine Qd rfl (by kernel_rfl) ?_ | (refine Qc rfl rfl ?_ ?_ <;> (intro hb; have hc := hb; try simp only [go_sem] at hc)) | refine q6 rfl ?_ | (refine Qb ?_ ?_; focus kernel_rfl) | (refine y4 (sc) ?_; simp only [go_sem, *]) | ((with_reducible apply And.intro); focus omega) | (refine z8 hK ?_; clear hK; simp only [go_sem, *]) | simp only [z6, z7, go_sem, *])
   all_goals try contradiction
   refine ⟨[_], [some 0], [], ⟨rfl, trivial⟩, ?_⟩
   simp only [go_sem, *]
 ·rw [u7 (by omega)] at hP
  subst hP
  repeat' (first | (refine Qr rfl ?_; try intro _ hK; try simp only [go_sem, *]) | refine Qh rfl ?_ | refine Qd rfl (by kernel_rfl) ?_ | (refine Qc rfl rfl ?_ ?_ <;> (intro hb; have hc := hb; try simp only [go_sem] at hc)) | refine q6 rfl ?_ | (refine Qb ?_ ?_; focus kernel_rfl) | ((with_reducible apply And.intro); focus omega) | (refine z8 hK ?_; clear hK; simp only [go_sem, *]) | simp only [z6, z7, go_sem, *])
  refine ⟨[_], [some 0], [], ⟨rfl, trivial⟩, ?_⟩
  simp only [go_sem, *]
  simp [f7]
end Go.Abs

namespace Go.Abs
open Go
instance : Inhabited Truth := ⟨⟨[], [], fun _ => []⟩⟩
def w9 (s : Story) (k : Nat) : List Change := s.steps.getD k default
def n0 (t : Truth) (c : Change) (i : Nat) : Truth := ⟨t.ways ++ [(i : Int)], s9 t.fin c, U6 t.now (mv t.fin c)⟩
def p7 (s : Story) : Nat → Truth → List Truth
 | 0, t => if f7 s.facts t = true then [t] else []
 | n + 1, t => (List.range' 0 (w9 s t.ways.length).length).flatMap fun i => if can t.fin ((w9 s t.ways.length).getD i default) = 0 then p7 s n (n0 t ((w9 s t.ways.length).getD i default) i) else []
def j5 (s : Story) (n : Nat) (t : Truth) (i : Nat) : List Truth :=
 (List.range' i ((w9 s t.ways.length).length - i)).flatMap fun i => if can t.fin ((w9 s t.ways.length).getD i default) = 0 then p7 s n (n0 t ((w9 s t.ways.length).getD i default) i) else []
theorem G8 {s : Story} {t : Truth} : p7 s 0 t = if f7 s.facts t = true then [t] else [] := by rw [p7]
theorem zFN {s : Story} {n : Nat} {t : Truth} : p7 s (n + 1) t = j5 s n t 0 := by rw [p7, j5, Nat.sub_zero]
theorem zBp {s : Story} {n i : Nat} {t : Truth} (h : i < (w9 s t.ways.length).length) :
  j5 s n t i = (if can t.fin ((w9 s t.ways.length).getD i default) = 0 then p7 s n (n0 t ((w9 s t.ways.length).getD i default) i) else []) ++ j5 s n t (i + 1) := by
 unfold j5
 rw [show (w9 s t.ways.length).length - i = ((w9 s t.ways.length).length - (i + 1)) + 1 by omega, List.range'_succ, List.flatMap_cons]
theorem zFM {s : Story} {n i : Nat} {t : Truth} (h : i < (w9 s t.ways.length).length) (hc : can t.fin ((w9 s t.ways.length).getD i default) = 0) :
  j5 s n t i = p7 s n (n0 t ((w9 s t.ways.length).getD i default) i) ++ j5 s n t (i + 1) := by rw [zBp h, if_pos hc]
theorem zFL {s : Story} {n i : Nat} {t : Truth} (h : i < (w9 s t.ways.length).length) (hc : can t.fin ((w9 s t.ways.length).getD i default) ≠ 0) :
  j5 s n t i = j5 s n t (i + 1) := by rw [zBp h, if_neg hc, List.nil_append]
theorem zFK {s : Story} {n i : Nat} {t : Truth} (h : (w9 s t.ways.length).length ≤ i) : j5 s n t i = [] := by
 unfold j5
 rw [show (w9 s t.ways.length).length - i = 0 by omega]; rfl
def Y8 (s : Story) : Truth := ⟨[], s.first, fun h => [h]⟩
def r5 (s : Story) : List Truth := p7 s s.steps.length (Y8 s)
structure TOk (s : Story) (n : Nat) (t : Truth) : Prop where
 steps : t.ways.length + n = s.steps.length
 val : Valid t.fin
 town : t.fin.length = s.first.length
 strict : ∀ h, h ∈ q9 s.first → Strict (t.now h)
 mem : ∀ h, h ∈ q9 s.first → ∀ x, x ∈ t.now h → x ∈ q9 t.fin
 len : ∀ h, h ∈ q9 s.first → (t.now h).length ≤ 2 ^ t.ways.length
theorem A6 {s : Story} (v : Valid s.first) : TOk s s.steps.length (Y8 s) where
 steps := by simp [Y8]
 val := v
 town := rfl
 strict := fun h _ => by simp [Y8]
 mem := fun h hh x hx => by
  have : x = h := by simpa [Y8] using hx
  rw [this]; exact hh
 len := fun h _ => by simp [Y8]
theorem TOk.flat_nodup {s : Story} {n : Nat} {t : Truth} (o : TOk s n t) {c : Change} (f : Fit t.fin c) {h : House} (hh : h ∈ q9 s.first) : ((t.now h).flatMap (mv t.fin c)).Nodup :=
 zAc (o.strict h hh).nodup (fun a ha => zCS f (o.mem h hh a ha)) (fun a b ha hb z hz1 hz2 => zCR o.val f (o.mem h hh a ha) (o.mem h hh b hb) hz1 hz2)
theorem flat_len {f : House → List House} (hf : ∀ h, (f h).length ≤ 2) : ∀ l : List House, (l.flatMap f).length ≤ 2 * l.length
 | [] => by simp
 | x :: r => by
  have := flat_len hf r
  have := hf x
  simp only [List.flatMap_cons, List.length_append, List.length_cons]; omega
theorem TOk.flat_len {s : Story} {n : Nat} {t : Truth} (o : TOk s n t) {c : Change} (f : Fit t.fin c) {h : House} (hh : h ∈ q9 s.first) : ((t.now h).flatMap (mv t.fin c)).length ≤ 2 * 2 ^ t.ways.length := by
 have := Go.Abs.flat_len (fun x => zAb f x) (t.now h)
 have := o.len h hh
 omega
theorem TOk.next {s : Story} {n : Nat} {t : Truth} (o : TOk s (n + 1) t) {c : Change} (hc : can t.fin c = 0) (i : Nat) : TOk s n (n0 t c i) := by
 have f := Fit.of_can hc
 have hn : ∀ h, (n0 t c i).now h = s6 ((t.now h).flatMap (mv t.fin c)) := fun _ => rfl
 refine ⟨?_, zDW o.val f, ?_, fun h hh => ?_, fun h hh x hx => ?_, fun h hh => ?_⟩
 ·have := o.steps; simp [n0]; omega
 ·have := o.town
  simp only [n0, s9, O5]; exact this
 ·rw [hn]; exact R3 _
 ·rw [hn, mem_sortH] at hx
  obtain ⟨a, ha, hx⟩ := List.mem_flatMap.1 hx
  show x ∈ q9 (s9 t.fin c)
  rw [zFo o.val f, mem_sortH]
  exact mem_flatMv.2 ⟨a, o.mem h hh a ha, hx⟩
 ·rw [hn]
  have h1 := N2 (R3 ((t.now h).flatMap (mv t.fin c))).nodup (b := (t.now h).flatMap (mv t.fin c)) (fun x hx => mem_sortH.1 hx)
  have h2 := o.flat_len f hh
  have : (n0 t c i).ways.length = t.ways.length + 1 := by simp [n0]
  rw [this, Nat.pow_succ]; omega
theorem TOk.small {s : Story} {n : Nat} {t : Truth} (o : TOk s n t) (h3 : s.steps.length ≤ 3) {h : House} (hh : h ∈ q9 s.first) : (t.now h).length ≤ 8 := by
 have h1 := o.len h hh
 have h2 : t.ways.length ≤ 3 := by have := o.steps; omega
 have : 2 ^ t.ways.length ≤ 2 ^ 3 := Nat.pow_le_pow_right (by omega) h2
 omega
theorem TOk.small2 {s : Story} {n : Nat} {t : Truth} (o : TOk s (n + 1) t) (h3 : s.steps.length ≤ 3) {c : Change} (f : Fit t.fin c) {h : House} (hh : h ∈ q9 s.first) : ((t.now h).flatMap (mv t.fin c)).length ≤ 8 := by
 have h1 := o.flat_len f hh
 have h2 : t.ways.length ≤ 2 := by have := o.steps; omega
 have : 2 ^ t.ways.length ≤ 2 ^ 2 := Nat.pow_le_pow_right (by omega) h2
 omega
theorem zBr {s : Story} : ∀ (n : Nat) {t : Truth}, TOk s n t → ∀ x, x ∈ p7 s n t → TOk s 0 x
 | 0, t, o, x, hx => by
  rw [G8] at hx
  split at hx
  ·have : x = t := by simpa using hx
   rw [this]; exact o
  ·simp at hx
 | n + 1, t, o, x, hx => by
  rw [p7] at hx
  obtain ⟨i, _, hx⟩ := List.mem_flatMap.1 hx
  split at hx
  ·rename_i hc
   exact zBr n (o.next hc i) x hx
  ·simp at hx
theorem zBq {s : Story} (hw : ∀ w, w ∈ s.steps → w.length ≤ 3) : ∀ (n : Nat) (t : Truth), (p7 s n t).length ≤ 3 ^ n
 | 0, t => by
  rw [G8]
  split <;> simp
 | n + 1, t => by
  rw [p7]
  have hl : (w9 s t.ways.length).length ≤ 3 := by
   unfold w9
   by_cases h : t.ways.length < s.steps.length
   ·exact hw _ (w8 h)
   ·have e : s.steps[t.ways.length]? = none := List.getElem?_eq_none (by omega)
    simp only [List.getD, e, Option.getD_none]; show ([] : List Change).length ≤ 3; simp
  have key : ∀ (k i : Nat) (g : Nat → List Truth), (∀ i, (g i).length ≤ 3 ^ n) → ((List.range' i k).flatMap g).length ≤ k * 3 ^ n := by
   intro k
   induction k with
   | zero => intro i g _; simp
   | succ k ih =>
    intro i g hg
    rw [List.range'_succ, List.flatMap_cons, List.length_append, Nat.succ_mul]
    have := ih (i + 1) g hg
    have := hg i
    omega
  refine Nat.le_trans (key _ 0 _ (fun i => ?_)) (Nat.le_trans (Nat.mul_le_mul_right (3 ^ n) hl) (by rw [Nat.pow_succ]; omega))
  split
  ·exact zBq hw n _
  ·simp
theorem zDU {s : Story} (v : Valid s.first) : ∀ x, x ∈ r5 s → TOk s 0 x := zBr _ (A6 v)
theorem H0 {s : Story} (h3 : s.steps.length ≤ 3) (hw : ∀ w, w ∈ s.steps → w.length ≤ 3) : (r5 s).length ≤ 27 :=
 Nat.le_trans (zBq hw _ _) (Nat.pow_le_pow_right (by omega) h3 : 3 ^ s.steps.length ≤ 3 ^ 3)
theorem zDa : ∀ {l : List Change}, l2 l = 0 ↔ ∀ c, c ∈ l → zLr c.kind 1 7 = true
 | [] => by simp [l2]
 | c :: r => by
  rw [l2]
  split
  ·rename_i h; rw [zDa]; simp [h]
  ·rename_i h
   constructor
   ·intro e; omega
   ·intro e; exact absurd (e c (by simp)) h
theorem stepsErr_zero : ∀ {l : List (List Change)}, Y2 l = 0 ↔ ∀ w, w ∈ l → 0 < w.length ∧ w.length ≤ 3 ∧ l2 w = 0
 | [] => by simp [Y2]
 | w :: r => by
  rw [Y2]
  split
  ·rename_i h
   constructor
   ·intro e; omega
   ·intro e; have := e w (by simp); omega
  ·split
   ·rename_i h
    constructor
    ·intro e; omega
    ·intro e; have := e w (by simp); omega
   ·split
    ·rename_i h1 h2 h3
     rw [stepsErr_zero]
     constructor
     ·intro e x hx
      rcases List.mem_cons.1 hx with rfl | hx
      ·exact ⟨by omega, by omega, h3⟩
      ·exact e x hx
     ·intro e x hx; exact e x (by simp [hx])
    ·rename_i h3
     constructor
     ·intro e; omega
     ·intro e; exact absurd (e w (by simp)).2.2 h3
theorem factsErr_zero {p : zLo} : ∀ {l : List Fact}, Q4 p l = 0 ↔ ∀ f, f ∈ l → f.src ∈ q9 p ∧ zLr f.dst.street 0 (p.length - 1) = true ∧ f.dst.plate.ok = true
 | [] => by simp [Q4]
 | f :: r => by
  rw [Q4]
  split
  ·rename_i h
   split
   ·rename_i h2; rw [factsErr_zero]; simp [h, h2]
   ·rename_i h2
    constructor
    ·intro e; omega
    ·intro e; exact absurd (e f (by simp)).2.2 h2
  ·rename_i h
   constructor
   ·intro e; omega
   ·intro e; exact absurd ⟨(e f (by simp)).1, (e f (by simp)).2.1⟩ h
structure Told (s : Story) : Prop where
 first : Valid s.first
 steps : s.steps.length ≤ 3
 ways : ∀ w, w ∈ s.steps → 0 < w.length ∧ w.length ≤ 3 ∧ l2 w = 0
 facts : s.facts.length ≤ 4
 fact : ∀ f, f ∈ s.facts → f.src ∈ q9 s.first ∧ zLr f.dst.street 0 (s.first.length - 1) = true ∧ f.dst.plate.ok = true
theorem C2 {s : Story} (h : r9 s = 0) : Told s := by
 unfold r9 at h
 split at h
 ·rename_i h1
  split at h
  ·omega
  ·rename_i h2
   unfold W2 at h
   split at h
   ·rename_i h3
    unfold L8 at h
    split at h
    ·omega
    ·rename_i h4
     exact ⟨(T1 _).1 h1, by omega, stepsErr_zero.1 h3, by omega, factsErr_zero.1 h⟩
   ·rename_i h3; exact absurd h h3
 ·rename_i h1; exact absurd h h1
end Go.Abs

namespace Go.Abs
open Go
structure Dice where
 list : List Int
 at_ : Nat
 seed : Int
 deriving Inhabited
abbrev uV (n : Int) : AV := .raw (.int .u64 n)
def u9 (d : Dice) : AObj := .box [.list (d.list.map iV), iV d.at_, uV d.seed]
def Z9 (a b : Int) : Int := IntKind.u64.wrap (BitVec.ofInt IntKind.u64.bits a ^^^ BitVec.ofInt IntKind.u64.bits b).toNat
def J9 (a : Int) (k : Nat) : Int := IntKind.u64.wrap (a * 2 ^ (min k IntKind.u64.bits))
def k9 (a : Int) (k : Nat) : Int := a.fdiv (2 ^ (min k IntKind.u64.bits))
def zMq (s : Int) : Int := Z9 s (J9 s 13)
def zMr (s : Int) : Int := Z9 s (k9 s 7)
def zMs (s : Int) : Int := Z9 s (J9 s 17)
def J2 (s : Int) : Int := zMs (zMr (zMq s))
def zMN (d : Dice) : Int := if d.at_ < d.list.length then IntKind.u64.wrap (J2 d.seed + IntKind.u64.wrap (IntKind.u64.wrap (d.list.getD d.at_ default) * 13787848793156543929)) else J2 d.seed
def zMH (d : Dice) : Dice := ⟨d.list, if d.at_ < d.list.length then d.at_ + 1 else d.at_, zMN d⟩
def zMk (n : Int) : Int := IntKind.u64.wrap (Z9 n (k9 n 30) * 10723151780598845931)
def zMJ (d : Dice) : Int := Z9 (zMk (zMN d)) (k9 (zMk (zMN d)) 31)
theorem zIW (n : Int) : 0 ≤ IntKind.u64.wrap n ∧ IntKind.u64.wrap n < 18446744073709551616 := by
 rw [IntKind.wrap_u64]; omega
theorem zGn (d : Dice) : 0 ≤ zMJ d ∧ zMJ d < 18446744073709551616 := zIW _
def toN (n : Int) (d : Dice) : Int := if n < 1 then 0 else (k9 (zMJ d) 16).tmod (n + 1)
def toD (n : Int) (d : Dice) : Dice := if n < 1 then d else zMH d
theorem zG7 (n : Int) (h0 : 0 ≤ n) : 0 ≤ k9 n 16 := by
 unfold k9
 rw [Int.fdiv_eq_ediv_of_nonneg _ (by decide)]
 exact Int.ediv_nonneg h0 (by decide)
theorem C3 (n : Int) (d : Dice) : 0 ≤ toN n d ∧ (toN n d ≤ n ∨ toN n d = 0) := by
 unfold toN
 split
 ·omega
 ·have h := zG7 _ (zGn d).1
  rw [Int.tmod_eq_emod_of_nonneg h]
  have h1 := Int.emod_nonneg (k9 (zMJ d) 16) (b := n + 1) (by omega)
  have h2 := Int.emod_lt_of_pos (k9 (zMJ d) 16) (b := n + 1) (by omega)
  omega
theorem Y4 {n : Int} (h : 0 ≤ n) (d : Dice) : 0 ≤ toN n d ∧ toN n d ≤ n := by
 have := C3 n d; omega
def u6 (lo hi : Int) (d : Dice) : Int := lo + toN (hi - lo) d
def w7 (lo hi : Int) (d : Dice) : Dice := toD (hi - lo) d
theorem b8 {lo hi : Int} (h : lo ≤ hi) (d : Dice) : lo ≤ u6 lo hi d ∧ u6 lo hi d ≤ hi := by
 have := Y4 (n := hi - lo) (by omega) d
 unfold u6; omega
def i5 (k : Int) (d : Dice) : Bool := toN (k - 1) d == 0
def t7 (k : Int) (d : Dice) : Dice := toD (k - 1) d
def l6 (x : Plate) : List Plate → List Plate
 | [] => [x]
 | y :: r => if y.lt x = true then y :: l6 x r else if y = x then y :: r else x :: y :: r
def N7 (n : Int) (b : Bool) (k : Int) (dy dn : Dice) : Plate × Dice := if b = true then (⟨n, k⟩, dy) else (⟨n, 0⟩, dn)
def Y1 (d : Dice) : Plate × Dice := N7 (u6 1 9 d) (i5 4 (w7 1 9 d)) (u6 1 2 (t7 4 (w7 1 9 d))) (w7 1 2 (t7 4 (w7 1 9 d))) (t7 4 (w7 1 9 d))
def U0 : Nat → Dice → List Plate → List Plate × Dice
 | 0, d, out => (out, d)
 | n + 1, d, out => U0 n (Y1 d).2 (l6 (Y1 d).1 out)
def Z3 (d : Dice) (most : Int) : List Plate × Dice := U0 (toN most d).toNat (toD most d) []
def f9 (d : Dice) (houses : Int) : List Plate × Dice := Z3 (t7 3 d) (if i5 3 d = true then 0 else houses)
def Z7 (houses : Int) : Nat → Dice → zLo → zLo × Dice
 | 0, d, out => (out, d)
 | n + 1, d, out => Z7 houses n (f9 d houses).2 (out ++ [(f9 d houses).1])
def f8 (d : Dice) (houses : Int) : zLo × Dice := Z7 houses (u6 1 3 d).toNat (w7 1 3 d) []
theorem mem_insPl {x z : Plate} : ∀ {l : List Plate}, z ∈ l6 x l ↔ z = x ∨ z ∈ l
 | [] => by simp [l6]
 | y :: r => by
  simp only [l6]
  split
  ·simp only [List.mem_cons, mem_insPl (l := r)]
   constructor
   ·rintro (h | h | h) <;> simp [h]
   ·rintro (h | h | h) <;> simp [h]
  ·split
   ·rename_i e; subst e; simp
   ·simp
theorem zDN {x : Plate} : ∀ {l : List Plate}, l.Pairwise (fun a b => a.lt b = true) → (l6 x l).Pairwise (fun a b => a.lt b = true)
 | [], _ => by simp [l6]
 | y :: r, h => by
  obtain ⟨h1, h2⟩ := List.pairwise_cons.1 h
  simp only [l6]
  split
  ·rename_i hy
   refine List.pairwise_cons.2 ⟨fun z hz => ?_, zDN h2⟩
   rcases mem_insPl.1 hz with rfl | hz
   ·exact hy
   ·exact h1 z hz
  ·rename_i hy
   split
   ·exact h
   ·rename_i hne
    have hxy : x.lt y = true := by
     rcases Plate.lt_tri x y with h | h | h
     ·exact h
     ·exact absurd h.symm hne
     ·exact absurd h hy
    refine List.pairwise_cons.2 ⟨fun z hz => ?_, h⟩
    rcases List.mem_cons.1 hz with rfl | hz
    ·exact hxy
    ·exact Plate.lt_trans hxy (h1 z hz)
theorem zAL {x : Plate} : ∀ {l : List Plate}, (l6 x l).length ≤ l.length + 1
 | [] => by simp [l6]
 | y :: r => by
  simp only [l6]
  split
  ·simp only [List.length_cons]; have := zAL (x := x) (l := r); omega
  ·split <;> simp
theorem zAK {x : Plate} : ∀ {l : List Plate} {k : Nat}, k ≤ l.length → (∀ j, j < k → (l.getD j default).lt x = true) → (k < l.length → (l.getD k default).lt x = false) →
  l6 x l = if k < l.length ∧ l.getD k default = x then l else l.take k ++ x :: l.drop k
 | [], k, hk, _, _ => by
  have : k = 0 := by simpa using hk
  subst this
  simp [l6]
 | y :: r, 0, _, _, h => by
  have h0 : y.lt x = false := by simpa using h (by simp)
  simp only [l6, h0]
  by_cases e : y = x
  ·simp [e]
  ·simp [e]
 | y :: r, k + 1, hk, hj, h => by
  have h0 : y.lt x = true := by simpa using hj 0 (by omega)
  have ih := zAK (x := x) (l := r) (k := k) (by simpa using hk) (fun j hj' => by simpa using hj (j + 1) (by omega)) (fun hk' => by simpa using h (by simpa using hk'))
  simp only [l6, h0, if_true, ih]
  by_cases e : k < r.length ∧ r.getD k default = x
  ·rw [if_pos e, if_pos (by simpa using e)]
  ·rw [if_neg e, if_neg (by simpa using e)]; simp
theorem zGb {n k : Int} (b : Bool) (dy dn : Dice) (h1 : 1 ≤ n ∧ n ≤ 9) (h2 : 1 ≤ k ∧ k ≤ 2) : (N7 n b k dy dn).1.ok = true := by
 unfold N7
 split
 ·rw [o3]; simp only; omega
 ·rw [o3]; simp only; omega
theorem zGc (d : Dice) : (Y1 d).1.ok = true := zGb _ _ _ (b8 (by omega) d) (b8 (by omega) _)
theorem zCf : ∀ (n : Nat) (d : Dice) (out : List Plate), out.length + n ≤ 8 → (∀ x, x ∈ out → x.ok = true) → out.Pairwise (fun a b => a.lt b = true) → Sound (U0 n d out).1
 | 0, d, out, hl, ho, hs => ⟨by simpa [U0] using hl, ho, hs⟩
 | n + 1, d, out, hl, ho, hs => by
  have h1 := zAL (x := (Y1 d).1) (l := out)
  refine zCf n _ _ (by omega) (fun x hx => ?_) (zDN hs)
  rcases mem_insPl.1 hx with rfl | hx
  ·exact zGc d
  ·exact ho x hx
theorem zGf {d : Dice} {most : Int} (h : most ≤ 8) : Sound (Z3 d most).1 := by
 have := C3 most d
 exact zCf _ _ [] (by simp; omega) (by simp) (by simp)
theorem zDK {houses : Int} (h : houses ≤ 8) : ∀ (n : Nat) (d : Dice) (out : zLo), (∀ l, l ∈ out → Sound l) → (Z7 houses n d out).1.length = out.length + n ∧ ∀ l, l ∈ (Z7 houses n d out).1 → Sound l
 | 0, d, out, ho => ⟨rfl, ho⟩
 | n + 1, d, out, ho => by
  obtain ⟨h1, h2⟩ := zDK h n (f9 d houses).2 (out ++ [(f9 d houses).1]) (fun l hl => by
   rcases List.mem_append.1 hl with hl | hl
   ·exact ho l hl
   ·have : l = (f9 d houses).1 := by simpa using hl
    rw [this]
    exact zGf (by split <;> omega))
  refine ⟨?_, h2⟩
  have : (Z7 houses (n + 1) d out).1 = (Z7 houses n (f9 d houses).2 (out ++ [(f9 d houses).1])).1 := rfl
  rw [this, h1]; simp; omega
theorem zCc {d : Dice} {houses : Int} (h : houses ≤ 8) : Valid (f8 d houses).1 := by
 have h0 := b8 (lo := 1) (hi := 3) (by omega) d
 obtain ⟨h1, h2⟩ := zDK h (u6 1 3 d).toNat (w7 1 3 d) [] (by simp)
 have e : (f8 d houses).1 = (Z7 houses (u6 1 3 d).toNat (w7 1 3 d) []).1 := rfl
 simp only [List.length_nil, Nat.zero_add] at h1
 exact ⟨by rw [e, h1]; omega, by rw [e, h1]; omega, fun l hl => h2 l (by rw [← e]; exact hl)⟩
def j0 (d : Dice) (l : List Plate) : Plate × Dice :=
 if l.length = 0 then (⟨u6 1 9 d, 0⟩, w7 1 9 d)
 else if i5 12 d = true then (⟨u6 1 9 (t7 12 d), 0⟩, w7 1 9 (t7 12 d))
 else (l.getD (toN (l.length - 1) (t7 12 d)).toNat default, toD (l.length - 1) (t7 12 d))
def P4 (d : Dice) (p : zLo) (kind : Int) (s : Int) : Change × Dice :=
 if kind = 4 then (⟨4, s, (s + u6 1 2 d) % p.length, zeroPlate, zeroPlate⟩, w7 1 2 d)
 else if kind = 7 then
  let o := (s + u6 1 2 d) % p.length
  let a := j0 (w7 1 2 d) (q7 p s)
  let b := j0 a.2 (q7 p s)
  if b.1.lt a.1 = true then (⟨7, s, o, b.1, a.1⟩, b.2) else (⟨7, s, o, a.1, b.1⟩, b.2)
 else if kind = 5 ∨ kind = 6 then
  let a := j0 d (q7 p s)
  (⟨kind, s, 0, a.1, zeroPlate⟩, a.2)
 else (⟨kind, s, 0, zeroPlate, zeroPlate⟩, d)
def j1 (d : Dice) (p : zLo) : Change × Dice := P4 (toD (p.length - 1) (w7 1 7 d)) p (u6 1 7 d) (toN (p.length - 1) (w7 1 7 d))
end Go.Abs

namespace Go.Abs
open Go
def Z4 (l : List Truth) (h : House) (x : Truth) : Nat := l.countP fun y => decide (x.now h = y.now h)
def o8 (l : List Truth) (h : House) : Nat := l.foldl (fun m x => max m (Z4 l h x)) 0
def Q6 (g : List Nat) : List Nat → Nat → Int → Int
 | [], _, at_ => at_
 | x :: r, i, at_ => Q6 g r (i + 1) (if at_ < 0 ∨ x < g.getD at_.toNat 0 then i else at_)
def Z0 (g : List Nat) : Int := Q6 g g 0 (-1)
def T7 (s : Story) : List Nat := (q9 s.first).map (o8 (r5 s))
def H3 (s : Story) : Option (House × Nat) :=
 if (r5 s).length = 0 ∨ Z0 (T7 s) < 0 ∨ (T7 s).getD (Z0 (T7 s)).toNat 0 = (r5 s).length then none
 else some ((q9 s.first).getD (Z0 (T7 s)).toNat default, (T7 s).getD (Z0 (T7 s)).toNat 0)
def P0 (s : Story) (h : House) : List House := (r5 s).flatMap fun t => t.now h
def M6 (s : Story) (h : House) : Int := if r9 s = 0 then if h ∈ q9 s.first then if r5 s = [] then 11 else 0 else 3 else r9 s
def zA0 (s : Story) (h : House) : List House := s6 (P0 s h)
def C4 (s : Story) : List (List Int) := (r5 s).map fun t => t.ways
def zJF (s : Story) : Int := if r9 s = 0 then (if (H3 s).isSome = true then 0 else 11) else r9 s
def zMA (l : List Int) : List Plate := l.map fun n => ⟨n, 0⟩
def townX : zLo := [zMA [1, 2, 3, 4, 5], zMA [1, 2], []]
def atX (s n : Int) : House := ⟨s, ⟨n, 0⟩⟩
def V4 : Change := ⟨4, 1, 0, zeroPlate, zeroPlate⟩
def zIM : Change := ⟨1, 0, 0, zeroPlate, zeroPlate⟩
def zII : Change := ⟨2, 0, 0, zeroPlate, zeroPlate⟩
def H8 : Change := ⟨6, 0, 0, ⟨3, 0⟩, zeroPlate⟩
def taleX : Story := ⟨townX, [[zIM, zII], [V4]], []⟩
def E0 : zLo := [zMA [1, 2, 3, 4, 5, 7, 8], [], []]
def E2 : zLo := [zMA [1, 2, 4, 5, 7, 8], [], []]
theorem zDe : o4 townX V4 = 0 := by kernel_rfl
theorem zIY : s9 townX V4 = E0 := by kernel_rfl
theorem zA6 : r9 taleX = 0 := by kernel_rfl
theorem zDg : C4 taleX = [[0, 0], [1, 0]] := by kernel_rfl
theorem zDh : P0 taleX (atX 0 1) = [atX 0 5, atX 0 2] := by kernel_rfl
theorem zIc : M6 taleX (atX 0 1) = 0 := by
 unfold M6
 rw [if_pos zA6, if_pos (by decide), if_neg]
 intro h
 have := zDg
 unfold C4 at this
 rw [h] at this
 cases this
theorem zIb : zA0 taleX (atX 0 1) = [atX 0 2, atX 0 5] := by kernel_rfl
theorem zIZ : H3 taleX = some (atX 0 1, 1) := by kernel_rfl
theorem zIa : O0 townX E2 = some [V4, H8] := by kernel_rfl
end Go.Abs

namespace Go.Abs
open Go
theorem zAI {x : House} : ∀ {l : List House} {k : Nat}, k ≤ l.length → (∀ j, j < k → (l.getD j default).lt x = true) → (k < l.length → (l.getD k default).lt x = false) →
  zL2 x l = if k < l.length ∧ l.getD k default = x then l else l.take k ++ x :: l.drop k
 | [], k, hk, _, _ => by
  have : k = 0 := by simpa using hk
  subst this
  simp [zL2]
 | y :: r, 0, _, _, h => by
  have h0 : y.lt x = false := by simpa using h (by simp)
  simp only [zL2, h0]
  by_cases e : y = x
  ·simp [e]
  ·simp [e]
 | y :: r, k + 1, hk, hj, h => by
  have h0 : y.lt x = true := by simpa using hj 0 (by omega)
  have ih := zAI (x := x) (l := r) (k := k) (by simpa using hk) (fun j hj' => by simpa using hj (j + 1) (by omega)) (fun hk' => by simpa using h (by simpa using hk'))
  simp only [zL2, h0, if_true, ih]
  by_cases e : k < r.length ∧ r.getD k default = x
  ·rw [if_pos e, if_pos (by simpa using e)]
  ·rw [if_neg e, if_neg (by simpa using e)]; simp
theorem zAJ {x : House} : ∀ {l : List House}, (zL2 x l).length ≤ l.length + 1
 | [] => by simp [zL2]
 | y :: r => by
  simp only [zL2]
  split
  ·simp only [List.length_cons]; have := zAJ (x := x) (l := r); omega
  ·split <;> simp
theorem zFF : ∀ (l out : List House), (l.foldl (fun out x => zL2 x out) out).length ≤ out.length + l.length
 | [], out => by simp
 | x :: r, out => by
  have h1 := zFF r (zL2 x out)
  have h2 := zAJ (x := x) (l := out)
  simp only [List.foldl_cons, List.length_cons]; omega
structure Move where
 src : House
 dst : House
 deriving DecidableEq, Inhabited
@[reducible] def Move.enc (m : Move) : AV := .agg [iV m.src.street, iV m.src.plate.number, iV m.src.plate.letter, iV m.dst.street, iV m.dst.plate.number, iV m.dst.plate.letter]
attribute [go_sem] Move.enc
def N1 (p : zLo) (c : Change) : List Move := (q9 p).flatMap fun h => (mv p c h).map fun z => ⟨h, z⟩
theorem zKQ (p : zLo) (c : Change) : (N1 p c).map Move.dst = j8 p c := by
 unfold N1 j8
 rw [List.map_flatMap]
 simp [Function.comp_def]
theorem zGO (p : zLo) (c : Change) (h : House) : (mv p c h).length ≤ 2 := by
 unfold mv toP
 repeat' split
 all_goals simp
theorem zKR (p : zLo) (c : Change) : (N1 p c).length ≤ 2 * (q9 p).length := by
 unfold N1
 have : ∀ l : List House, (l.flatMap fun h => (mv p c h).map fun z => (⟨h, z⟩ : Move)).length ≤ 2 * l.length := fun l => by
  induction l with
  | nil => simp
  | cons x r ih =>
   have := zGO p c x
   simp only [List.flatMap_cons, List.length_append, List.length_map, List.length_cons]; omega
 exact this _
def zDw (p : zLo) (c : Change) (h : House) : Int := if o4 p c = 0 then (if h ∈ q9 p then 0 else 3) else o4 p c
def zJG (p : zLo) (c : Change) (h : House) : List House := if zDw p c h = 0 then s6 (mv p c h) else []
def zDY (p : zLo) (c : Change) (h : House) : Option House := (q9 p).find? fun x => decide (h ∈ mv p c x)
def zIR (p : zLo) (c : Change) (h : House) : Int := if o4 p c = 0 then (if (zDY p c h).isSome = true then 0 else 3) else o4 p c
end Go.Abs

namespace Go.Abs
open Go Go.Proofs Tryz
structure Plate.Wf (x : Plate) : Prop where
 n : (Lit.int .i64 x.number).wf = true
 l : (Lit.int .i64 x.letter).wf = true
structure PlanB (N : Nat) (p : zLo) : Prop where
 len : p.length ≤ N
 rows : ∀ l, l ∈ p → l.length ≤ N
 wf : ∀ l, l ∈ p → ∀ x, x ∈ l → x.Wf
structure Bound (N : Nat) (s : Story) : Prop where
 first : PlanB N s.first
 steps : s.steps.length ≤ N
 ways : ∀ w, w ∈ s.steps → w.length ≤ N
 facts : s.facts.length ≤ N
 wf : ∀ f, f ∈ s.facts → f.src.Wf ∧ f.dst.Wf
theorem PlanB.house {N : Nat} {p : zLo} (b : PlanB N p) (hN : N ≤ 4294967296) : ∀ h, h ∈ q9 p → h.Wf := fun h hh => by
 obtain ⟨h0, h1, h2⟩ := mem_houses.1 hh
 have hl := b.len
 have w := b.wf _ (zGr h0 h1) _ h2
 exact ⟨C5 (by omega) (by omega), w.n, w.l⟩
def zDj : House := ⟨0, ⟨0, 0⟩⟩
def zM5 (p : zLo) (c : Change) (h : House) : House := if zIR p c h = 0 then (zDY p c h).getD zDj else zDj
theorem zKH {p : zLo} {N : Nat} (h : ∀ l, l ∈ p → l.length ≤ N) : (q9 p).length ≤ p.length * N := by
 have key : ∀ (p : zLo) (k : Nat), (∀ l, l ∈ p → l.length ≤ N) → (p8 k p).length ≤ p.length * N := by
  intro p
  induction p with
  | nil => intro k _; simp [p8]
  | cons l r ih =>
   intro k h
   have h1 := h l (by simp)
   have h2 := ih (k + 1) (fun x hx => h x (by simp [hx]))
   simp only [p8, List.length_append, List.length_map, List.length_cons, Nat.succ_mul]; omega
 exact key p 0 h
end Go.Abs

namespace Go.Abs
open Go
@[reducible] def Truth.encR (p : zLo) (t : Truth) : AV := .agg [.list (t.ways.map iV), .list (t.fin.map y7), .list ((q9 p).map fun h => Q3 (t.now h))]
attribute [go_sem] Truth.encR
def l4 (s : Story) : Nat → Truth → List Truth
 | 0, t => [t]
 | n + 1, t => (List.range' 0 (w9 s t.ways.length).length).flatMap fun i => if can t.fin ((w9 s t.ways.length).getD i default) = 0 then l4 s n (n0 t ((w9 s t.ways.length).getD i default) i) else []
def b9 (s : Story) (n : Nat) (t : Truth) (i : Nat) : List Truth :=
 (List.range' i ((w9 s t.ways.length).length - i)).flatMap fun i => if can t.fin ((w9 s t.ways.length).getD i default) = 0 then l4 s n (n0 t ((w9 s t.ways.length).getD i default) i) else []
theorem zKD {s : Story} {n : Nat} {t : Truth} : l4 s (n + 1) t = b9 s n t 0 := by rw [l4, b9, Nat.sub_zero]
theorem zBs {s : Story} {n i : Nat} {t : Truth} (h : i < (w9 s t.ways.length).length) :
  b9 s n t i = (if can t.fin ((w9 s t.ways.length).getD i default) = 0 then l4 s n (n0 t ((w9 s t.ways.length).getD i default) i) else []) ++ b9 s n t (i + 1) := by
 unfold b9
 rw [show (w9 s t.ways.length).length - i = ((w9 s t.ways.length).length - (i + 1)) + 1 by omega, List.range'_succ, List.flatMap_cons]
theorem zKC {s : Story} {n i : Nat} {t : Truth} (h : i < (w9 s t.ways.length).length) (hc : can t.fin ((w9 s t.ways.length).getD i default) = 0) :
  b9 s n t i = l4 s n (n0 t ((w9 s t.ways.length).getD i default) i) ++ b9 s n t (i + 1) := by rw [zBs h, if_pos hc]
theorem zKB {s : Story} {n i : Nat} {t : Truth} (h : i < (w9 s t.ways.length).length) (hc : can t.fin ((w9 s t.ways.length).getD i default) ≠ 0) :
  b9 s n t i = b9 s n t (i + 1) := by rw [zBs h, if_neg hc, List.nil_append]
theorem zKA {s : Story} {n i : Nat} {t : Truth} (h : (w9 s t.ways.length).length ≤ i) : b9 s n t i = [] := by
 unfold b9
 rw [show (w9 s t.ways.length).length - i = 0 by omega]; rfl
theorem zBt {s : Story} : ∀ (n : Nat) (t : Truth), (l4 s n t).filter (f7 s.facts) = p7 s n t
 | 0, t => by
  rw [l4, G8]
  by_cases h : f7 s.facts t = true
  ·rw [if_pos h, List.filter_cons_of_pos h]; rfl
  ·rw [if_neg h, List.filter_cons_of_neg h]; rfl
 | n + 1, t => by
  rw [l4, p7, H9]
  refine G4 (fun i _ => ?_)
  split
  ·exact zBt n _
  ·rfl
def B3 (s : Story) : List Truth := l4 s s.steps.length (Y8 s)
theorem zI4 (s : Story) : (B3 s).filter (f7 s.facts) = r5 s := zBt _ _
theorem zBv {s : Story} : ∀ (n : Nat) {t : Truth}, TOk s n t → ∀ x, x ∈ l4 s n t → TOk s 0 x
 | 0, t, o, x, hx => by
  rw [l4] at hx
  rw [List.mem_singleton.1 hx]; exact o
 | n + 1, t, o, x, hx => by
  rw [l4] at hx
  obtain ⟨i, _, hx⟩ := List.mem_flatMap.1 hx
  split at hx
  ·rename_i hc
   exact zBv n (o.next hc i) x hx
  ·simp at hx
theorem zBu {s : Story} (hw : ∀ w, w ∈ s.steps → w.length ≤ 3) : ∀ (n : Nat) (t : Truth), (l4 s n t).length ≤ 3 ^ n
 | 0, t => by simp [l4]
 | n + 1, t => by
  rw [l4]
  have hl : (w9 s t.ways.length).length ≤ 3 := by
   unfold w9
   by_cases h : t.ways.length < s.steps.length
   ·exact hw _ (w8 h)
   ·have e : s.steps[t.ways.length]? = none := List.getElem?_eq_none (by omega)
    simp only [List.getD, e, Option.getD_none]; show ([] : List Change).length ≤ 3; simp
  have key : ∀ (k i : Nat) (g : Nat → List Truth), (∀ i, (g i).length ≤ 3 ^ n) → ((List.range' i k).flatMap g).length ≤ k * 3 ^ n := by
   intro k
   induction k with
   | zero => intro i g _; simp
   | succ k ih =>
    intro i g hg
    rw [List.range'_succ, List.flatMap_cons, List.length_append, Nat.succ_mul]
    have := ih (i + 1) g hg
    have := hg i
    omega
  refine Nat.le_trans (key _ 0 _ (fun i => ?_)) (Nat.le_trans (Nat.mul_le_mul_right (3 ^ n) hl) (by rw [Nat.pow_succ]; omega))
  split
  ·exact zBu hw n _
  ·simp
theorem zI6 {s : Story} (v : Valid s.first) : ∀ x, x ∈ B3 s → TOk s 0 x := zBv _ (A6 v)
theorem zI5 {s : Story} (o : Told s) : (B3 s).length ≤ 27 :=
 Nat.le_trans (zBu (fun w hw => (o.ways w hw).2.1) _ _) (Nat.pow_le_pow_right (by omega) o.steps : 3 ^ s.steps.length ≤ 3 ^ 3)
def zMK (m : List Move) (l : List House) : List House := (m.filter fun x => decide (x.src ∈ l)).map Move.dst
theorem zJT {m : List Move} {l : List House} {i : Nat} (hi : i < m.length) (q : (m.getD i default).src ∈ l) : zMK (m.drop i) l = (m.getD i default).dst :: zMK (m.drop (i + 1)) l := by
 unfold zMK; rw [u0 hi, List.filter_cons_of_pos (by simpa using q)]; rfl
theorem zJS {m : List Move} {l : List House} {i : Nat} (hi : i < m.length) (q : ¬ (m.getD i default).src ∈ l) : zMK (m.drop i) l = zMK (m.drop (i + 1)) l := by
 unfold zMK; rw [u0 hi, List.filter_cons_of_neg (by simpa using q)]
theorem zJR (m : List Move) (l : List House) : (zMK m l).length ≤ m.length := by
 unfold zMK; rw [List.length_map]; exact List.length_filter_le _ _
theorem zJU (p : zLo) (c : Change) (l : List House) (hl : ∀ h, h ∈ l → h ∈ q9 p) : s6 (zMK (N1 p c) l) = s6 (l.flatMap (mv p c)) := by
 refine zG9 (fun z => ?_)
 unfold zMK N1
 simp only [List.mem_map, List.mem_filter, List.mem_flatMap, decide_eq_true_eq]
 constructor
 ·rintro ⟨m, ⟨⟨h, h1, y, h2, rfl⟩, h3⟩, rfl⟩
  exact ⟨h, h3, h2⟩
 ·rintro ⟨h, h1, h2⟩
  exact ⟨⟨h, z⟩, ⟨⟨h, hl h h1, z, h2, rfl⟩, h1⟩, rfl⟩
end Go.Abs

namespace Go.Abs
open Go Go.Proofs Tryz
attribute [local irreducible] y6 Hold x8
@[reducible] def j4 (l : List Int) : AV := .list (l.map iV)
attribute [go_sem] j4
theorem zHL (a b : List Int) (h1 : a.length ≤ 4294967296) : zLp prog 61 [j4 a, j4 b] [] (bV (decide (a = b))) [] := by
 refine q8 func61 rfl (fun E hE => ?_); simp only [go_sem, ntmps61]
 repeat' (first | (refine Qr rfl ?_; try intro _ hK; try simp only [go_sem, *]) | refine Qh rfl ?_ | refine Qd rfl (by kernel_rfl) ?_ | (refine Qc rfl rfl ?_ ?_ <;> (intro hb; have hc := hb; try simp only [go_sem] at hc)) | refine q6 rfl ?_ | (refine Qb ?_ ?_; focus kernel_rfl) | ((with_reducible apply And.intro); focus omega) | (refine z8 hK ?_; clear hK; simp only [go_sem, *]) | simp only [z6, z7, go_sem, *])
 ·(refine ⟨[_], [], [], ⟨rfl, trivial⟩, ?_⟩; simp only [go_sem, *])
  simp [X1 (a := a) (b := b) (by assumption)]
 ·have hlb : a.length = b.length := by assumption
  refine u3 rfl (b.length) (fun i => a.take i = b.take i) 26 (fun i => [(5, iV i), (0, j4 a), (1, j4 b)]) (fun i => []) [] [] (by simp) ?_; intro i hi hP
  repeat' (first | (refine Qr rfl ?_; try intro _ hK; try simp only [go_sem, *]) | refine Qh rfl ?_ | refine Qd rfl (by kernel_rfl) ?_ | (refine Qc rfl rfl ?_ ?_ <;> (intro hb; have hc := hb; try simp only [go_sem] at hc)) | refine q6 rfl ?_ | (refine Qb ?_ ?_; focus kernel_rfl) | ((with_reducible apply And.intro); focus omega) | (refine z8 hK ?_; clear hK; simp only [go_sem, *]) | simp only [z6, z7, go_sem, *])
  ·(refine ⟨[_], [], [], ⟨rfl, trivial⟩, ?_⟩; simp only [go_sem, *])
   simp [W5 (a := a) (b := b) (i := i) (by assumption)]
  ·exact u2 (i' := i + 1) [] [] (by exact W4 (by omega) (by omega) hP (by assumption))
  ·(refine ⟨[_], [], [], ⟨rfl, trivial⟩, ?_⟩; simp only [go_sem, *])
   simp [W3 (by omega) hlb hP]
theorem zHM (a b : List (List Int)) (h1 : a.length ≤ 4294967296) (hrl : ∀ l, l ∈ a → l.length ≤ 4294967296) : zLp prog 44 [.list (a.map j4), .list (b.map j4)] [] (bV (decide (a = b))) [] := by
 refine q8 func44 rfl (fun E hE => ?_); simp only [go_sem, ntmps44]
 repeat' (first | (refine Qr rfl ?_; try intro _ hK; try simp only [go_sem, *]) | refine Qh rfl ?_ | refine Qd rfl (by kernel_rfl) ?_ | (refine Qc rfl rfl ?_ ?_ <;> (intro hb; have hc := hb; try simp only [go_sem] at hc)) | refine q6 rfl ?_ | (refine Qb ?_ ?_; focus kernel_rfl) | ((with_reducible apply And.intro); focus omega) | (refine z8 hK ?_; clear hK; simp only [go_sem, *]) | simp only [z6, z7, go_sem, *])
 ·(refine ⟨[_], [], [], ⟨rfl, trivial⟩, ?_⟩; simp only [go_sem, *])
  simp [X1 (a := a) (b := b) (by assumption)]
 ·have hlb : a.length = b.length := by assumption
  refine u3 rfl (b.length) (fun i => a.take i = b.take i) 27 (fun i => [(5, iV i), (0, .list (a.map j4)), (1, .list (b.map j4))]) (fun i => []) [] [] (by simp) ?_; intro i hi hP
  repeat' (first | (refine Qr rfl ?_; try intro _ hK; try simp only [go_sem, *]) | refine Qh rfl ?_ | refine Qd rfl (by kernel_rfl) ?_ | (refine Qc rfl rfl ?_ ?_ <;> (intro hb; have hc := hb; try simp only [go_sem] at hc)) | refine q6 rfl ?_ | (refine Qb ?_ ?_; focus kernel_rfl) | (refine y4 (zHL (List.getD a i default) (List.getD b i default) (hrl _ (w8 (by omega)))) ?_; simp only [go_sem, *]) | ((with_reducible apply And.intro); focus omega) | (refine z8 hK ?_; clear hK; simp only [go_sem, *]) | simp only [z6, z7, go_sem, *])
  ·(refine ⟨[_], [], [], ⟨rfl, trivial⟩, ?_⟩; simp only [go_sem, *])
   simp [W5 (a := a) (b := b) (i := i) (by assumption)]
  ·exact u2 (i' := i + 1) [] [] (by exact W4 (by omega) (by omega) hP (by assumption))
  ·(refine ⟨[_], [], [], ⟨rfl, trivial⟩, ?_⟩; simp only [go_sem, *])
   simp [W3 (by omega) hlb hP]
theorem zHN (a b : List House) (h1 : a.length ≤ 4294967296) : zLp prog 37 [Q3 a, Q3 b] [] (bV (decide (a = b))) [] := by
 refine q8 func37 rfl (fun E hE => ?_); simp only [go_sem, ntmps37]
 repeat' (first | (refine Qr rfl ?_; try intro _ hK; try simp only [go_sem, *]) | refine Qh rfl ?_ | refine Qd rfl (by kernel_rfl) ?_ | (refine Qc rfl rfl ?_ ?_ <;> (intro hb; have hc := hb; try simp only [go_sem] at hc)) | refine q6 rfl ?_ | (refine Qb ?_ ?_; focus kernel_rfl) | ((with_reducible apply And.intro); focus omega) | (refine z8 hK ?_; clear hK; simp only [go_sem, *]) | simp only [z6, z7, go_sem, *])
 ·(refine ⟨[_], [], [], ⟨rfl, trivial⟩, ?_⟩; simp only [go_sem, *])
  simp [X1 (a := a) (b := b) (by assumption)]
 ·have hlb : a.length = b.length := by assumption
  refine u3 rfl (b.length) (fun i => a.take i = b.take i) 26 (fun i => [(5, iV i), (0, Q3 a), (1, Q3 b)]) (fun i => []) [] [] (by simp) ?_; intro i hi hP
  repeat' (first | (refine Qr rfl ?_; try intro _ hK; try simp only [go_sem, *]) | refine Qh rfl ?_ | refine Qd rfl (by kernel_rfl) ?_ | (refine Qc rfl rfl ?_ ?_ <;> (intro hb; have hc := hb; try simp only [go_sem] at hc)) | refine q6 rfl ?_ | (refine Qb ?_ ?_; focus kernel_rfl) | ((with_reducible apply And.intro); focus omega) | (refine z8 hK ?_; clear hK; simp only [go_sem, *]) | simp only [z6, z7, go_sem, *])
  ·(refine ⟨[_], [], [], ⟨rfl, trivial⟩, ?_⟩; simp only [go_sem, *])
   simp [W5 (a := a) (b := b) (i := i) (by assumption)]
  ·exact u2 (i' := i + 1) [] [] (by exact W4 (by omega) (by omega) hP (by assumption))
  ·(refine ⟨[_], [], [], ⟨rfl, trivial⟩, ?_⟩; simp only [go_sem, *])
   simp [W3 (by omega) hlb hP]
theorem zHK (a b : List Change) (h1 : a.length ≤ 4294967296) : zLp prog 33 [.list (a.map Change.enc), .list (b.map Change.enc)] [] (bV (decide (a = b))) [] := by
 refine q8 func33 rfl (fun E hE => ?_); simp only [go_sem, ntmps33]
 repeat' (first | (refine Qr rfl ?_; try intro _ hK; try simp only [go_sem, *]) | refine Qh rfl ?_ | refine Qd rfl (by kernel_rfl) ?_ | (refine Qc rfl rfl ?_ ?_ <;> (intro hb; have hc := hb; try simp only [go_sem] at hc)) | refine q6 rfl ?_ | (refine Qb ?_ ?_; focus kernel_rfl) | ((with_reducible apply And.intro); focus omega) | (refine z8 hK ?_; clear hK; simp only [go_sem, *]) | simp only [z6, z7, go_sem, *])
 ·(refine ⟨[_], [], [], ⟨rfl, trivial⟩, ?_⟩; simp only [go_sem, *])
  simp [X1 (a := a) (b := b) (by assumption)]
 ·have hlb : a.length = b.length := by assumption
  refine u3 rfl (b.length) (fun i => a.take i = b.take i) 26 (fun i => [(5, iV i), (0, .list (a.map Change.enc)), (1, .list (b.map Change.enc))]) (fun i => []) [] [] (by simp) ?_; intro i hi hP
  repeat' (first | (refine Qr rfl ?_; try intro _ hK; try simp only [go_sem, *]) | refine Qh rfl ?_ | refine Qd rfl (by kernel_rfl) ?_ | (refine Qc rfl rfl ?_ ?_ <;> (intro hb; have hc := hb; try simp only [go_sem] at hc)) | refine q6 rfl ?_ | (refine Qb ?_ ?_; focus kernel_rfl) | ((with_reducible apply And.intro); focus omega) | (refine z8 hK ?_; clear hK; simp only [go_sem, *]) | simp only [z6, z7, go_sem, *])
  ·(refine ⟨[_], [], [], ⟨rfl, trivial⟩, ?_⟩; simp only [go_sem, *])
   simp [W5 (a := a) (b := b) (i := i) (by assumption)]
  ·exact u2 (i' := i + 1) [] [] (by exact W4 (by omega) (by omega) hP (by assumption))
  ·(refine ⟨[_], [], [], ⟨rfl, trivial⟩, ?_⟩; simp only [go_sem, *])
   simp [W3 (by omega) hlb hP]
theorem zHO (a b : zLo) (h1 : a.length ≤ 4294967296) (hrl : ∀ l, l ∈ a → l.length ≤ 4294967296) : zLp prog 29 [x7 a, x7 b] [] (bV (decide (a = b))) [] := by
 refine q8 func29 rfl (fun E hE => ?_); simp only [go_sem, ntmps29]
 repeat' (first | (refine Qr rfl ?_; try intro _ hK; try simp only [go_sem, *]) | refine Qh rfl ?_ | refine Qd rfl (by kernel_rfl) ?_ | (refine Qc rfl rfl ?_ ?_ <;> (intro hb; have hc := hb; try simp only [go_sem] at hc)) | refine q6 rfl ?_ | (refine Qb ?_ ?_; focus kernel_rfl) | ((with_reducible apply And.intro); focus omega) | (refine z8 hK ?_; clear hK; simp only [go_sem, *]) | simp only [z6, z7, go_sem, *])
 ·(refine ⟨[_], [], [], ⟨rfl, trivial⟩, ?_⟩; simp only [go_sem, *])
  simp [X1 (a := a) (b := b) (by assumption)]
 ·have hlb : a.length = b.length := by assumption
  refine u3 rfl (b.length) (fun i => a.take i = b.take i) 61 (fun i => [(5, iV i), (2, .ptr 0 0), (3, .ptr 1 0)]) (fun i => [zL3 a, zL3 b]) [some 0, some 1] [] (by simp) ?_; intro i hi hP
  by_cases hi2 : i < b.length
  ·have hra := hrl _ (w8 (l := a) (i := i) (by omega))
   have hia : i < a.length := by omega
   obtain ⟨e1, he1⟩ : ∃ e1, e1 = a.getD i default := ⟨_, rfl⟩
   obtain ⟨e2, he2⟩ : ∃ e2, e2 = b.getD i default := ⟨_, rfl⟩
   have nx0 : e1 = e2 → a.take (i + 1) = b.take (i + 1) := fun e => W4 (by omega) (by omega) hP (by rw [← he1, ← he2]; exact e)
   have no0 : ¬ e1 = e2 → ¬ a = b := fun e => W5 (i := i) (by rw [← he1, ← he2]; exact e)
   rw [← he1] at hra
   repeat' (first | (refine Qr rfl ?_; try intro _ hK; try simp only [go_sem, *]) | refine Qh rfl ?_ | refine Qd rfl (by kernel_rfl) ?_ | (refine Qc rfl rfl ?_ ?_ <;> (intro hb; have hc := hb; try simp only [go_sem] at hc)) | refine q6 rfl ?_ | (refine Qb ?_ ?_; focus kernel_rfl) | ((with_reducible apply And.intro); focus omega) | (refine z8 hK ?_; clear hK; simp only [go_sem, *]) | simp only [z6, z7, go_sem, *])
   ·rw [← he1, ← he2] at *
    (refine ⟨[_], [], [], ⟨rfl, trivial⟩, ?_⟩; simp only [go_sem, *])
    simp [no0 (X1 (by assumption))]
   ·have hl2 : (a.getD i default).length = (b.getD i default).length := by assumption
    have hkb : (b.getD i default).length ≤ 4294967296 := by rw [← hl2, ← he1]; exact hra
    refine u3 rfl ((b.getD i default).length) (fun k => (a.getD i default).take k = (b.getD i default).take k) 61 (fun k => [(6, iV k), (5, iV i), (2, .ptr 0 0), (3, .ptr 1 0)]) (fun k => [zL3 a, zL3 b]) [some 0, some 1] [] (by simp) ?_; intro k hk hQ
    repeat' (first | (refine Qr rfl ?_; try intro _ hK; try simp only [go_sem, *]) | refine Qh rfl ?_ | refine Qd rfl (by kernel_rfl) ?_ | (refine Qc rfl rfl ?_ ?_ <;> (intro hb; have hc := hb; try simp only [go_sem] at hc)) | refine q6 rfl ?_ | (refine Qb ?_ ?_; focus kernel_rfl) | ((with_reducible apply And.intro); focus omega) | (refine z8 hK ?_; clear hK; simp only [go_sem, *]) | simp only [z6, z7, go_sem, *])
    ·(refine ⟨[_], [], [], ⟨rfl, trivial⟩, ?_⟩; simp only [go_sem, *])
     simp [no0 (by rw [he1, he2]; exact W5 (i := k) (by assumption))]
    ·exact u2 (i' := k + 1) [some 0, some 1] [] (by exact W4 (by omega) (by omega) hQ (by assumption))
    ·exact u2 (i' := i + 1) [some 0, some 1] [] (by exact nx0 (by rw [he1, he2]; exact W3 (by omega) hl2 hQ))
  ·repeat' (first | (refine Qr rfl ?_; try intro _ hK; try simp only [go_sem, *]) | refine Qh rfl ?_ | refine Qd rfl (by kernel_rfl) ?_ | (refine Qc rfl rfl ?_ ?_ <;> (intro hb; have hc := hb; try simp only [go_sem] at hc)) | refine q6 rfl ?_ | (refine Qb ?_ ?_; focus kernel_rfl) | ((with_reducible apply And.intro); focus omega) | (refine z8 hK ?_; clear hK; simp only [go_sem, *]) | simp only [z6, z7, go_sem, *])
   (refine ⟨[_], [], [], ⟨rfl, trivial⟩, ?_⟩; simp only [go_sem, *])
   simp [W3 (by omega) hlb hP]
theorem D8 (l : List Int) (h1 : l.length ≤ 1000) : zLp prog 81 [j4 l] [] (y7 (zMA l)) [] := by
 refine q8 func81 rfl (fun E hE => ?_); simp only [go_sem, ntmps81]
 repeat' (first | (refine Qr rfl ?_; try intro _ hK; try simp only [go_sem, *]) | refine Qh rfl ?_ | (refine Qc rfl rfl ?_ ?_ <;> (intro hb; have hc := hb; try simp only [go_sem] at hc)) | refine q6 rfl ?_ | ((with_reducible apply And.intro); focus omega) | (refine z8 hK ?_; clear hK; simp only [go_sem, *]) | simp only [z6, z7, go_sem, *])
 refine u4 rfl (l.length) (fun i (acc : List Plate) => acc ++ zMA (l.drop i) = zMA l) 20 (fun i acc => [(4, iV i), (3, .own 0 2 0 acc.length), (0, j4 l)]) (fun i acc => [.row 2 (acc.map Plate.enc)]) [none] [] ([]) (by simp) ?_; intro i acc hi hP
 have hlen := congrArg List.length hP
 simp only [zMA, List.length_append, List.length_map, List.length_drop] at hlen
 repeat' (first | (refine Qr rfl ?_; try intro _ hK; try simp only [go_sem, *]) | refine Qh rfl ?_ | (refine Qc rfl rfl ?_ ?_ <;> (intro hb; have hc := hb; try simp only [go_sem] at hc)) | refine q6 rfl ?_ | ((with_reducible apply And.intro); focus omega) | (refine z8 hK ?_; clear hK; simp only [go_sem, *]) | simp only [z6, z7, go_sem, *])
 ·have hi2 : i < l.length := by assumption
  exact w6 (i' := i + 1) [some 2] [] (acc ++ [⟨l.getD i default, 0⟩]) (by rw [← hP, u0 hi2]; simp [zMA])
 ·rw [u7 (by omega)] at hP
  have hP2 : acc = zMA l := by simpa [zMA] using hP
  subst hP2
  refine ⟨[_], [], [0], ⟨rfl, trivial⟩, ?_⟩
  simp only [go_sem, *]
  simp [List.take_of_length_le]
theorem zAw (a b c : List Plate) : zLp prog 80 [y7 a, y7 b, y7 c] [] (x7 [a, b, c]) [] := by
 refine q8 func80 rfl (fun E hE => ?_); simp only [go_sem, ntmps80]
 repeat' (first | (refine Qr rfl ?_; try intro _ hK; try simp only [go_sem, *]) | refine Qh rfl ?_ | (refine Qc rfl rfl ?_ ?_ <;> (intro hb; have hc := hb; try simp only [go_sem] at hc)) | refine q6 rfl ?_ | ((with_reducible apply And.intro); focus omega) | (refine z8 hK ?_; clear hK; simp only [go_sem, *]) | simp only [z6, z7, go_sem, *])
 refine ⟨[.agg [.own 1 1 0 3]], [], [1], ⟨by simp only [u1, go_sem], trivial⟩, ?_⟩
 simp only [go_sem, *]
theorem zAu (s n : Int) : zLp prog 79 [iV s, iV n] [] (atX s n).enc [] := by
 refine q8 func79 rfl (fun E hE => ?_); simp only [go_sem, ntmps79]
 repeat' (first | (refine Qr rfl ?_; try intro _ hK; try simp only [go_sem, *]) | refine Qh rfl ?_ | (refine Qc rfl rfl ?_ ?_ <;> (intro hb; have hc := hb; try simp only [go_sem] at hc)) | refine q6 rfl ?_ | ((with_reducible apply And.intro); focus omega) | (refine z8 hK ?_; clear hK; simp only [go_sem, *]) | simp only [z6, z7, go_sem, *])
 refine ⟨[(atX s n).enc], [], [], ⟨(by simp only [u1, go_sem, atX]), trivial⟩, ?_⟩; simp only [go_sem, *]
theorem zC5 (s o : Int) : zLp prog 77 [iV s, iV o] [] (Change.enc ⟨4, s, o, zeroPlate, zeroPlate⟩) [] := by
 refine q8 func77 rfl (fun E hE => ?_); simp only [go_sem, ntmps77]
 repeat' (first | (refine Qr rfl ?_; try intro _ hK; try simp only [go_sem, *]) | refine Qh rfl ?_ | (refine Qc rfl rfl ?_ ?_ <;> (intro hb; have hc := hb; try simp only [go_sem] at hc)) | refine q6 rfl ?_ | ((with_reducible apply And.intro); focus omega) | (refine z8 hK ?_; clear hK; simp only [go_sem, *]) | simp only [z6, z7, go_sem, *])
 refine ⟨[Change.enc ⟨4, s, o, zeroPlate, zeroPlate⟩], [], [], ⟨(by simp only [u1, go_sem, zeroPlate]), trivial⟩, ?_⟩; simp only [go_sem, *]
theorem zIA (s : Int) : zLp prog 123 [iV s] [] (Change.enc ⟨1, s, 0, zeroPlate, zeroPlate⟩) [] := by
 refine q8 func123 rfl (fun E hE => ?_); simp only [go_sem, ntmps123]
 repeat' (first | (refine Qr rfl ?_; try intro _ hK; try simp only [go_sem, *]) | refine Qh rfl ?_ | (refine Qc rfl rfl ?_ ?_ <;> (intro hb; have hc := hb; try simp only [go_sem] at hc)) | refine q6 rfl ?_ | ((with_reducible apply And.intro); focus omega) | (refine z8 hK ?_; clear hK; simp only [go_sem, *]) | simp only [z6, z7, go_sem, *])
 refine ⟨[Change.enc ⟨1, s, 0, zeroPlate, zeroPlate⟩], [], [], ⟨(by simp only [u1, go_sem, zeroPlate]), trivial⟩, ?_⟩; simp only [go_sem, *]
theorem zH4 (s : Int) : zLp prog 124 [iV s] [] (Change.enc ⟨2, s, 0, zeroPlate, zeroPlate⟩) [] := by
 refine q8 func124 rfl (fun E hE => ?_); simp only [go_sem, ntmps124]
 repeat' (first | (refine Qr rfl ?_; try intro _ hK; try simp only [go_sem, *]) | refine Qh rfl ?_ | (refine Qc rfl rfl ?_ ?_ <;> (intro hb; have hc := hb; try simp only [go_sem] at hc)) | refine q6 rfl ?_ | ((with_reducible apply And.intro); focus omega) | (refine z8 hK ?_; clear hK; simp only [go_sem, *]) | simp only [z6, z7, go_sem, *])
 refine ⟨[Change.enc ⟨2, s, 0, zeroPlate, zeroPlate⟩], [], [], ⟨(by simp only [u1, go_sem, zeroPlate]), trivial⟩, ?_⟩; simp only [go_sem, *]
theorem zHz (k s n : Int) : zLp prog 82 [iV k, iV s, iV n] [] (Change.enc ⟨k, s, 0, ⟨n, 0⟩, zeroPlate⟩) [] := by
 refine q8 func82 rfl (fun E hE => ?_); simp only [go_sem, ntmps82]
 repeat' (first | (refine Qr rfl ?_; try intro _ hK; try simp only [go_sem, *]) | refine Qh rfl ?_ | (refine Qc rfl rfl ?_ ?_ <;> (intro hb; have hc := hb; try simp only [go_sem] at hc)) | refine q6 rfl ?_ | ((with_reducible apply And.intro); focus omega) | (refine z8 hK ?_; clear hK; simp only [go_sem, *]) | simp only [z6, z7, go_sem, *])
 refine ⟨[Change.enc ⟨k, s, 0, ⟨n, 0⟩, zeroPlate⟩], [], [], ⟨(by simp only [u1, go_sem, zeroPlate]), trivial⟩, ?_⟩; simp only [go_sem, *]
theorem zC8 : zLp prog 76 [] [] (x7 townX) [] := by
 have s1 := D8 [1, 2, 3, 4, 5] (by decide)
 have s2 := D8 [1, 2] (by decide)
 have s3 := zAw (zMA [1, 2, 3, 4, 5]) (zMA [1, 2]) []
 refine q8 func76 rfl (fun E hE => ?_); simp only [go_sem, ntmps76]
 repeat' (first | (refine Qr rfl ?_; try intro _ hK; try simp only [go_sem, *]) | refine Qh rfl ?_ | (refine Qc rfl rfl ?_ ?_ <;> (intro hb; have hc := hb; try simp only [go_sem] at hc)) | refine q6 rfl ?_ | ((with_reducible apply And.intro); focus omega) | (refine z8 hK ?_; clear hK; simp only [go_sem, *]) | simp only [z6, z7, go_sem, *])
 (refine o7 (s1) (by simp only [go_sem, *]; done) rfl (by simp only [go_sem]; done) (by simp) (by simp) ?_; simp only [go_sem, v6, *])
 repeat' (first | (refine Qr rfl ?_; try intro _ hK; try simp only [go_sem, *]) | refine Qh rfl ?_ | (refine Qc rfl rfl ?_ ?_ <;> (intro hb; have hc := hb; try simp only [go_sem] at hc)) | refine q6 rfl ?_ | ((with_reducible apply And.intro); focus omega) | (refine z8 hK ?_; clear hK; simp only [go_sem, *]) | simp only [z6, z7, go_sem, *])
 (refine o7 (s2) (by simp only [go_sem, *]; done) rfl (by simp only [go_sem]; done) (by simp) (by simp) ?_; simp only [go_sem, v6, *])
 repeat' (first | (refine Qr rfl ?_; try intro _ hK; try simp only [go_sem, *]) | refine Qh rfl ?_ | (refine Qc rfl rfl ?_ ?_ <;> (intro hb; have hc := hb; try simp only [go_sem] at hc)) | refine q6 rfl ?_ | ((with_reducible apply And.intro); focus omega) | (refine z8 hK ?_; clear hK; simp only [go_sem, *]) | simp only [z6, z7, go_sem, *])
 (refine o7 (s3) (by simp only [go_sem, *]; done) rfl (by simp only [go_sem]; done) (by simp) (by simp) ?_; simp only [go_sem, v6, *])
 repeat' (first | (refine Qr rfl ?_; try intro _ hK; try simp only [go_sem, *]) | refine Qh rfl ?_ | (refine Qc rfl rfl ?_ ?_ <;> (intro hb; have hc := hb; try simp only [go_sem] at hc)) | refine q6 rfl ?_ | ((with_reducible apply And.intro); focus omega) | (refine z8 hK ?_; clear hK; simp only [go_sem, *]) | simp only [z6, z7, go_sem, *])
 refine ⟨[x7 townX], [], [], ⟨(by simp only [u1, go_sem, townX]), trivial⟩, ?_⟩; simp only [go_sem, *]
theorem zH6 : zLp prog 78 [.list []] [] taleX.enc [] := by
 refine q8 func78 rfl (fun E hE => ?_); simp only [go_sem, ntmps78]
 repeat' (first | (refine Qr rfl ?_; try intro _ hK; try simp only [go_sem, *]) | refine Qh rfl ?_ | (refine Qc rfl rfl ?_ ?_ <;> (intro hb; have hc := hb; try simp only [go_sem] at hc)) | refine q6 rfl ?_ | ((first | refine y4 (zC8) ?_ | refine y4 (zIA 0) ?_ | refine y4 (zH4 0) ?_ | refine y4 (zC5 1 0) ?_); simp only [go_sem, *]) | ((with_reducible apply And.intro); focus omega) | (refine z8 hK ?_; clear hK; simp only [go_sem, *]) | simp only [z6, z7, go_sem, *])
 refine ⟨[.agg [.list (townX.map y7), .own 3 1 0 2, .list []]], [], [3], ⟨by simp only [u1, go_sem], trivial⟩, ?_⟩
 simp only [go_sem, *]
 exact ⟨rfl, rfl, rfl⟩
end Go.Abs

namespace Go.Abs
open Go Go.Proofs Tryz
attribute [local irreducible] y6 Hold x8
theorem zHQ (a b : List House) (h1 : a.length ≤ 4294967296) : zLp prog 140 [.list (a.map House.enc), .list (b.map House.enc)] [] (bV (decide (a = b))) [] := by
 refine q8 func140 rfl (fun E hE => ?_); simp only [go_sem, ntmps140]
 repeat' (first | (refine Qr rfl ?_; try intro _ hK; try simp only [go_sem, *]) | refine Qh rfl ?_ | refine Qd rfl (by kernel_rfl) ?_ | (refine Qc rfl rfl ?_ ?_ <;> (intro hb; have hc := hb; try simp only [go_sem] at hc)) | refine q6 rfl ?_ | (refine Qb ?_ ?_; focus kernel_rfl) | ((with_reducible apply And.intro); focus omega) | (refine z8 hK ?_; clear hK; simp only [go_sem, *]) | simp only [z6, z7, go_sem, *])
 ·(refine ⟨[_], [], [], ⟨rfl, trivial⟩, ?_⟩; simp only [go_sem, *])
  simp [X1 (a := a) (b := b) (by assumption)]
 ·have hlb : a.length = b.length := by assumption
  refine u3 rfl (b.length) (fun i => a.take i = b.take i) 26 (fun i => [(13, iV i), (12, iV b.length), (0, .list (a.map House.enc)), (1, .list (b.map House.enc))]) (fun i => []) [] [] (by simp) ?_; intro i hi hP
  repeat' (first | (refine Qr rfl ?_; try intro _ hK; try simp only [go_sem, *]) | refine Qh rfl ?_ | refine Qd rfl (by kernel_rfl) ?_ | (refine Qc rfl rfl ?_ ?_ <;> (intro hb; have hc := hb; try simp only [go_sem] at hc)) | refine q6 rfl ?_ | (refine Qb ?_ ?_; focus kernel_rfl) | ((with_reducible apply And.intro); focus omega) | (refine z8 hK ?_; clear hK; simp only [go_sem, *]) | simp only [z6, z7, go_sem, *])
  ·(refine ⟨[_], [], [], ⟨rfl, trivial⟩, ?_⟩; simp only [go_sem, *])
   simp [W5 (a := a) (b := b) (i := i) (by assumption)]
  ·exact u2 (i' := i + 1) [] [] (by exact W4 (by omega) (by omega) hP (by assumption))
  ·(refine ⟨[_], [], [], ⟨rfl, trivial⟩, ?_⟩; simp only [go_sem, *])
   simp [W3 (by omega) hlb hP]
theorem zGL (m c : Nat) : zMf (m : Int) (c : Int) = ((max m c : Nat) : Int) := by unfold zMf; split <;> omega
theorem zFG {α : Type} [Inhabited α] {l : List α} {f : Nat → α → Nat} {i m : Nat} (hi : i < l.length) : (l.drop i).foldl f m = (l.drop (i + 1)).foldl f (f m (l.getD i default)) := by
 rw [u0 hi, List.foldl_cons]
theorem zEE {α : Type} [Inhabited α] {l : List α} {f : α → Bool} {i : Nat} (hi : i < l.length) : (l.drop i).countP f = (if f (l.getD i default) = true then 1 else 0) + (l.drop (i + 1)).countP f := by
 rw [u0 hi, List.countP_cons]; omega
theorem zCt (l : List Truth) (h : House) (x : Truth) : Z4 l h x ≤ l.length := List.countP_le_length
theorem zBo (l : List Truth) (h : House) : o8 l h ≤ l.length := by
 unfold o8
 have key : ∀ (r : List Truth) (m : Nat), m ≤ l.length → r.foldl (fun m x => max m (Z4 l h x)) m ≤ l.length := fun r => by
  induction r with
  | nil => intro m hm; exact hm
  | cons x r ih =>
   intro m hm
   have h1 := zCt l h x
   have h2 : max m (Z4 l h x) ≤ l.length := by omega
   exact ih _ h2
 exact key l 0 (by omega)
theorem zHl (p : zLo) (l : List Truth) (h : House) (v : Valid p) (hh : h ∈ q9 p) (hl : l.length ≤ 1000) (hnl : ∀ t, t ∈ l → (t.now h).length ≤ 1000) :
  zLp prog 101 [.list (l.map (Truth.enc p)), h.enc] [] (iV (o8 l h)) [] := by
 have hw := v.wf
 have hwf := hw _ hh
 have hG0 : (l.drop 0).foldl (fun m x => max m (Z4 l h x)) 0 = o8 l h := rfl
 have hGl := zBo l h
 generalize o8 l h = G at *
 refine q8 func101 rfl (fun E hE => ?_); simp only [go_sem, ntmps101]
 repeat' (first | (refine Qr rfl ?_; try intro _ hK; try simp only [go_sem, *]) | refine Qh rfl ?_ | refine Qd rfl (by kernel_rfl) ?_ | (refine Qc rfl rfl ?_ ?_ <;> (intro hb; have hc := hb; try simp only [go_sem] at hc)) | refine q6 rfl ?_ | (refine Qb ?_ ?_; focus kernel_rfl) | ((with_reducible apply And.intro); focus omega) | (refine z8 hK ?_; clear hK; simp only [go_sem, *]) | simp only [z6, z7, go_sem, *])
 refine u4 rfl (l.length) (fun i (m : Nat) => (l.drop i).foldl (fun m x => max m (Z4 l h x)) m = G) 40 (fun i m => [(13, iV i), (12, iV l.length), (11, .list (l.map (Truth.enc p))), (0, .list (l.map (Truth.enc p))), (5, iV m), (3, .ptr 0 0)]) (fun i m => [.box [iV h.street, iV h.plate.number, iV h.plate.letter]]) [some 0] [] (0) (by exact hG0) ?_; intro i m hi hP
 by_cases hi2 : i < l.length
 ·rw [zFG hi2] at hP
  have hxl := hnl _ (w8 hi2)
  repeat' (first | (refine Qr rfl ?_; try intro _ hK; try simp only [go_sem, *]) | refine Qh rfl ?_ | refine Qd rfl (by kernel_rfl) ?_ | (refine Qc rfl rfl ?_ ?_ <;> (intro hb; have hc := hb; try simp only [go_sem] at hc)) | refine q6 rfl ?_ | (refine Qb ?_ ?_; focus kernel_rfl) | ((with_reducible apply And.intro); focus omega) | (refine z8 hK ?_; clear hK; simp only [go_sem, *]) | simp only [z6, z7, go_sem, *])
  generalize hx : l.getD i default = x at *
  refine u4 rfl (l.length) (fun j (n : Nat) => n + (l.drop j).countP (fun y => decide (x.now h = y.now h)) = Z4 l h x) 40 (fun j n => [(19, iV j), (18, iV l.length), (17, .list (l.map (Truth.enc p))), (8, iV n), (7, .ptr 1 0), (13, iV i), (12, iV l.length), (11, .list (l.map (Truth.enc p))), (0, .list (l.map (Truth.enc p))), (5, iV m), (3, .ptr 0 0)]) (fun j n => [.box [iV h.street, iV h.plate.number, iV h.plate.letter], .box [.list (x.ways.map iV), .list (x.fin.map y7), .fmap (w5 p) (w4 p x.now)]]) [some 0, some 1] [] (0) (by simp [Z4]) ?_; intro j n hj hQ
  by_cases hj2 : j < l.length
  ·rw [zEE hj2] at hQ
   have hyl := hnl _ (w8 hj2)
   have hsl := zCt l h x
   generalize hy : l.getD j default = y at *
   have sc := zHQ (x.now h) (y.now h) (by omega)
   by_cases q : x.now h = y.now h
   ·have q' : decide (x.now h = y.now h) = true := by simpa using q
    rw [q'] at sc hQ
    clear q q'
    repeat' (first | (refine Qr rfl ?_; try intro _ hK; try simp only [go_sem, *]) | refine Qh rfl ?_ | refine Qd rfl (by kernel_rfl) ?_ | (refine Qc rfl rfl ?_ ?_ <;> (intro hb; have hc := hb; try simp only [go_sem] at hc)) | refine q6 rfl ?_ | (refine Qb ?_ ?_; focus kernel_rfl) | ((with_reducible apply And.intro); focus omega) | (refine z8 hK ?_; clear hK; simp only [go_sem, *]) | simp only [z6, z7, go_sem, *])
    refine V7 (h := h) (hs := q9 p) (F := zLs x.now) hw hwf ?_
    rw [if_pos hh, zLs]
    repeat' (first | (refine Qr rfl ?_; try intro _ hK; try simp only [go_sem, *]) | refine Qh rfl ?_ | refine Qd rfl (by kernel_rfl) ?_ | (refine Qc rfl rfl ?_ ?_ <;> (intro hb; have hc := hb; try simp only [go_sem] at hc)) | refine q6 rfl ?_ | (refine Qb ?_ ?_; focus kernel_rfl) | ((with_reducible apply And.intro); focus omega) | (refine z8 hK ?_; clear hK; simp only [go_sem, *]) | simp only [z6, z7, go_sem, *])
    refine V7 (h := h) (hs := q9 p) (F := zLs y.now) hw hwf ?_
    rw [if_pos hh, zLs]
    repeat' (first | (refine Qr rfl ?_; try intro _ hK; try simp only [go_sem, *]) | refine Qh rfl ?_ | refine Qd rfl (by kernel_rfl) ?_ | (refine Qc rfl rfl ?_ ?_ <;> (intro hb; have hc := hb; try simp only [go_sem] at hc)) | refine q6 rfl ?_ | (refine Qb ?_ ?_; focus kernel_rfl) | (refine y4 (sc) ?_; simp only [go_sem, *]) | ((with_reducible apply And.intro); focus omega) | (refine z8 hK ?_; clear hK; simp only [go_sem, *]) | simp only [z6, z7, go_sem, *])
    all_goals try contradiction
    exact w6 (i' := j + 1) [some 0, some 1] [] (n + 1) (by rw [← hQ]; simp; omega)
   ·have q' : decide (x.now h = y.now h) = false := by simpa using q
    rw [q'] at sc hQ
    clear q q'
    repeat' (first | (refine Qr rfl ?_; try intro _ hK; try simp only [go_sem, *]) | refine Qh rfl ?_ | refine Qd rfl (by kernel_rfl) ?_ | (refine Qc rfl rfl ?_ ?_ <;> (intro hb; have hc := hb; try simp only [go_sem] at hc)) | refine q6 rfl ?_ | (refine Qb ?_ ?_; focus kernel_rfl) | ((with_reducible apply And.intro); focus omega) | (refine z8 hK ?_; clear hK; simp only [go_sem, *]) | simp only [z6, z7, go_sem, *])
    refine V7 (h := h) (hs := q9 p) (F := zLs x.now) hw hwf ?_
    rw [if_pos hh, zLs]
    repeat' (first | (refine Qr rfl ?_; try intro _ hK; try simp only [go_sem, *]) | refine Qh rfl ?_ | refine Qd rfl (by kernel_rfl) ?_ | (refine Qc rfl rfl ?_ ?_ <;> (intro hb; have hc := hb; try simp only [go_sem] at hc)) | refine q6 rfl ?_ | (refine Qb ?_ ?_; focus kernel_rfl) | ((with_reducible apply And.intro); focus omega) | (refine z8 hK ?_; clear hK; simp only [go_sem, *]) | simp only [z6, z7, go_sem, *])
    refine V7 (h := h) (hs := q9 p) (F := zLs y.now) hw hwf ?_
    rw [if_pos hh, zLs]
    repeat' (first | (refine Qr rfl ?_; try intro _ hK; try simp only [go_sem, *]) | refine Qh rfl ?_ | refine Qd rfl (by kernel_rfl) ?_ | (refine Qc rfl rfl ?_ ?_ <;> (intro hb; have hc := hb; try simp only [go_sem] at hc)) | refine q6 rfl ?_ | (refine Qb ?_ ?_; focus kernel_rfl) | (refine y4 (sc) ?_; simp only [go_sem, *]) | ((with_reducible apply And.intro); focus omega) | (refine z8 hK ?_; clear hK; simp only [go_sem, *]) | simp only [z6, z7, go_sem, *])
    all_goals try contradiction
    exact w6 (i' := j + 1) [some 0, some 1] [] (n) (by rw [← hQ]; simp)
  ·rw [u7 (by omega)] at hQ
   have hn : n = Z4 l h x := by simpa using hQ
   subst hn
   have hmx := zGL m (Z4 l h x)
   repeat' (first | (refine Qr rfl ?_; try intro _ hK; try simp only [go_sem, *]) | refine Qh rfl ?_ | refine Qd rfl (by kernel_rfl) ?_ | (refine Qc rfl rfl ?_ ?_ <;> (intro hb; have hc := hb; try simp only [go_sem] at hc)) | refine q6 rfl ?_ | (refine Qb ?_ ?_; focus kernel_rfl) | ((with_reducible apply And.intro); focus omega) | (refine z8 hK ?_; clear hK; simp only [go_sem, *]) | simp only [z6, z7, go_sem, *])
   exact w6 (i' := i + 1) [some 0] [] (max m (Z4 l h x)) (by exact hP)
 ·rw [u7 (by omega)] at hP
  have hP2 : m = G := hP
  subst hP2
  repeat' (first | (refine Qr rfl ?_; try intro _ hK; try simp only [go_sem, *]) | refine Qh rfl ?_ | refine Qd rfl (by kernel_rfl) ?_ | (refine Qc rfl rfl ?_ ?_ <;> (intro hb; have hc := hb; try simp only [go_sem] at hc)) | refine q6 rfl ?_ | (refine Qb ?_ ?_; focus kernel_rfl) | ((with_reducible apply And.intro); focus omega) | (refine z8 hK ?_; clear hK; simp only [go_sem, *]) | simp only [z6, z7, go_sem, *])
  (refine ⟨[_], [], [], ⟨rfl, trivial⟩, ?_⟩; simp only [go_sem, *])
theorem zHC (a b : Int) : zLp prog 103 [iV a, iV b] [] (iV (IntKind.i64.wrap (a - b))) [] := by
 refine q8 func103 rfl (fun E hE => ?_); simp only [go_sem, ntmps103]
 repeat' (first | (refine Qr rfl ?_; try intro _ hK; try simp only [go_sem, *]) | refine Qh rfl ?_ | (refine Qc rfl rfl ?_ ?_ <;> (intro hb; have hc := hb; try simp only [go_sem] at hc)) | refine q6 rfl ?_ | ((with_reducible apply And.intro); focus omega) | (refine z8 hK ?_; clear hK; simp only [go_sem, *]) | simp only [z6, z7, go_sem, *])
 (refine ⟨[_], [], [], ⟨rfl, trivial⟩, ?_⟩; simp only [go_sem, *])
theorem zF7 {g : List Nat} {i : Nat} {a : Int} (hi : i < g.length) : Q6 g (g.drop i) i a = Q6 g (g.drop (i + 1)) (i + 1) (if a < 0 ∨ g.getD i default < g.getD a.toNat 0 then i else a) := by
 rw [u0 hi, Q6]
theorem zCF (g : List Nat) : ∀ (r : List Nat) (i : Nat) (a : Int), r.length + i = g.length → -1 ≤ a ∧ a < g.length → -1 ≤ Q6 g r i a ∧ Q6 g r i a < g.length
 | [], _, a, _, h => h
 | x :: r, i, a, hl, h => by
  rw [Q6]
  refine zCF g r (i + 1) _ (by simp at hl; omega) ?_
  split
  ·simp at hl; omega
  ·exact h
theorem zF8 {g : List Nat} (h : 0 < g.length) : -1 ≤ Z0 g ∧ Z0 g < g.length := zCF g g 0 (-1) (by omega) (by omega)
theorem zHx (g : List Nat) (hl : g.length ≤ 1000) (hs : ∀ x, x ∈ g → x ≤ 1000) :
  zLp prog 102 [.list (g.map fun n => iV (n : Nat)), fnV 103] [] (iV (Z0 g)) [] := by
 have hca : p9 prog 103 = true := by kernel_rfl
 have hG0 : Q6 g (g.drop 0) 0 (-1) = Z0 g := rfl
 generalize Z0 g = G at *
 refine q8 func102 rfl (fun E hE => ?_); simp only [go_sem, ntmps102]
 repeat' (first | (refine Qr rfl ?_; try intro _ hK; try simp only [go_sem, *]) | (refine Qi rfl rfl rfl rfl ?_ ?_ <;> (intro hb; (try intro _ hK); have hc := hb; try simp only [go_sem] at hc; simp only [go_sem, *])) | refine Qh rfl ?_ | (refine Qc rfl rfl ?_ ?_ <;> (intro hb; have hc := hb; try simp only [go_sem] at hc)) | refine q6 rfl ?_ | ((with_reducible apply And.intro); focus omega) | (refine z8 hK ?_; clear hK; simp only [go_sem, *]) | simp only [z6, z7, go_sem, *])
 refine u4 rfl (g.length) (fun i (a : Int) => Q6 g (g.drop i) i a = G ∧ -1 ≤ a ∧ a < i) 30 (fun i a => [(10, iV i), (9, iV g.length), (8, .list (g.map fun n => iV (n : Nat))), (0, .list (g.map fun n => iV (n : Nat))), (1, fnV 103), (5, iV a)]) (fun i a => []) [] [] (-1) (by exact ⟨hG0, by omega, by omega⟩) ?_; intro i a hi hP
 obtain ⟨hP, ha1, ha2⟩ := hP
 by_cases hi2 : i < g.length
 ·rw [zF7 hi2] at hP
  have hx := hs _ (w8 hi2)
  by_cases ha : a < 0
  ·have hd : decide (a < 0) = true := by simpa using ha
   rw [if_pos (.inl ha)] at hP
   repeat' (first | (refine Qr rfl ?_; try intro _ hK; try simp only [go_sem, *]) | (refine Qi rfl rfl rfl rfl ?_ ?_ <;> (intro hb; (try intro _ hK); have hc := hb; try simp only [go_sem] at hc; simp only [go_sem, *])) | refine Qh rfl ?_ | (refine Qc rfl rfl ?_ ?_ <;> (intro hb; have hc := hb; try simp only [go_sem] at hc)) | refine q6 rfl ?_ | ((with_reducible apply And.intro); focus omega) | (refine z8 hK ?_; clear hK; simp only [go_sem, *]) | simp only [z6, z7, go_sem, *])
   all_goals try contradiction
   exact w6 (i' := i + 1) [] [] ((i : Int)) (by exact ⟨hP, by omega, by omega⟩)
  ·obtain ⟨k, rfl⟩ : ∃ k : Nat, a = (k : Int) := ⟨a.toNat, by omega⟩
   have hk : k < g.length := by omega
   have hy := hs _ (w8 hk)
   have hd : decide ((k : Int) < 0) = false := by simp
   have hkl : ((k : Int) < (g.length : Int)) := by omega
   have e0 : g.getD (k : Int).toNat 0 = g.getD k default := rfl
   rw [e0] at hP
   clear e0
   have sa := zHC ((g.getD i default : Nat) : Int) ((g.getD k default : Nat) : Int)
   rw [wrap_i64 (by omega) (by omega)] at sa
   by_cases hc0 : g.getD i default < g.getD k default
   ·rw [if_pos (.inr hc0)] at hP
    have hd2 : ((g.getD i default : Nat) : Int) - ((g.getD k default : Nat) : Int) < 0 := by omega
    repeat' (first | (refine Qr rfl ?_; try intro _ hK; try simp only [go_sem, *]) | (refine Qi rfl rfl rfl rfl ?_ ?_ <;> (intro hb; (try intro _ hK); have hc := hb; try simp only [go_sem] at hc; simp only [go_sem, *])) | refine Qh rfl ?_ | (refine Qc rfl rfl ?_ ?_ <;> (intro hb; have hc := hb; try simp only [go_sem] at hc)) | refine q6 rfl ?_ | (refine y4 (sa) ?_; simp only [go_sem, *]) | ((with_reducible apply And.intro); focus omega) | (refine z8 hK ?_; clear hK; simp only [go_sem, *]) | simp only [z6, z7, go_sem, *])
    all_goals try contradiction
    all_goals first | omega | skip
    exact w6 (i' := i + 1) [] [] ((i : Int)) (by exact ⟨hP, by omega, by omega⟩)
   ·rw [if_neg (by omega)] at hP
    have hd2 : ¬ ((g.getD i default : Nat) : Int) - ((g.getD k default : Nat) : Int) < 0 := by omega
    repeat' (first | (refine Qr rfl ?_; try intro _ hK; try simp only [go_sem, *]) | (refine Qi rfl rfl rfl rfl ?_ ?_ <;> (intro hb; (try intro _ hK); have hc := hb; try simp only [go_sem] at hc; simp only [go_sem, *])) | refine Qh rfl ?_ | (refine Qc rfl rfl ?_ ?_ <;> (intro hb; have hc := hb; try simp only [go_sem] at hc)) | refine q6 rfl ?_ | (refine y4 (sa) ?_; simp only [go_sem, *]) | ((with_reducible apply And.intro); focus omega) | (refine z8 hK ?_; clear hK; simp only [go_sem, *]) | simp only [z6, z7, go_sem, *])
    all_goals try contradiction
    all_goals first | omega | skip
    exact w6 (i' := i + 1) [] [] ((k : Int)) (by exact ⟨hP, by omega, by omega⟩)
 ·rw [u7 (by omega)] at hP
  have hP2 : a = G := hP
  subst hP2
  repeat' (first | (refine Qr rfl ?_; try intro _ hK; try simp only [go_sem, *]) | (refine Qi rfl rfl rfl rfl ?_ ?_ <;> (intro hb; (try intro _ hK); have hc := hb; try simp only [go_sem] at hc; simp only [go_sem, *])) | refine Qh rfl ?_ | (refine Qc rfl rfl ?_ ?_ <;> (intro hb; have hc := hb; try simp only [go_sem] at hc)) | refine q6 rfl ?_ | ((with_reducible apply And.intro); focus omega) | (refine z8 hK ?_; clear hK; simp only [go_sem, *]) | simp only [z6, z7, go_sem, *])
  (refine ⟨[_], [], [], ⟨rfl, trivial⟩, ?_⟩; simp only [go_sem, *])
end Go.Abs

namespace Go.Abs
open Go Go.Proofs Tryz
attribute [local irreducible] y6 Hold x8
section
variable {P : Program} {E : Env} {Q : Exit → AS → Prop} {σ : AS} {p : List Nat} {b c : Code} {l : Nat}
def zAf : Code → Code
 | .rangeFunc _ _ a _ => a
 | _ => .skip
def zAg : Code → Code
 | .rangeFunc _ _ _ b => b
 | _ => .skip
def zFz : Code → Option (Operand × Array Tmp)
 | .rangeFunc g ps _ _ => some (g, ps)
 | _ => none
theorem zCj {id : Nat} {ops : List Oper} (h : c = .region id ops.toArray false) (hx : y6 P ops (fun σ' _ => Q .normal σ') ops σ []) : HoldR l P E c Q σ := by rw [h]; exact zFa hx
theorem zGl {id : Nat} (h : zB8 c = some id) (hx : HoldR l P E (zBR 0 c) (z7 id Q) σ) : HoldR l P E c Q σ := by
 cases c with
 | block i c => cases h; exact zFZ hx
 | _ => cases h
theorem zG3 {g : Operand} {ps : Array Tmp} (h : zFz (sub p b) = some (g, ps)) {f : FuncId} {caps : List AV} (hg : σ.ev g = .fn f caps) (hc : p9 P f = true) {nx : Nat} (hnx : σ.obj nx = .unb)
  (hx : ∀ fn, ∃ nx', x8 P f (.yld nx :: caps) (σ.setO nx (.loopo ⟨fn, ps, zAf (sub p b), zAg (sub p b), σ.n⟩ σ.env (some none))).obj nx' (fun _ _ wr => zCk P E Q nx ((σ.setO nx (.loopo ⟨fn, ps, zAf (sub p b), zAg (sub p b), σ.n⟩ σ.env (some none))).writes wr))) : Hold P E (sub p b) Q σ := by
 cases hq : sub p b with
 | rangeFunc g' ps' a b' =>
  rw [hq] at h hx; cases h
  exact zFh hg hc hnx hx
 | _ => rw [hq] at h; cases h
theorem zG6 {id : Nat} {ops : List Oper} (k : Nat) (h : sub p b = .region id ops.toArray false) {o : Oper} (hk : ops[k]? = some o) {fo : Operand} {args : Array Operand} {ts : Array TypeId} (hop : o.op = .call ⟨.value fo, args, ts⟩)
  (hx : y6 P ops (fun σ1 _ => l8 ops σ1 o
   ((match o.dst with | some d => ltN d σ1.n | none => True) ∧ C6 P (σ1.ev fo) (args.toList.map σ1.ev) σ1.obj σ1.nx (fun v _ wr => y6 P ops (fun σ' _ => Q .normal σ') (ops.drop (k + 1)) ((σ1.writes wr).putD o.dst v) []))
   ((match o.dst with | some d => ltN d σ1.n | none => True) ∧ y6 P ops (fun σ' _ => Q .normal σ') (ops.drop (k + 1)) (σ1.putD o.dst (.tup [])) [])) (ops.take k) σ []) : Hold P E (sub p b) Q σ := by
 obtain ⟨hlt, he⟩ := List.getElem?_eq_some_iff.1 hk
 have e : ops = ops.take k ++ o :: ops.drop (k + 1) := by
  rw [← he, ← List.drop_eq_getElem_cons hlt, List.take_append_drop]
 obtain ⟨pre, hpre⟩ : ∃ pre, pre = ops.take k := ⟨_, rfl⟩
 obtain ⟨post, hpost⟩ : ∃ post, post = ops.drop (k + 1) := ⟨_, rfl⟩
 rw [← hpre, ← hpost] at e hx
 rw [h]
 clear h hk he hlt hpre hpost
 subst e
 exact zFm hop hx
end
theorem zFO {all : List Oper} {σ : AS} {o : Oper} {j d : Nat} {want : Bool} {Y N : Prop} (hg : o.guard = some (j, want)) (hj : (all[j]?).bind (·.dst) = some d) (hv : σ.get d = .raw (.bool want)) (h : Y) : l8 all σ o Y N := by
 unfold l8
 rw [hg]
 simp only [hj, hv]
 show gIf want want Y N
 unfold gIf
 exact ⟨fun _ => h, fun e => by cases want <;> cases e⟩
theorem zId {P : Program} {y : AV} {avs : List AV} {H : Nat → AObj} {nx : Nat} {K : Cont} {oid : Nat} (ids ex : List Nat) {args : List AV} {fp : List AObj} {r : AV} {out : List AObj} (sp : B2 P args fp r out)
  (hy : y = .yld oid) (hh : ids.head? = some oid) (h1 : ids.Nodup) (h2 : XpL H (ids.map some) ex args avs) (h3 : fpsF H (ids.map some) ex fp ids) (h4 : ∀ o, o ∈ ex → o ∉ ids) (h5 : ex = [] ∨ (Scal r ∧ ∀ A, A ∈ out → M9 A))
  (h6 : ∀ j, j < out.length - ids.length → H (nx + j) = .unb) (h7 : ∀ A, A ∈ out → A ≠ .unb) (hk : K (r.ren (v7 ids nx)) (ids ++ ex ++ i4 ids nx out) (r6 ids nx out)) : C6 P y avs H nx K := by
 refine ⟨oid, ids, ex, args, fp, r, out, hy, hh, ⟨sp, h1, h4, ?_, (fpsF.sound h3).1, fun k h => ?_, h5, h6, h7⟩, hk⟩
 ·rw [← E7]; exact XpL.all2 h2
 ·rw [← E7]; exact (fpsF.sound h3).2 k h
theorem zBM {P : Program} {f : FuncId} {avs as' args : List AV} {H : Nat → AObj} {nx : Nat} {K : Cont} {r : AV} {fp out : List AObj} (ids gone : List Nat) (sp : zLp P f args fp r out) (ha : (avs.map fun x => (zLq H 3 x).1) = as') (hg : (avs.map fun x => (zLq H 3 x).2).flatten = gone)
  (h1 : ids.Nodup) (h2 : XpL (fun o => if o ∈ gone then .dead else H o) (ids.map some) [] args as') (h3 : fpsF (fun o => if o ∈ gone then .dead else H o) (ids.map some) [] fp ids)
  (h6 : ∀ j, j < out.length - ids.length → (if nx + j ∈ gone then AObj.dead else H (nx + j)) = .unb) (h7 : ∀ A, A ∈ out → A ≠ .unb)
  (hk : K (r.ren (v7 ids nx)) (gone ++ (ids ++ i4 ids nx out)) (v6 gone ++ r6 ids nx out)) : x8 P f avs H nx K := by
 refine zBL ?_
 rw [ha, hg]
 exact B5 ids [] sp h1 h2 h3 (by simp) (.inl rfl) h6 h7 (by simpa using hk)
theorem L0 {H : Nat → AObj} {m : List (Option Nat)} {ex : List Nat} {x y : AV} : ∀ (xs : List AV), (∀ z, z ∈ xs → XpF H m ex z z) → (XpL H m ex (xs ++ [x]) (xs ++ [y]) ↔ XpF H m ex x y)
 | [], _ => by simp only [List.nil_append, C9, zBB, and_true]
 | z :: r, h => by
  simp only [List.cons_append, C9]
  rw [L0 r (fun z hz => h z (by simp [hz]))]
  exact ⟨fun h => h.2, fun h2 => ⟨h z (by simp), h2⟩⟩
@[go_sem] theorem zI0 (H : Nat → AObj) (m : List (Option Nat)) (ex : List Nat) (x y : AV) (p : zLo) : XpL H m ex (List.map y7 p ++ [x]) (List.map y7 p ++ [y]) ↔ XpF H m ex x y :=
 L0 _ (fun z hz => by
  obtain ⟨l, _, rfl⟩ := List.mem_map.1 hz
  simp only [XpF])
@[go_sem] theorem zI3 (H : Nat → AObj) (m : List (Option Nat)) (ex : List Nat) (x y : AV) (i : Nat) (p : zLo) : XpL H m ex (List.take i (List.map y7 p) ++ [x]) (List.take i (List.map y7 p) ++ [y]) ↔ XpF H m ex x y :=
 L0 _ (fun z hz => by
  obtain ⟨l, _, rfl⟩ := List.mem_map.1 (List.mem_of_mem_take hz)
  simp only [XpF])
theorem zHf (p : zLo) (v : Valid p) : zLp prog 112 [x7 p] [] (x7 p) [] := by
 have hp3 := v.len
 refine q8 func112 rfl (fun E hE => ?_); simp only [go_sem, ntmps112]
 repeat' (first | (refine Qr rfl ?_; try intro _ hK; try simp only [go_sem, *]) | refine Qh rfl ?_ | refine Qd rfl (by kernel_rfl) ?_ | (refine Qc rfl rfl ?_ ?_ <;> (intro hb; have hc := hb; try simp only [go_sem] at hc)) | refine q6 rfl ?_ | (refine Qb ?_ ?_; focus kernel_rfl) | ((with_reducible apply And.intro); focus omega) | (refine z8 hK ?_; clear hK; simp only [go_sem, *]) | simp only [z6, z7, go_sem, *])
 refine u3 rfl (p.length) (fun i => NoP i) 23 (fun i => [(10, iV i), (9, iV p.length), (8, .list (p.map y7)), (2, .ptr 0 0), (3, .ptr 1 0)]) (fun i => [.box [zLz], .box [.own 2 1 0 i], .box ((p.take i).map y7)]) [some 1, some 2, none] [] (by trivial) ?_; intro i hi hP
 by_cases hi2 : i < p.length
 ·have hr := (v.rows _ (w8 hi2)).len
  have sc := zHI (p.getD i default) (by omega)
  have e := Z8 (l := p) (i := i) hi2
  repeat' (first | (refine Qr rfl ?_; try intro _ hK; try simp only [go_sem, *]) | refine Qh rfl ?_ | refine Qd rfl (by kernel_rfl) ?_ | (refine Qc rfl rfl ?_ ?_ <;> (intro hb; have hc := hb; try simp only [go_sem] at hc)) | refine q6 rfl ?_ | (refine Qb ?_ ?_; focus kernel_rfl) | (refine s8 (sc) ?_; simp only [go_sem, *]) | ((with_reducible apply And.intro); focus omega) | (refine z8 hK ?_; clear hK; simp only [go_sem, *]) | simp only [z6, z7, go_sem, *])
  exact u2 (i' := i + 1) [some 0, some 1, some 5] [3] (by trivial)
 ·have e : p.take i = p := List.take_of_length_le (by omega)
  repeat' (first | (refine Qr rfl ?_; try intro _ hK; try simp only [go_sem, *]) | refine Qh rfl ?_ | refine Qd rfl (by kernel_rfl) ?_ | (refine Qc rfl rfl ?_ ?_ <;> (intro hb; have hc := hb; try simp only [go_sem] at hc)) | refine q6 rfl ?_ | (refine Qb ?_ ?_; focus kernel_rfl) | ((with_reducible apply And.intro); focus omega) | (refine z8 hK ?_; clear hK; simp only [go_sem, *]) | simp only [z6, z7, go_sem, *])
  refine ⟨[.agg [.own 2 1 0 i]], [], [2], ⟨by simp only [u1, go_sem], trivial⟩, ?_⟩
  simp only [go_sem, *]
  simp
  omega
end Go.Abs

namespace Go.Abs
open Go Go.Proofs Tryz
attribute [local irreducible] y6 Hold x8
noncomputable def zBH : Code := sub [0, 1, 0, 1, 1, 1, 1] (B4 Tryz.f100)
noncomputable def c0 (fn : FuncId) : LoopK := ⟨fn, #[19], zAf zBH, zAg zBH, 26⟩
theorem zIf (fn : FuncId) (p : zLo) (t : Truth) (acc : List Truth) (h : acc.length ≤ 1000) :
  B2 prog [t.enc p] [.loopo (c0 fn) [(7, .ptr 1 0)] (some none), .box [.own 2 3 0 acc.length], .row 3 (acc.map (Truth.enc p))] (bV true)
   [.loopo (c0 fn) [(7, .ptr 1 0)] (some none), .box [.own 3 3 0 (acc ++ [t]).length], .dead, .row 3 ((acc ++ [t]).map (Truth.enc p))] := by
 refine zIg (L := c0 fn) (env := [(7, .ptr 1 0)]) (j := none) rfl rfl (fun E l hE => ?_)
 refine zCj rfl ?_
 simp only [c0, U1, go_sem]
 repeat' (first | (refine Qr (ops := _ :: _) rfl ?_; try intro _ hK; try simp only [go_sem, *]) | (refine Qi rfl rfl rfl rfl ?_ ?_ <;> (intro hb; (try intro _ hK); have hc := hb; try simp only [go_sem] at hc; simp only [go_sem, *])) | (refine Qb ?_ ?_; focus kernel_rfl) | ((with_reducible apply And.intro); focus omega) | (refine z8 hK ?_; clear hK; simp only [go_sem, *]) | simp only [z6, z7, go_sem, *])
 refine zAm ?_
 refine ⟨by simp only [go_sem], ?_⟩
 refine zGl (id := 1) rfl ?_
 refine zCj rfl ?_
 simp only [go_sem]
 repeat' (first | (refine Qr (ops := _ :: _) rfl ?_; try intro _ hK; try simp only [go_sem, *]) | (refine Qi rfl rfl rfl rfl ?_ ?_ <;> (intro hb; (try intro _ hK); have hc := hb; try simp only [go_sem] at hc; simp only [go_sem, *])) | (refine Qb ?_ ?_; focus kernel_rfl) | ((with_reducible apply And.intro); focus omega) | (refine z8 hK ?_; clear hK; simp only [go_sem, *]) | simp only [z6, z7, go_sem, *])
 refine zAm ?_
 refine ⟨by simp only [go_sem], rfl, [some 0, some 1, some 2, some 5], [], ?_⟩
 simp only [go_sem, *]
 simp [lkV, XpF]
end Go.Abs

namespace Go.Abs
open Go Go.Proofs Tryz
attribute [local irreducible] y6 Hold x8
abbrev G7 : AV := .fn 162 [.ptr 0 0, .ptr 1 0, .ptr 2 0]
noncomputable def zAD (fn : FuncId) (s : Story) (acc : List Truth) : List AObj :=
 [.box [.ptr 3 0], .box [.yld 4], .box [G7], l0 s, .loopo (c0 fn) [(7, .ptr 5 0)] (some none), .box [.own 6 3 0 acc.length], .row 3 (acc.map (Truth.enc s.first))]
noncomputable def zAE (fn : FuncId) (s : Story) (acc : List Truth) : List AObj :=
 [.box [.ptr 3 0], .box [.yld 4], .box [G7], l0 s, .loopo (c0 fn) [(7, .ptr 5 0)] (some none), .box [.own 7 3 0 acc.length], .dead, .row 3 (acc.map (Truth.enc s.first))]
attribute [go_sem] zAD zAE
theorem zHm (fn : FuncId) (s : Story) (o0 : Told s) (t : Truth) (o : TOk s 0 t) (acc : List Truth) (ha : acc.length ≤ 1000) :
  zLp prog 162 [t.enc s.first, .ptr 0 0, .ptr 1 0, .ptr 2 0] (zAD fn s acc) (bV true) (zAE fn s (acc ++ p7 s 0 t)) := by
 have hst := o.steps
 have hst2 : ((t.ways.length : Int) == (s.steps.length : Int)) = true := by simp; omega
 have hfl := o0.facts
 have hsrc : ∀ f, f ∈ s.facts → f.src ∈ q9 s.first := fun f hf => (o0.fact f hf).1
 have hnl : ∀ h, h ∈ q9 s.first → (t.now h).length ≤ 1000 := fun h hh => by have := o.small o0.steps hh; omega
 have sf := fun b hb => zHk s t o0.first (by omega) hsrc hnl b hb
 have sy := zIf fn s.first t acc ha
 rw [G8]
 by_cases q : f7 s.facts t = true
 ·rw [if_pos q]
  have sf1 := sf true q
  clear sf q
  refine q8 func162 rfl (fun E hE => ?_); simp only [go_sem, ntmps162]
  repeat' (first | (refine Qr rfl ?_; try intro _ hK; try simp only [go_sem, *]) | (refine Qi rfl rfl rfl rfl ?_ ?_ <;> (intro hb; (try intro _ hK); have hc := hb; try simp only [go_sem] at hc; simp only [go_sem, *])) | refine Qh rfl ?_ | refine Qd rfl (by kernel_rfl) ?_ | (refine Qb ?_ ?_; focus kernel_rfl) | ((with_reducible apply And.intro); focus omega) | (refine z8 hK ?_; clear hK; simp only [go_sem, *]) | simp only [z6, z7, go_sem, *])
  refine zCs rfl ⟨true, by simp only [go_sem, *], fun _ => ?_, fun e => by cases e⟩
  refine M0 rfl ?_
  refine zG6 7 rfl rfl rfl ?_
  simp only [List.take_succ_cons, List.take_zero, List.drop_succ_cons, List.drop_zero]
  repeat' (first | (refine Qr (ops := _ :: _) rfl ?_; try intro _ hK; try simp only [go_sem, *]) | (refine Qi rfl rfl rfl rfl ?_ ?_ <;> (intro hb; (try intro _ hK); have hc := hb; try simp only [go_sem] at hc; simp only [go_sem, *])) | (refine Qb ?_ ?_; focus kernel_rfl) | ((with_reducible apply And.intro); focus omega) | (refine z8 hK ?_; clear hK; simp only [go_sem, *]) | simp only [z6, z7, go_sem, *])
  refine y9 [3] [] sf1 (by simp) (by simp only [go_sem]) (by simp only [go_sem]) (by simp) (.inl rfl) (by simp [go_sem]) (by simp [go_sem]) ?_
  simp only [go_sem]
  repeat' (first | (refine Qr (ops := _ :: _) rfl ?_; try intro _ hK; try simp only [go_sem, *]) | (refine Qi rfl rfl rfl rfl ?_ ?_ <;> (intro hb; (try intro _ hK); have hc := hb; try simp only [go_sem] at hc; simp only [go_sem, *])) | (refine Qb ?_ ?_; focus kernel_rfl) | ((with_reducible apply And.intro); focus omega) | (refine z8 hK ?_; clear hK; simp only [go_sem, *]) | simp only [z6, z7, go_sem, *])
  refine zAm ?_
  refine zFO rfl rfl (by simp only [go_sem]) ?_
  refine ⟨by simp only [go_sem], ?_⟩
  simp only [go_sem]
  refine zId [4, 5, 6] [] sy rfl rfl (by simp) (by simp only [go_sem]) ?_ (by simp) (.inl rfl) (by simp [go_sem]) (by simp [go_sem]) ?_
  ·simp only [go_sem]
  simp only [go_sem]
  repeat' (first | (refine Qr rfl ?_; try intro _ hK; try simp only [go_sem, *]) | (refine Qi rfl rfl rfl rfl ?_ ?_ <;> (intro hb; (try intro _ hK); have hc := hb; try simp only [go_sem] at hc; simp only [go_sem, *])) | refine Qh rfl ?_ | refine Qd rfl (by kernel_rfl) ?_ | (refine Qc rfl rfl ?_ ?_ <;> (intro hb; have hc := hb; try simp only [go_sem] at hc)) | refine q6 rfl ?_ | (refine Qb ?_ ?_; focus kernel_rfl) | ((with_reducible apply And.intro); focus omega) | (refine z8 hK ?_; clear hK; simp only [go_sem, *]) | simp only [z6, z7, go_sem, *])
  refine ⟨[_], [some 0, some 1, some 2, some 3, some 4, some 5, some 6, some 8], [], ⟨rfl, trivial⟩, ?_⟩
  simp only [go_sem, *]
 ·rw [if_neg q, List.append_nil]
  rw [Bool.not_eq_true] at q
  have sf1 := sf false q
  clear sf q
  refine q8 func162 rfl (fun E hE => ?_); simp only [go_sem, ntmps162]
  repeat' (first | (refine Qr rfl ?_; try intro _ hK; try simp only [go_sem, *]) | (refine Qi rfl rfl rfl rfl ?_ ?_ <;> (intro hb; (try intro _ hK); have hc := hb; try simp only [go_sem] at hc; simp only [go_sem, *])) | refine Qh rfl ?_ | refine Qd rfl (by kernel_rfl) ?_ | (refine Qc rfl rfl ?_ ?_ <;> (intro hb; have hc := hb; try simp only [go_sem] at hc)) | refine q6 rfl ?_ | (refine Qb ?_ ?_; focus kernel_rfl) | ((with_reducible apply And.intro); focus omega) | (refine z8 hK ?_; clear hK; simp only [go_sem, *]) | simp only [z6, z7, go_sem, *])
  all_goals try contradiction
  refine y9 [3] [] sf1 (by simp) (by simp only [go_sem]) (by simp only [go_sem]) (by simp) (.inl rfl) (by simp [go_sem]) (by simp [go_sem]) ?_
  simp only [go_sem]
  repeat' (first | (refine Qr rfl ?_; try intro _ hK; try simp only [go_sem, *]) | (refine Qi rfl rfl rfl rfl ?_ ?_ <;> (intro hb; (try intro _ hK); have hc := hb; try simp only [go_sem] at hc; simp only [go_sem, *])) | refine Qh rfl ?_ | refine Qd rfl (by kernel_rfl) ?_ | (refine Qc rfl rfl ?_ ?_ <;> (intro hb; have hc := hb; try simp only [go_sem] at hc)) | refine q6 rfl ?_ | (refine Qb ?_ ?_; focus kernel_rfl) | ((with_reducible apply And.intro); focus omega) | (refine z8 hK ?_; clear hK; simp only [go_sem, *]) | simp only [z6, z7, go_sem, *])
  refine ⟨[_], [some 0, some 1, some 2, some 3, some 4, some 5, some 6, some 6], [], ⟨rfl, trivial⟩, ?_⟩
  simp only [go_sem, *]
theorem zC3 (fn : FuncId) (s : Story) (o0 : Told s) : ∀ (n : Nat) (t : Truth), TOk s n t → ∀ acc : List Truth, acc.length + (p7 s n t).length ≤ 1000 →
  zLp prog 162 [t.enc s.first, .ptr 0 0, .ptr 1 0, .ptr 2 0] (zAD fn s acc) (bV true) (zAE fn s (acc ++ p7 s n t))
 | 0, t, o, acc, ha => zHm fn s o0 t o acc (by omega)
 | n + 1, t, o, acc, ha => by
  have IH := zC3 fn s o0 n
  have hst := o.steps
  have hst2 : ((t.ways.length : Int) == (s.steps.length : Int)) = false := by simp; omega
  have hkl : t.ways.length < s.steps.length := by omega
  have hw3 := (o0.ways _ (w8 hkl)).2.1
  have h3 := o0.steps
  have v0 := o0.first
  rw [zFN] at ha ⊢
  obtain ⟨w, hw⟩ : ∃ w, w = s.steps.getD t.ways.length default := ⟨_, rfl⟩
  have hwa : w9 s t.ways.length = w := hw.symm
  rw [← hw] at hw3
  obtain ⟨tot, htot⟩ : ∃ tot, tot = acc ++ j5 s n t 0 := ⟨_, rfl⟩
  rw [← htot]
  have hac0 : acc ++ j5 s n t 0 = tot := htot.symm
  have htl : tot.length ≤ 1000 := by rw [htot, List.length_append]; omega
  clear htot ha
  have hcl := zHG t.ways (by omega)
  have hca : p9 prog 162 = true := by kernel_rfl
  refine q8 func162 rfl (fun E hE => ?_); simp only [go_sem, ntmps162]
  repeat' (first | (refine Qr rfl ?_; try intro _ hK; try simp only [go_sem, *]) | (refine Qi rfl rfl rfl rfl ?_ ?_ <;> (intro hb; (try intro _ hK); have hc := hb; try simp only [go_sem] at hc; simp only [go_sem, *])) | refine Qh rfl ?_ | refine Qd rfl (by kernel_rfl) ?_ | (refine Qc rfl rfl ?_ ?_ <;> (intro hb; have hc := hb; try simp only [go_sem] at hc)) | refine q6 rfl ?_ | (refine Qb ?_ ?_; focus kernel_rfl) | ((with_reducible apply And.intro); focus omega) | (refine z8 hK ?_; clear hK; simp only [go_sem, *]) | simp only [z6, z7, go_sem, *])
  all_goals try contradiction
  rw [← hw]
  refine u4 rfl (w.length) (fun i (ac : List Truth) => ac ++ j5 s n t i = tot) 79 (fun i ac => [(41, iV i), (40, iV w.length), (39, .list (w.map Change.enc)), (4, .ptr 7 0), (1, .ptr 0 0), (2, .ptr 1 0), (3, .ptr 2 0)]) (fun i ac => [.box [.ptr 3 0], .box [.yld 4], .box [G7], l0 s, .loopo (c0 fn) [(7, .ptr 5 0)] (some none), .box [.own 8 3 0 ac.length], .dead, .box [.list (t.ways.map iV), .list (t.fin.map y7), .fmap (w5 s.first) (w4 s.first t.now)], .row 3 (ac.map (Truth.enc s.first))]) [some 0, some 1, some 2, some 3, some 4, some 5, some 6, some 7, some 6] [] (acc) (by exact hac0) ?_; intro i ac hi hP
  clear hac0 hw
  by_cases hi2 : i < w.length
  ·obtain ⟨s1, s2⟩ := zAt t.fin (w.getD i default) o.val
   by_cases hcan : can t.fin (w.getD i default) = 0
   ·rw [zFM (by rw [hwa]; exact hi2) (by rw [hwa]; exact hcan), hwa] at hP
    have se := s2 hcan
    have f := Fit.of_can hcan
    have o2 := o.next hcan i
    have hal := congrArg List.length hP
    simp only [List.length_append] at hal
    have sg := IH (n0 t (w.getD i default) i) o2 ac (by omega)
    clear s1 s2 IH
    have sa := zAq t.fin (w.getD i default) o.val f
    rw [o.town] at sa
    have sth := zH7 (q9 s.first) (q9 t.fin) t.now (mv t.fin (w.getD i default)) v0.nodup v0.wf o.val.wf o.mem (fun h hh => o.flat_nodup f hh) (fun h hh => by have := o.small2 h3 f hh; omega)
     (by have := v0.count; omega) (fun h hh => by have := o.small h3 hh; omega) (fun x _ => by have := zAb f x; omega)
    repeat' (first | (refine Qr rfl ?_; try intro _ hK; try simp only [go_sem, *]) | (refine Qi rfl rfl rfl rfl ?_ ?_ <;> (intro hb; (try intro _ hK); have hc := hb; try simp only [go_sem] at hc; simp only [go_sem, *])) | refine Qh rfl ?_ | (refine Qc rfl rfl ?_ ?_ <;> (intro hb; have hc := hb; try simp only [go_sem] at hc)) | refine q6 rfl ?_ | (refine Qb ?_ ?_; focus kernel_rfl) | (refine s8 (se) ?_; simp only [go_sem, *]) | ((with_reducible apply And.intro); focus omega) | (refine z8 hK ?_; clear hK; simp only [go_sem, *]) | simp only [z6, z7, go_sem, *])
    all_goals try contradiction
    generalize w.getD i default = c at *
    refine G9 (N := 79) (env := [(9, .fmap (w5 t.fin) (w4 t.fin (mv t.fin c))), (7, iV i), (41, iV i), (40, iV w.length), (39, .list (w.map Change.enc)), (4, .ptr 7 0), (1, .ptr 0 0), (2, .ptr 1 0), (3, .ptr 2 0)])
     (As := [.box [.ptr 3 0], .box [.yld 4], .box [G7], l0 s, .loopo (c0 fn) [(7, .ptr 5 0)] (some none), .box [.own 8 3 0 ac.length], .dead, .box [.list (t.ways.map iV), .list (t.fin.map y7), .fmap (w5 s.first) (w4 s.first t.now)], .row 3 (ac.map (Truth.enc s.first))])
     [some 0, some 1, some 2, some 3, some 4, some 5, some 6, some 7, some 8] [10] (by (simp only [Weak, go_sem, List.map_append, List.map_set, *] <;> (try simp (disch := omega) only [t8]) <;> (try simp) <;> (try omega))) ?_
    simp only [go_sem]
    repeat' (first | (refine Qr rfl ?_; try intro _ hK; try simp only [go_sem, *]) | (refine Qi rfl rfl rfl rfl ?_ ?_ <;> (intro hb; (try intro _ hK); have hc := hb; try simp only [go_sem] at hc; simp only [go_sem, *])) | refine Qh rfl ?_ | refine Qd rfl (by kernel_rfl) ?_ | (refine Qc rfl rfl ?_ ?_ <;> (intro hb; have hc := hb; try simp only [go_sem] at hc)) | refine q6 rfl ?_ | (refine Qb ?_ ?_; focus kernel_rfl) | ((first | refine y4 (sa) ?_ | refine y4 (sth) ?_); simp only [go_sem, *]) | (refine s8 (hcl) ?_; simp only [go_sem, *]) | ((with_reducible apply And.intro); focus omega) | (refine z8 hK ?_; clear hK; simp only [go_sem, *]) | simp only [z6, z7, go_sem, *])
    refine zBM [0, 1, 2, 3, 4, 5, 8] [11] sg rfl (by simp only [go_sem, Nat.le_refl]) (by simp) ?_ ?_ (by simp [go_sem]) (by simp [go_sem]) ?_
    ·simp only [go_sem, *, Nat.le_refl]
     exact ⟨by simp [n0, List.take_of_length_le], rfl, rfl⟩
    ·simp only [go_sem, *]
    simp only [go_sem, v6, *]
    repeat' (first | (refine Qr rfl ?_; try intro _ hK; try simp only [go_sem, *]) | (refine Qi rfl rfl rfl rfl ?_ ?_ <;> (intro hb; (try intro _ hK); have hc := hb; try simp only [go_sem] at hc; simp only [go_sem, *])) | refine Qh rfl ?_ | refine Qd rfl (by kernel_rfl) ?_ | (refine Qc rfl rfl ?_ ?_ <;> (intro hb; have hc := hb; try simp only [go_sem] at hc)) | refine q6 rfl ?_ | (refine Qb ?_ ?_; focus kernel_rfl) | ((with_reducible apply And.intro); focus omega) | (refine z8 hK ?_; clear hK; simp only [go_sem, *]) | simp only [z6, z7, go_sem, *])
    all_goals try contradiction
    exact w6 (i' := i + 1) [some 0, some 1, some 2, some 3, some 4, some 5, some 6, some 7, some 12] [] (ac ++ p7 s n (n0 t c i)) (by rw [← hP]; simp)
   ·rw [zFL (by rw [hwa]; exact hi2) (by rw [hwa]; exact hcan)] at hP
    have se := s1 hcan
    have hcb : (can t.fin (w.getD i default) == 0) = false := by simpa using hcan
    clear s1 s2 IH
    repeat' (first | (refine Qr rfl ?_; try intro _ hK; try simp only [go_sem, *]) | (refine Qi rfl rfl rfl rfl ?_ ?_ <;> (intro hb; (try intro _ hK); have hc := hb; try simp only [go_sem] at hc; simp only [go_sem, *])) | refine Qh rfl ?_ | (refine Qc rfl rfl ?_ ?_ <;> (intro hb; have hc := hb; try simp only [go_sem] at hc)) | refine q6 rfl ?_ | (refine Qb ?_ ?_; focus kernel_rfl) | (refine y4 (se) ?_; simp only [go_sem, *]) | ((with_reducible apply And.intro); focus omega) | (refine z8 hK ?_; clear hK; simp only [go_sem, *]) | simp only [z6, z7, go_sem, *])
    all_goals try contradiction
    exact w6 (i' := i + 1) [some 0, some 1, some 2, some 3, some 4, some 5, some 6, some 7, some 8] [] (ac) (by exact hP)
  ·rw [zFK (by rw [hwa]; omega), List.append_nil] at hP
   subst hP
   repeat' (first | (refine Qr rfl ?_; try intro _ hK; try simp only [go_sem, *]) | (refine Qi rfl rfl rfl rfl ?_ ?_ <;> (intro hb; (try intro _ hK); have hc := hb; try simp only [go_sem] at hc; simp only [go_sem, *])) | refine Qh rfl ?_ | refine Qd rfl (by kernel_rfl) ?_ | (refine Qc rfl rfl ?_ ?_ <;> (intro hb; have hc := hb; try simp only [go_sem] at hc)) | refine q6 rfl ?_ | (refine Qb ?_ ?_; focus kernel_rfl) | ((with_reducible apply And.intro); focus omega) | (refine z8 hK ?_; clear hK; simp only [go_sem, *]) | simp only [z6, z7, go_sem, *])
   refine ⟨[_], [some 0, some 1, some 2, some 3, some 4, some 5, some 6, some 8], [], ⟨rfl, trivial⟩, ?_⟩
   simp only [go_sem, *]
end Go.Abs

namespace Go.Abs
open Go Go.Proofs Tryz
attribute [local irreducible] y6 Hold x8
theorem zH9 (fn : FuncId) (s : Story) (o : Told s) :
  zLp prog 161 [.yld 2, .ptr 0 0] [.box [.ptr 1 0], l0 s, .loopo (c0 fn) [(7, .ptr 3 0)] (some none), .box [.own 4 3 0 0], .row 3 []] (.tup [])
   [.box [.ptr 1 0], l0 s, .loopo (c0 fn) [(7, .ptr 3 0)] (some none), .box [.own 5 3 0 (r5 s).length], .dead, .row 3 ((r5 s).map (Truth.enc s.first))] := by
 have v := o.first
 have hl := H0 o.steps (fun w hw => (o.ways w hw).2.1)
 have sg := zC3 fn s o s.steps.length (Y8 s) (A6 v) [] (by unfold r5 at hl; simp only [List.length_nil]; omega)
 rw [List.nil_append] at sg
 have hca : p9 prog 162 = true := by kernel_rfl
 have sc := zHf s.first v
 have ss := U4 s.first v
 have ht : p7 s s.steps.length (Y8 s) = r5 s := rfl
 rw [ht] at sg
 generalize r5 s = l at *
 clear ht
 refine q8 func161 rfl (fun E hE => ?_); simp only [go_sem, ntmps161]
 repeat' (first | (refine Qr rfl ?_; try intro _ hK; try simp only [go_sem, *]) | refine Qh rfl ?_ | refine Qd rfl (by kernel_rfl) ?_ | (refine Qc rfl rfl ?_ ?_ <;> (intro hb; have hc := hb; try simp only [go_sem] at hc)) | refine q6 rfl ?_ | (refine Qb ?_ ?_; focus kernel_rfl) | (refine y4 (sc) ?_; simp only [go_sem, *]) | (refine s8 (ss) ?_; simp only [go_sem, *]) | ((with_reducible apply And.intro); focus omega) | (refine z8 hK ?_; clear hK; simp only [go_sem, *]) | simp only [z6, z7, go_sem, *])
 refine zBM [0, 5, 6, 1, 2, 3, 4] [7] sg rfl (by simp only [go_sem]) (by simp) ?_ ?_ (by simp [go_sem]) (by simp [go_sem]) ?_
 ·simp only [go_sem, *]
  exact ⟨rfl, rfl, rfl⟩
 ·simp only [go_sem, *]
 simp only [go_sem, v6, *]
 repeat' (first | (refine Qr rfl ?_; try intro _ hK; try simp only [go_sem, *]) | refine Qh rfl ?_ | refine Qd rfl (by kernel_rfl) ?_ | (refine Qc rfl rfl ?_ ?_ <;> (intro hb; have hc := hb; try simp only [go_sem] at hc)) | refine q6 rfl ?_ | (refine Qb ?_ ?_; focus kernel_rfl) | ((with_reducible apply And.intro); focus omega) | (refine z8 hK ?_; clear hK; simp only [go_sem, *]) | simp only [z6, z7, go_sem, *])
 refine ⟨[], [some 0, some 1, some 2, some 3, some 4, some 8], [], trivial, ?_⟩
 simp only [go_sem, *]
theorem zH8 (s : Story) : zLp prog 139 [.ptr 0 0] [l0 s] (.fn 161 [.ptr 1 0]) [l0 s, .box [.ptr 0 0]] := by
 refine q8 func139 rfl (fun E hE => ?_); simp only [go_sem, ntmps139]
 repeat' (first | (refine Qr rfl ?_; try intro _ hK; try simp only [go_sem, *]) | refine Qh rfl ?_ | (refine Qc rfl rfl ?_ ?_ <;> (intro hb; have hc := hb; try simp only [go_sem] at hc)) | refine q6 rfl ?_ | ((with_reducible apply And.intro); focus omega) | (refine z8 hK ?_; clear hK; simp only [go_sem, *]) | simp only [z6, z7, go_sem, *])
 refine ⟨[_], [some 0, some 1], [], ⟨rfl, trivial⟩, ?_⟩
 simp only [go_sem, *]
theorem zLW (s : Story) (hst : s.steps.length ≤ 4294967296) (hwl : ∀ w, w ∈ s.steps → w.length ≤ 4294967296) (hfl : s.facts.length ≤ 4294967296) (hpl : s.first.length ≤ 4294967296) (h : r9 s ≠ 0) :
  zLp prog 100 [s.enc] [] (.tup [zMt, .list [], iV (r9 s)]) [] := by
 have sb := zC0 s hst hwl hfl hpl (.tup [zMt, iV (r9 s)]) [] (r9 s) rfl ⟨fun e => absurd e h, fun _ => ⟨rfl, rfl⟩⟩
 have hne : (r9 s != 0) = true := by simpa using h
 refine q8 func100 rfl (fun E hE => ?_); simp only [go_sem, ntmps100]
 repeat' (first | (refine Qr rfl ?_; try intro _ hK; try simp only [go_sem, *]) | refine Qh rfl ?_ | refine Qd rfl (by kernel_rfl) ?_ | (refine Qc rfl rfl ?_ ?_ <;> (intro hb; have hc := hb; try simp only [go_sem] at hc)) | refine q6 rfl ?_ | (refine Qb ?_ ?_; focus kernel_rfl) | (refine y4 (sb) ?_; simp only [go_sem, *]) | ((with_reducible apply And.intro); focus omega) | (refine z8 hK ?_; clear hK; simp only [go_sem, *]) | simp only [z6, z7, go_sem, *])
 all_goals try contradiction
 (refine ⟨[_, _, _], [], [], ⟨rfl, rfl, rfl, trivial⟩, ?_⟩; simp only [go_sem, *])
theorem zAr (s : Story) (h : r9 s = 0) :
  zLp prog 100 [s.enc] [] (.tup [.ptr 0 0, .list ((r5 s).map (Truth.enc s.first)), iV 0]) [l0 s] := by
 have o := C2 h
 have hl := H0 o.steps (fun w hw => (o.ways w hw).2.1)
 have sb := zC0 s (by have := o.steps; omega) (fun w hw => by have := (o.ways w hw).2.1; omega) (by have := o.facts; omega) (by have := o.first.len; omega) (.tup [.ptr 0 0, iV 0]) [l0 s] (r9 s) rfl ⟨fun _ => ⟨rfl, rfl⟩, fun e => absurd h e⟩
 have st := zH8 s
 have s1 := fun fn => zH9 fn s o
 generalize r5 s = l at *
 refine q8 func100 rfl (fun E hE => ?_); simp only [go_sem, ntmps100]
 repeat' (first | (refine Qr rfl ?_; try intro _ hK; try simp only [go_sem, *]) | refine Qh rfl ?_ | (refine Qc rfl rfl ?_ ?_ <;> (intro hb; have hc := hb; try simp only [go_sem] at hc)) | refine q6 rfl ?_ | (refine Qb ?_ ?_; focus kernel_rfl) | (refine s8 (sb) ?_; simp only [go_sem, *]) | ((with_reducible apply And.intro); focus omega) | (refine z8 hK ?_; clear hK; simp only [go_sem, *]) | simp only [z6, z7, go_sem, *])
 all_goals try contradiction
 refine y9 [1] [] st (by simp) (by simp only [go_sem]) (by simp only [go_sem]) (by simp) (.inl rfl) (by simp [go_sem]) (by simp [go_sem]) ?_
 simp only [go_sem]
 repeat' (first | (refine Qr rfl ?_; try intro _ hK; try simp only [go_sem, *]) | refine Qh rfl ?_ | (refine Qc rfl rfl ?_ ?_ <;> (intro hb; have hc := hb; try simp only [go_sem] at hc)) | refine q6 rfl ?_ | (refine Qb ?_ ?_; focus kernel_rfl) | ((with_reducible apply And.intro); focus omega) | (refine z8 hK ?_; clear hK; simp only [go_sem, *]) | simp only [z6, z7, go_sem, *])
 refine G9 (N := 26) (env := [(18, .fn 161 [.ptr 1 0]), (7, .ptr 2 0), (5, .ptr 0 0)]) (As := [l0 s, .box [.ptr 0 0], .box [.own 3 3 0 0], .row 3 []]) [some 1, some 3, some 2, none] [] (by (simp only [Weak, go_sem, List.map_append, List.map_set, *] <;> (try simp (disch := omega) only [t8]) <;> (try simp) <;> (try omega))) ?_
 refine zG3 (f := 161) (caps := [.ptr 1 0]) rfl (by simp only [go_sem]) (by kernel_rfl) (nx := 4) (by simp only [go_sem]) (fun fn => ⟨5, ?_⟩)
 refine y9 [1, 0, 4, 2, 3] [] (s1 fn) (by simp) (by simp only [go_sem]) ?_ (by simp) (.inl rfl) (by simp [go_sem]) (by simp [go_sem]) ?_
 ·simp only [go_sem, *]
  rfl
 ·simp only [go_sem, *]
  refine ⟨c0 fn, [(7, .ptr 2 0)], none, by simp only [go_sem], ?_⟩
  simp only [go_sem]
  repeat' (first | (refine Qr rfl ?_; try intro _ hK; try simp only [go_sem, *]) | refine Qh rfl ?_ | refine Qd rfl (by kernel_rfl) ?_ | (refine Qc rfl rfl ?_ ?_ <;> (intro hb; have hc := hb; try simp only [go_sem] at hc)) | refine q6 rfl ?_ | (refine Qb ?_ ?_; focus kernel_rfl) | ((with_reducible apply And.intro); focus omega) | (refine z8 hK ?_; clear hK; simp only [go_sem, *]) | simp only [z6, z7, go_sem, *])
  refine ⟨[_, _, _], [some 0], [5], ⟨rfl, rfl, rfl, trivial⟩, ?_⟩
  simp only [go_sem, *]
  simp [List.take_of_length_le]
end Go.Abs

namespace Go.Abs
open Go Go.Proofs Tryz
attribute [local irreducible] y6 Hold x8
attribute [go_sem] Nat.le_refl
section
variable {H : Nat → AObj} {m : List (Option Nat)} {ex : List Nat} {α : Type}
@[go_sem, simp] theorem zI2 (f : α → List AV) (l : List α) (i : Nat) (ys zs : List AV) : XpL H m ex (List.take i (List.map (fun t => AV.list (f t)) l) ++ [AV.list ys]) (List.take i (List.map (fun t => AV.list (f t)) l) ++ [AV.list zs]) ↔ ys = zs := by
 rw [L0 _ (fun z hz => by
  obtain ⟨t, _, rfl⟩ := List.mem_map.1 (List.mem_of_mem_take hz)
  simp only [XpF])]
 simp only [XpF]
@[go_sem, simp] theorem zIz (f : α → List AV) (l : List α) (ys zs : List AV) : XpL H m ex (List.map (fun t => AV.list (f t)) l ++ [AV.list ys]) (List.map (fun t => AV.list (f t)) l ++ [AV.list zs]) ↔ ys = zs := by
 rw [L0 _ (fun z hz => by
  obtain ⟨t, _, rfl⟩ := List.mem_map.1 hz
  simp only [XpF])]
 simp only [XpF]
end
theorem zHZ (s : Story) (h : r9 s = 0) : zLp prog 39 [s.enc] [] (.tup [.list ((C4 s).map j4), iV 0]) [] := by
 have o := C2 h
 have hl := H0 o.steps (fun w hw => (o.ways w hw).2.1)
 have sa := zAr s h
 unfold C4
 generalize r5 s = l at *
 refine q8 func39 rfl (fun E hE => ?_); simp only [go_sem, ntmps39]
 repeat' (first | (refine Qr rfl ?_; try intro _ hK; try simp only [go_sem, *]) | refine Qh rfl ?_ | (refine Qc rfl rfl ?_ ?_ <;> (intro hb; have hc := hb; try simp only [go_sem] at hc)) | refine q6 rfl ?_ | (refine s8 (sa) ?_; simp only [go_sem, *]) | ((with_reducible apply And.intro); focus omega) | (refine z8 hK ?_; clear hK; simp only [go_sem, *]) | simp only [z6, z7, go_sem, *])
 all_goals try contradiction
 refine u3 rfl (l.length) (fun i => NoP i) 32 (fun i => [(21, iV i), (20, iV l.length), (19, .list (l.map (Truth.enc s.first))), (7, .own 0 1 0 i)]) (fun i => [.box ((l.take i).map fun t => j4 t.ways)]) [none] [] (by trivial) ?_; intro i hi hP
 by_cases hi2 : i < l.length
 ·have e := Z8 (l := l) (i := i) hi2
  repeat' (first | (refine Qr rfl ?_; try intro _ hK; try simp only [go_sem, *]) | refine Qh rfl ?_ | (refine Qc rfl rfl ?_ ?_ <;> (intro hb; have hc := hb; try simp only [go_sem] at hc)) | refine q6 rfl ?_ | ((with_reducible apply And.intro); focus omega) | (refine z8 hK ?_; clear hK; simp only [go_sem, *]) | simp only [z6, z7, go_sem, *])
  exact u2 (i' := i + 1) [some 3] [] (by trivial)
 ·have e : l.take i = l := List.take_of_length_le (by omega)
  repeat' (first | (refine Qr rfl ?_; try intro _ hK; try simp only [go_sem, *]) | refine Qh rfl ?_ | (refine Qc rfl rfl ?_ ?_ <;> (intro hb; have hc := hb; try simp only [go_sem] at hc)) | refine q6 rfl ?_ | ((with_reducible apply And.intro); focus omega) | (refine z8 hK ?_; clear hK; simp only [go_sem, *]) | simp only [z6, z7, go_sem, *])
  refine ⟨[_, _], [], [0], ⟨rfl, rfl, trivial⟩, ?_⟩
  simp only [go_sem, *]
  exact ⟨by omega, fun x hx => by obtain ⟨_, _, rfl⟩ := List.mem_map.1 hx; rfl, .inl (by simp [Function.comp_def])⟩
theorem zHa (s : Story) (h : House) (he : M6 s h = 0) (hn : (P0 s h).Nodup) (h12 : (P0 s h).length ≤ 12) :
  zLp prog 58 [s.enc, h.enc] [] (.tup [.list ((zA0 s h).map House.enc), iV 0]) [] := by
 have hs : r9 s = 0 := by
  unfold M6 at he
  split at he <;> assumption
 have hh : h ∈ q9 s.first := by
  unfold M6 at he
  rw [if_pos hs] at he
  by_cases q : h ∈ q9 s.first
  ·exact q
  ·rw [if_neg q] at he; omega
 have hne : r5 s ≠ [] := by
  unfold M6 at he
  rw [if_pos hs, if_pos hh] at he
  intro e
  rw [if_pos e] at he; omega
 have o := C2 hs
 have hl := H0 o.steps (fun w hw => (o.ways w hw).2.1)
 have ht := zDU o.first
 have sa := zAr s hs
 have sc := zAo (q9 s.first) h (by have := o.first.count; omega)
 have e0 : decide (h ∈ q9 s.first) = true := by simpa using hh
 rw [e0] at sc
 have ss := zC7 (P0 s h) hn h12
 have hw := o.first.wf
 have hwf := hw _ hh
 have h3 := o.steps
 have hsm : ∀ t, t ∈ r5 s → (t.now h).length ≤ 8 := fun t hm => (ht t hm).small h3 hh
 unfold zA0
 have hwl : ([] : List House) ++ ((r5 s).drop 0).flatMap (fun t => t.now h) = P0 s h := rfl
 generalize P0 s h = W at *
 generalize r5 s = l at *
 have hl0 : ((l.length : Int) == 0) = false := by
  have : 0 < l.length := List.length_pos_iff.2 hne
  simp; omega
 clear he e0 ht hne
 refine q8 func58 rfl (fun E hE => ?_); simp only [go_sem, ntmps58]
 repeat' (first | (refine Qr rfl ?_; try intro _ hK; try simp only [go_sem, *]) | refine Qh rfl ?_ | refine Qd rfl (by kernel_rfl) ?_ | (refine Qc rfl rfl ?_ ?_ <;> (intro hb; have hc := hb; try simp only [go_sem] at hc)) | refine q6 rfl ?_ | (refine Qb ?_ ?_; focus kernel_rfl) | (refine s8 (sa) ?_; simp only [go_sem, *]) | (refine y4 (sc) ?_; simp only [go_sem, *]) | ((with_reducible apply And.intro); focus omega) | (refine z8 hK ?_; clear hK; simp only [go_sem, *]) | simp only [z6, z7, go_sem, *])
 all_goals try contradiction
 refine u4 rfl (l.length) (fun i (acc : List House) => acc ++ (l.drop i).flatMap (fun t => t.now h) = W) 46 (fun i acc => [(33, iV i), (32, iV l.length), (31, .list (l.map (Truth.enc s.first))), (9, .own 1 3 0 acc.length), (3, .ptr 0 0)]) (fun i acc => [.box [iV h.street, iV h.plate.number, iV h.plate.letter], .row 3 (acc.map House.enc)]) [some 1, none] [] ([]) (by exact hwl) ?_; intro i acc hi hP
 clear hwl
 have hql := congrArg List.length hP
 simp only [List.length_append] at hql
 by_cases hi2 : i < l.length
 ·have hti := hsm _ (w8 hi2)
  rw [u0 hi2, List.flatMap_cons] at hP
  repeat' (first | (refine Qr rfl ?_; try intro _ hK; try simp only [go_sem, *]) | refine Qh rfl ?_ | refine Qd rfl (by kernel_rfl) ?_ | (refine Qc rfl rfl ?_ ?_ <;> (intro hb; have hc := hb; try simp only [go_sem] at hc)) | refine q6 rfl ?_ | (refine Qb ?_ ?_; focus kernel_rfl) | ((with_reducible apply And.intro); focus omega) | (refine z8 hK ?_; clear hK; simp only [go_sem, *]) | simp only [z6, z7, go_sem, *])
  refine V7 (h := h) (hs := q9 s.first) (F := zLs (l.getD i default).now) hw hwf ?_
  rw [if_pos hh, zLs]
  repeat' (first | (refine Qr rfl ?_; try intro _ hK; try simp only [go_sem, *]) | refine Qh rfl ?_ | refine Qd rfl (by kernel_rfl) ?_ | (refine Qc rfl rfl ?_ ?_ <;> (intro hb; have hc := hb; try simp only [go_sem] at hc)) | refine q6 rfl ?_ | (refine Qb ?_ ?_; focus kernel_rfl) | ((with_reducible apply And.intro); focus omega) | (refine z8 hK ?_; clear hK; simp only [go_sem, *]) | simp only [z6, z7, go_sem, *])
  refine ⟨fun y hy => ?_, fun y hy => ?_, by omega, ?_⟩
  ·obtain ⟨z, _, rfl⟩ := List.mem_map.1 hy
   simp [go_sem]
  ·obtain ⟨z, _, rfl⟩ := List.mem_map.1 hy
   simp [go_sem]
  ·repeat' (first | (refine Qr rfl ?_; try intro _ hK; try simp only [go_sem, *]) | refine Qh rfl ?_ | refine Qd rfl (by kernel_rfl) ?_ | (refine Qc rfl rfl ?_ ?_ <;> (intro hb; have hc := hb; try simp only [go_sem] at hc)) | refine q6 rfl ?_ | (refine Qb ?_ ?_; focus kernel_rfl) | ((with_reducible apply And.intro); focus omega) | (refine z8 hK ?_; clear hK; simp only [go_sem, *]) | simp only [z6, z7, go_sem, *])
   exact w6 (i' := i + 1) [some 0, some 3] [] (acc ++ (l.getD i default).now h) (by rw [← hP]; simp)
 ·rw [u7 (by omega), List.flatMap_nil, List.append_nil] at hP
  subst hP
  clear hql
  repeat' (first | (refine Qr rfl ?_; try intro _ hK; try simp only [go_sem, *]) | refine Qh rfl ?_ | refine Qd rfl (by kernel_rfl) ?_ | (refine Qc rfl rfl ?_ ?_ <;> (intro hb; have hc := hb; try simp only [go_sem] at hc)) | refine q6 rfl ?_ | (refine Qb ?_ ?_; focus kernel_rfl) | ((with_reducible apply And.intro); focus omega) | (refine z8 hK ?_; clear hK; simp only [go_sem, *]) | simp only [z6, z7, go_sem, *])
  (refine o7 (ss) (by simp only [go_sem, *]; done) rfl (by simp only [go_sem]; done) (by simp) (by simp) ?_; simp only [go_sem, v6, *])
  repeat' (first | (refine Qr rfl ?_; try intro _ hK; try simp only [go_sem, *]) | refine Qh rfl ?_ | refine Qd rfl (by kernel_rfl) ?_ | (refine Qc rfl rfl ?_ ?_ <;> (intro hb; have hc := hb; try simp only [go_sem] at hc)) | refine q6 rfl ?_ | (refine Qb ?_ ?_; focus kernel_rfl) | ((with_reducible apply And.intro); focus omega) | (refine z8 hK ?_; clear hK; simp only [go_sem, *]) | simp only [z6, z7, go_sem, *])
  (refine ⟨[_, _], [], [], ⟨rfl, rfl, trivial⟩, ?_⟩; simp only [go_sem, *])
  trace_state
def zMi : Option (House × Nat) → AV → Prop
 | some (h, n), R => R = .tup [h.enc, iV n, iV 0]
 | none, R => R = .tup [(⟨0, ⟨0, 0⟩⟩ : House).enc, iV 0, iV 11]
theorem zHD (s : Story) (h : r9 s = 0) (R : AV) (hR : zMi (H3 s) R) :
  zLp prog 46 [s.enc] [] R [] := by
 have o := C2 h
 have v := o.first
 have hct := v.count
 have h3 := o.steps
 have hl := H0 h3 (fun w hw => (o.ways w hw).2.1)
 have ht := zDU v
 have sa := zAr s h
 have hsm : ∀ t, t ∈ r5 s → ∀ x, x ∈ q9 s.first → (t.now x).length ≤ 1000 := fun t hm x hx => by have := (ht t hm).small h3 hx; omega
 unfold H3 T7 at hR
 generalize r5 s = l at *
 clear ht
 have hgs : ∀ x, x ∈ (q9 s.first).map (o8 l) → x ≤ 1000 := fun x hx => by
  obtain ⟨y, _, rfl⟩ := List.mem_map.1 hx
  have := zBo l y; omega
 have sl := zHx ((q9 s.first).map (o8 l)) (by simp; omega) hgs
 refine q8 func46 rfl (fun E hE => ?_); simp only [go_sem, ntmps46]
 repeat' (first | (refine Qr rfl ?_; try intro _ hK; try simp only [go_sem, *]) | (refine Qi rfl rfl rfl rfl ?_ ?_ <;> (intro hb; (try intro _ hK); have hc := hb; try simp only [go_sem] at hc; simp only [go_sem, *])) | refine Qh rfl ?_ | refine Qd rfl (by kernel_rfl) ?_ | (refine Qc rfl rfl ?_ ?_ <;> (intro hb; have hc := hb; try simp only [go_sem] at hc)) | refine q6 rfl ?_ | (refine Qb ?_ ?_; focus kernel_rfl) | (refine s8 (sa) ?_; simp only [go_sem, *]) | ((with_reducible apply And.intro); focus omega) | (refine z8 hK ?_; clear hK; simp only [go_sem, *]) | simp only [z6, z7, go_sem, *])
 all_goals try contradiction
 refine u3 rfl ((q9 s.first).length) (fun i => NoP i) 67 (fun i => [(26, iV i), (25, iV (q9 s.first).length), (24, .list ((q9 s.first).map House.enc)), (7, .own 2 1 0 i), (6, .list (l.map (Truth.enc s.first))), (5, .ptr 1 0), (2, .ptr 0 0)]) (fun i => [.box [iV 0, iV 0, iV 0], l0 s, .row 1 (((q9 s.first).take i).map fun x => iV (o8 l x : Nat))]) [some 1, some 2, none] [] (by trivial) ?_; intro i hi hP
 by_cases hi2 : i < (q9 s.first).length
 ·have e := Z8 (l := q9 s.first) (i := i) hi2
  have hm := w8 hi2
  have sg := zHl s.first l ((q9 s.first).getD i default) v hm (by omega) (fun t ht => hsm t ht _ hm)
  repeat' (first | (refine Qr rfl ?_; try intro _ hK; try simp only [go_sem, *]) | (refine Qi rfl rfl rfl rfl ?_ ?_ <;> (intro hb; (try intro _ hK); have hc := hb; try simp only [go_sem] at hc; simp only [go_sem, *])) | refine Qh rfl ?_ | refine Qd rfl (by kernel_rfl) ?_ | (refine Qc rfl rfl ?_ ?_ <;> (intro hb; have hc := hb; try simp only [go_sem] at hc)) | refine q6 rfl ?_ | (refine Qb ?_ ?_; focus kernel_rfl) | (refine y4 (sg) ?_; simp only [go_sem, *]) | ((with_reducible apply And.intro); focus omega) | (refine z8 hK ?_; clear hK; simp only [go_sem, *]) | simp only [z6, z7, go_sem, *])
  exact u2 (i' := i + 1) [some 0, some 1, some 5] [] (by trivial)
 ·have e : (q9 s.first).take i = q9 s.first := List.take_of_length_le (by omega)
  have e2 : (q9 s.first).length ≤ i := by omega
  have hlr := zF8 (g := (q9 s.first).map (o8 l))
  obtain ⟨a, ha⟩ : ∃ a, a = Z0 ((q9 s.first).map (o8 l)) := ⟨_, rfl⟩
  have hneg : (q9 s.first).length = 0 → a < 0 := fun h => by
   rw [ha, List.eq_nil_of_length_eq_zero h]; show Z0 [] < 0; decide
  rw [← ha] at sl hlr hR
  simp only [List.length_map] at hlr
  clear ha
  repeat' (first | (refine Qr rfl ?_; try intro _ hK; try simp only [go_sem, *]) | (refine Qi rfl rfl rfl rfl ?_ ?_ <;> (intro hb; (try intro _ hK); have hc := hb; try simp only [go_sem] at hc; simp only [go_sem, *])) | refine Qh rfl ?_ | refine Qd rfl (by kernel_rfl) ?_ | (refine Qc rfl rfl ?_ ?_ <;> (intro hb; have hc := hb; try simp only [go_sem] at hc)) | refine q6 rfl ?_ | (refine Qb ?_ ?_; focus kernel_rfl) | ((with_reducible apply And.intro); focus omega) | (refine z8 hK ?_; clear hK; simp only [go_sem, *]) | simp only [z6, z7, go_sem, *])
  refine B6 [2] sl ?_ (.raw _) ?_
  ·simp only [go_sem, *]
   simp [Function.comp_def, List.take_of_length_le, e2]
  simp only [go_sem, *]
  by_cases hl0 : l.length = 0
  ·rw [if_pos (.inl hl0)] at hR
   have hl1 : ((l.length : Int) == 0) = true := by simpa using hl0
   clear hneg hlr
   have hR2 := hR
   unfold zMi at hR2
   clear hR
   subst hR2
   repeat' (first | (refine Qr rfl ?_; try intro _ hK; try simp only [go_sem, *]) | (refine Qi rfl rfl rfl rfl ?_ ?_ <;> (intro hb; (try intro _ hK); have hc := hb; try simp only [go_sem] at hc; simp only [go_sem, *])) | refine Qh rfl ?_ | refine Qd rfl (by kernel_rfl) ?_ | (refine Qc rfl rfl ?_ ?_ <;> (intro hb; have hc := hb; try simp only [go_sem] at hc)) | refine q6 rfl ?_ | (refine Qb ?_ ?_; focus kernel_rfl) | ((with_reducible apply And.intro); focus omega) | (refine z8 hK ?_; clear hK; simp only [go_sem, *]) | simp only [z6, z7, go_sem, *])
   refine ⟨[.agg [iV 0, iV 0, iV 0], iV 0, iV 11], [], [], ⟨(by simp only [u1, go_sem]), rfl, rfl, trivial⟩, ?_⟩; simp only [go_sem, *]
  have hl1 : ((l.length : Int) == 0) = false := by simpa using hl0
  by_cases ha0 : a < 0
  ·rw [if_pos (.inr (.inl ha0))] at hR
   clear hneg hlr
   have hR2 := hR
   unfold zMi at hR2
   clear hR
   subst hR2
   repeat' (first | (refine Qr rfl ?_; try intro _ hK; try simp only [go_sem, *]) | (refine Qi rfl rfl rfl rfl ?_ ?_ <;> (intro hb; (try intro _ hK); have hc := hb; try simp only [go_sem] at hc; simp only [go_sem, *])) | refine Qh rfl ?_ | refine Qd rfl (by kernel_rfl) ?_ | (refine Qc rfl rfl ?_ ?_ <;> (intro hb; have hc := hb; try simp only [go_sem] at hc)) | refine q6 rfl ?_ | (refine Qb ?_ ?_; focus kernel_rfl) | ((with_reducible apply And.intro); focus omega) | (refine z8 hK ?_; clear hK; simp only [go_sem, *]) | simp only [z6, z7, go_sem, *])
   all_goals first | contradiction | omega | skip
   refine ⟨[.agg [iV 0, iV 0, iV 0], iV 0, iV 11], [], [], ⟨(by simp only [u1, go_sem]), rfl, rfl, trivial⟩, ?_⟩; simp only [go_sem, *]
  ·obtain ⟨k, rfl⟩ : ∃ k : Nat, a = (k : Int) := ⟨a.toNat, by omega⟩
   have hk : k < (q9 s.first).length := by
    have : 0 < (q9 s.first).length := by
     rcases Nat.eq_zero_or_pos (q9 s.first).length with h | h
     ·exact absurd (hneg h) ha0
     ·exact h
    have := hlr this
    omega
   have hgk : ((q9 s.first).map (o8 l)).getD (k : Int).toNat 0 = o8 l ((q9 s.first).getD k default) := by
    simp [List.getD, hk]
   rw [hgk] at hR
   clear hneg hlr hgk
   have hki : k < i := by omega
   by_cases hg : o8 l ((q9 s.first).getD k default) = l.length
   ·rw [if_pos (.inr (.inr hg))] at hR
    have hgi : (((o8 l ((q9 s.first).getD k default) : Nat) : Int) == (l.length : Int)) = true := by rw [beq_iff_eq]; omega
    clear hg
    have hR2 := hR
    unfold zMi at hR2
    clear hR
    subst hR2
    repeat' (first | (refine Qr rfl ?_; try intro _ hK; try simp only [go_sem, *]) | (refine Qi rfl rfl rfl rfl ?_ ?_ <;> (intro hb; (try intro _ hK); have hc := hb; try simp only [go_sem] at hc; simp only [go_sem, *])) | refine Qh rfl ?_ | refine Qd rfl (by kernel_rfl) ?_ | (refine Qc rfl rfl ?_ ?_ <;> (intro hb; have hc := hb; try simp only [go_sem] at hc)) | refine q6 rfl ?_ | (refine Qb ?_ ?_; focus kernel_rfl) | ((with_reducible apply And.intro); focus omega) | (refine z8 hK ?_; clear hK; simp only [go_sem, *]) | simp only [z6, z7, go_sem, *])
    all_goals first | contradiction | omega | skip
    refine ⟨[.agg [iV 0, iV 0, iV 0], iV 0, iV 11], [], [], ⟨(by simp only [u1, go_sem]), rfl, rfl, trivial⟩, ?_⟩; simp only [go_sem, *]
   ·rw [if_neg (by rintro (h | h | h) <;> omega)] at hR
    have hgi : (((o8 l ((q9 s.first).getD k default) : Nat) : Int) == (l.length : Int)) = false := by rw [beq_eq_false_iff_ne]; omega
    clear hg
    have hR2 := hR
    unfold zMi at hR2
    clear hR
    simp only [Int.toNat_natCast] at hR2
    subst hR2
    repeat' (first | (refine Qr rfl ?_; try intro _ hK; try simp only [go_sem, *]) | (refine Qi rfl rfl rfl rfl ?_ ?_ <;> (intro hb; (try intro _ hK); have hc := hb; try simp only [go_sem] at hc; simp only [go_sem, *])) | refine Qh rfl ?_ | refine Qd rfl (by kernel_rfl) ?_ | (refine Qc rfl rfl ?_ ?_ <;> (intro hb; have hc := hb; try simp only [go_sem] at hc)) | refine q6 rfl ?_ | (refine Qb ?_ ?_; focus kernel_rfl) | ((with_reducible apply And.intro); focus omega) | (refine z8 hK ?_; clear hK; simp only [go_sem, *]) | simp only [z6, z7, go_sem, *])
    all_goals first | contradiction | omega | skip
    refine ⟨[((q9 s.first).getD k default).enc, iV (o8 l ((q9 s.first).getD k default) : Nat), iV 0], [], [], ⟨(by simp only [u1, go_sem]), rfl, rfl, trivial⟩, ?_⟩; simp only [go_sem, *]
end Go.Abs

namespace Go.Abs
open Go Go.Proofs Tryz
attribute [local irreducible] y6 Hold x8
theorem zDf : a7 townX E2 = 0 := by kernel_rfl
theorem zLc : zLp prog 20 [] [] (bV true) [] := by
 have sAfter := zHA townX V4 (by decide)
 rw [if_pos zDe, zIY, zDe] at sAfter
 have sTruths := zHZ taleX zA6
 rw [zDg] at sTruths
 have sWhere := zHa taleX (atX 0 1) zIc (by rw [zDh]; decide) (by rw [zDh]; decide)
 rw [zIb] at sWhere
 have sAsk := zHD taleX zA6 (.tup [(atX 0 1).enc, iV (1 : Nat), iV 0]) (by rw [zIZ]; rfl)
 have sGuess := zHS townX E2 (by decide) (by decide)
 rw [if_pos zDf, zIa, zDf] at sGuess
 have sRow1 := D8 [1, 2, 4, 5, 7, 8] (by decide)
 have sRow2 := D8 [1, 2, 3, 4, 5, 7, 8] (by decide)
 have sPlan1 := zAw (zMA [1, 2, 4, 5, 7, 8]) [] []
 have sPlan2 := zAw (zMA [1, 2, 3, 4, 5, 7, 8]) [] []
 have sEq1 := zHO E0 E0 (by decide) (by decide)
 have sEq2 := zHM [[0, 0], [1, 0]] [[0, 0], [1, 0]] (by decide) (by decide)
 have sEq3 := zHN [atX 0 2, atX 0 5] [atX 0 2, atX 0 5] (by decide)
 have sEq4 := zHK [V4, H8] [V4, H8] (by decide)
 have sJoin := zC5 1 0
 have sAt1 := zAu 0 1
 have sAt2 := zAu 0 2
 have sAt5 := zAu 0 5
 have sOne := zHz 6 0 3
 simp only [E0, E2, V4, H8, zeroPlate, atX, decide_true, zMb, Option.getD_some] at *
 refine q8 func20 rfl (fun E hE => ?_); simp only [go_sem, ntmps20]
 repeat' (first | (refine Qr rfl ?_; try intro _ hK; try simp only [go_sem, *]) | (refine Qi rfl rfl rfl rfl ?_ ?_ <;> (intro hb; (try intro _ hK); have hc := hb; try simp only [go_sem] at hc; simp only [go_sem, *])) | refine Qh rfl ?_ | (refine Qc rfl rfl ?_ ?_ <;> (intro hb; have hc := hb; try simp only [go_sem] at hc)) | refine q6 rfl ?_ | (refine Qb ?_ ?_; focus kernel_rfl) | ((first | refine y4 (zC8) ?_ | refine y4 (sJoin) ?_ | refine y4 (sAfter) ?_ | refine y4 (sTruths) ?_ | refine y4 (sAt1) ?_ | refine y4 (sWhere) ?_ | refine y4 (sAsk) ?_); simp only [go_sem, *]) | (refine o7 (zH6) ?_ rfl ?_ ?_ ?_ ?_; (iterate 2 (focus (simp only [go_sem, *]; done))); (iterate 2 (focus (first | (simp; done) | (simp [go_sem]; done)))); simp only [go_sem, v6, *]) | (refine o7 (sRow1) ?_ rfl ?_ ?_ ?_ ?_; (iterate 2 (focus (simp only [go_sem, *]; done))); (iterate 2 (focus (first | (simp; done) | (simp [go_sem]; done)))); simp only [go_sem, v6, *]) | (refine o7 (sPlan1) ?_ rfl ?_ ?_ ?_ ?_; (iterate 2 (focus (simp only [go_sem, *]; done))); (iterate 2 (focus (first | (simp; done) | (simp [go_sem]; done)))); simp only [go_sem, v6, *]) | (refine o7 (sGuess) ?_ rfl ?_ ?_ ?_ ?_; (iterate 2 (focus (simp only [go_sem, *]; done))); (iterate 2 (focus (first | (simp; done) | (simp [go_sem]; done)))); simp only [go_sem, v6, *]) | ((with_reducible apply And.intro); focus omega) | (refine z8 hK ?_; clear hK; simp only [go_sem, *]) | simp only [z6, z7, go_sem, *])
 all_goals try contradiction
 repeat' (first | (refine Qr rfl ?_; try intro _ hK; try simp only [go_sem, *]) | (refine Qi rfl rfl rfl rfl ?_ ?_ <;> (intro hb; (try intro _ hK); have hc := hb; try simp only [go_sem] at hc; simp only [go_sem, *])) | refine Qh rfl ?_ | refine Qd rfl (by kernel_rfl) ?_ | (refine Qc rfl rfl ?_ ?_ <;> (intro hb; have hc := hb; try simp only [go_sem] at hc)) | refine q6 rfl ?_ | (refine Qb ?_ ?_; focus kernel_rfl) | ((first | refine y4 (sJoin) ?_ | refine y4 (sOne) ?_ | refine y4 (sAt1) ?_ | refine y4 (sAt2) ?_ | refine y4 (sAt5) ?_); simp only [go_sem, *]) | (refine o7 (sRow2) ?_ rfl ?_ ?_ ?_ ?_; (iterate 2 (focus (simp only [go_sem, *]; done))); (iterate 2 (focus (first | (simp; done) | (simp [go_sem]; done)))); simp only [go_sem, v6, *]) | (refine o7 (sPlan2) ?_ rfl ?_ ?_ ?_ ?_; (iterate 2 (focus (simp only [go_sem, *]; done))); (iterate 2 (focus (first | (simp; done) | (simp [go_sem]; done)))); simp only [go_sem, v6, *]) | (refine o7 (sEq1) ?_ rfl ?_ ?_ ?_ ?_; (iterate 2 (focus (simp only [go_sem, *]; done))); (iterate 2 (focus (first | (simp; done) | (simp [go_sem]; done)))); simp only [go_sem, v6, *]) | (refine o7 (sEq2) ?_ rfl ?_ ?_ ?_ ?_; (iterate 2 (focus (simp only [go_sem, *]; done))); (iterate 2 (focus (first | (simp; done) | (simp [go_sem]; done)))); simp only [go_sem, v6, *]) | (refine o7 (sEq3) ?_ rfl ?_ ?_ ?_ ?_; (iterate 2 (focus (simp only [go_sem, *]; done))); (iterate 2 (focus (first | (simp; done) | (simp [go_sem]; done)))); simp only [go_sem, v6, *]) | (refine o7 (sEq4) ?_ rfl ?_ ?_ ?_ ?_; (iterate 2 (focus (simp only [go_sem, *]; done))); (iterate 2 (focus (first | (simp; done) | (simp [go_sem]; done)))); simp only [go_sem, v6, *]) | ((with_reducible apply And.intro); focus omega) | (refine z8 hK ?_; clear hK; simp only [go_sem, *]) | simp only [z6, z7, go_sem, *])
 (refine ⟨[_], [], [], ⟨rfl, trivial⟩, ?_⟩; simp only [go_sem, *])
end Go.Abs

namespace Go.Abs
open Go Go.Proofs Tryz
attribute [local irreducible] y6 Hold x8
attribute [go_sem] u9 Nat.le_refl Nat.sub_zero Int.reduceGT Nat.reduceGT Int.reduceGE
@[go_sem ↓] theorem zKJ (a b : Int) (K : Cont) : zMZ .xor .u64 a b K = K (uV (Z9 a b)) [] [] := rfl
@[go_sem ↓] theorem zLR (a b : Int) (K : Cont) : S6 .shl .u64 a b K = (0 ≤ b ∧ K (uV (J9 a b.toNat)) [] []) := rfl
@[go_sem ↓] theorem zLS (a b : Int) (K : Cont) : S6 .shr .u64 a b K = (0 ≤ b ∧ K (uV (k9 a b.toNat)) [] []) := rfl
@[go_sem] theorem zJb (s : Int) : Z9 s (J9 s 13) = zMq s := rfl
@[go_sem] theorem zJc (s : Int) : Z9 s (k9 s 7) = zMr s := rfl
@[go_sem] theorem zJd (s : Int) : Z9 s (J9 s 17) = zMs s := rfl
@[go_sem] theorem zJe (s : Int) : zMs (zMr (zMq s)) = J2 s := rfl
@[go_sem] theorem zJf (n : Int) : IntKind.u64.wrap (Z9 n (k9 n 30) * 10723151780598845931) = zMk n := rfl
theorem zH2 (d : Dice) (h : d.list.length ≤ 4294967296) : zLp prog 95 [.ptr 0 0] [u9 d] (uV (zMJ d)) [u9 (zMH d)] := by
 have e2 : (zMH d).list = d.list := rfl
 have e4 : (zMH d).seed = zMN d := rfl
 have e6 : zMJ d = Z9 (zMk (zMN d)) (k9 (zMk (zMN d)) 31) := rfl
 by_cases q : d.at_ < d.list.length
 ·have q2 : ((d.at_ : Int) < (d.list.length : Int)) := by omega
  have e1 : zMN d = IntKind.u64.wrap (J2 d.seed + IntKind.u64.wrap (IntKind.u64.wrap (d.list.getD d.at_ default) * 13787848793156543929)) := by unfold zMN; rw [if_pos q]
  have e3 : (zMH d).at_ = d.at_ + 1 := by unfold zMH; simp only; rw [if_pos q]
  have e5 : IntKind.i64.wrap ((d.at_ : Int) + 1) = ((d.at_ + 1 : Nat) : Int) := t8 (by omega)
  generalize zMH d = d' at *
  refine q8 func95 rfl (fun E hE => ?_); simp only [go_sem, ntmps95]
  repeat' (first | (refine Qr rfl ?_; try intro _ hK; try simp only [go_sem, *]) | refine Qh rfl ?_ | refine Qd rfl (by kernel_rfl) ?_ | (refine Qc rfl rfl ?_ ?_ <;> (intro hb; have hc := hb; try simp only [go_sem] at hc)) | refine q6 rfl ?_ | (refine Qb ?_ ?_; focus kernel_rfl) | ((with_reducible apply And.intro); focus omega) | (refine z8 hK ?_; clear hK; simp only [go_sem, *]) | simp only [z6, z7, go_sem, *])
  all_goals first | contradiction | omega | skip
  refine ⟨[_], [some 0], [], ⟨rfl, trivial⟩, ?_⟩
  simp only [go_sem, *]
 ·have q2 : ¬ ((d.at_ : Int) < (d.list.length : Int)) := by omega
  have e1 : zMN d = J2 d.seed := by unfold zMN; rw [if_neg q]
  have e3 : (zMH d).at_ = d.at_ := by unfold zMH; simp only; rw [if_neg q]
  generalize zMH d = d' at *
  refine q8 func95 rfl (fun E hE => ?_); simp only [go_sem, ntmps95]
  repeat' (first | (refine Qr rfl ?_; try intro _ hK; try simp only [go_sem, *]) | refine Qh rfl ?_ | refine Qd rfl (by kernel_rfl) ?_ | (refine Qc rfl rfl ?_ ?_ <;> (intro hb; have hc := hb; try simp only [go_sem] at hc)) | refine q6 rfl ?_ | (refine Qb ?_ ?_; focus kernel_rfl) | ((with_reducible apply And.intro); focus omega) | (refine z8 hK ?_; clear hK; simp only [go_sem, *]) | simp only [z6, z7, go_sem, *])
  all_goals first | contradiction | omega | skip
  refine ⟨[_], [some 0], [], ⟨rfl, trivial⟩, ?_⟩
  simp only [go_sem, *]
theorem r4 (n : Int) (d : Dice) : (toD n d).list = d.list := by unfold toD; split <;> rfl
theorem X9 (d : Dice) (n : Int) (h : d.list.length ≤ 4294967296) (hn : n ≤ 4294967296) : zLp prog 30 [.ptr 0 0, iV n] [u9 d] (iV (toN n d)) [u9 (toD n d)] := by
 by_cases q : n < 1
 ·have e1 : toN n d = 0 := by unfold toN; rw [if_pos q]
  have e2 : toD n d = d := by unfold toD; rw [if_pos q]
  refine q8 func30 rfl (fun E hE => ?_); simp only [go_sem, ntmps30]
  repeat' (first | (refine Qr rfl ?_; try intro _ hK; try simp only [go_sem, *]) | refine Qh rfl ?_ | (refine Qc rfl rfl ?_ ?_ <;> (intro hb; have hc := hb; try simp only [go_sem] at hc)) | refine q6 rfl ?_ | ((with_reducible apply And.intro); focus omega) | (refine z8 hK ?_; clear hK; simp only [go_sem, *]) | simp only [z6, z7, go_sem, *])
  all_goals first | contradiction | omega | skip
  refine ⟨[_], [some 0], [], ⟨rfl, trivial⟩, ?_⟩
  simp only [go_sem, *]
 ·have e1 : toN n d = (k9 (zMJ d) 16).tmod (n + 1) := by unfold toN; rw [if_neg q]
  have e2 : toD n d = zMH d := by unfold toD; rw [if_neg q]
  have hr := C3 n d
  rw [e1] at hr
  have e3 : IntKind.i64.wrap (n + 1) = n + 1 := wrap_i64 (by omega) (by omega)
  have e4 : IntKind.u64.wrap (n + 1) = n + 1 := by rw [IntKind.wrap_u64]; omega
  have e5 : IntKind.i64.wrap ((k9 (zMJ d) 16).tmod (n + 1)) = (k9 (zMJ d) 16).tmod (n + 1) := wrap_i64 (by omega) (by omega)
  have e6 : ¬ n + 1 = 0 := by omega
  have sr := zH2 d h
  generalize zMJ d = r at *
  generalize zMH d = d' at *
  clear hr
  refine q8 func30 rfl (fun E hE => ?_); simp only [go_sem, ntmps30]
  repeat' (first | (refine Qr rfl ?_; try intro _ hK; try simp only [go_sem, *]) | refine Qh rfl ?_ | (refine Qc rfl rfl ?_ ?_ <;> (intro hb; have hc := hb; try simp only [go_sem] at hc)) | refine q6 rfl ?_ | (refine Y6 [0] (sr) ?_; simp only [go_sem, *]) | ((with_reducible apply And.intro); focus omega) | (refine z8 hK ?_; clear hK; simp only [go_sem, *]) | simp only [z6, z7, go_sem, *])
  all_goals first | contradiction | omega | skip
  refine ⟨[_], [some 0], [], ⟨rfl, trivial⟩, ?_⟩
  simp only [go_sem, *]
theorem X8 (d : Dice) (lo hi : Int) (h : d.list.length ≤ 4294967296) (hl : 0 ≤ lo ∧ lo ≤ hi) (hh : hi ≤ 4294967296) : zLp prog 83 [.ptr 0 0, iV lo, iV hi] [u9 d] (iV (u6 lo hi d)) [u9 (w7 lo hi d)] := by
 have st := X9 d (hi - lo) h (by omega)
 have hf := b8 hl.2 d
 have e1 : IntKind.i64.wrap (hi - lo) = hi - lo := wrap_i64 (by omega) (by omega)
 have e2 : IntKind.i64.wrap (lo + toN (hi - lo) d) = u6 lo hi d := by
  have : lo + toN (hi - lo) d = u6 lo hi d := rfl
  rw [this]; exact wrap_i64 (by omega) (by omega)
 have e3 : w7 lo hi d = toD (hi - lo) d := rfl
 rw [e3]
 generalize u6 lo hi d = r at *
 clear e3 hf hl
 refine q8 func83 rfl (fun E hE => ?_); simp only [go_sem, ntmps83]
 repeat' (first | (refine Qr rfl ?_; try intro _ hK; try simp only [go_sem, *]) | refine Qh rfl ?_ | (refine Qc rfl rfl ?_ ?_ <;> (intro hb; have hc := hb; try simp only [go_sem] at hc)) | refine q6 rfl ?_ | (refine Y6 [0] (st) ?_; simp only [go_sem, *]) | ((with_reducible apply And.intro); focus omega) | (refine z8 hK ?_; clear hK; simp only [go_sem, *]) | simp only [z6, z7, go_sem, *])
 refine ⟨[_], [some 0], [], ⟨rfl, trivial⟩, ?_⟩
 simp only [go_sem, *]
theorem D6 (d : Dice) (k : Int) (h : d.list.length ≤ 4294967296) (hk : 0 ≤ k ∧ k ≤ 4294967296) : zLp prog 84 [.ptr 0 0, iV k] [u9 d] (bV (i5 k d)) [u9 (t7 k d)] := by
 have st := X9 d (k - 1) h (by omega)
 have e1 : IntKind.i64.wrap (k - 1) = k - 1 := wrap_i64 (by omega) (by omega)
 have e2 : i5 k d = (toN (k - 1) d == 0) := rfl
 have e3 : t7 k d = toD (k - 1) d := rfl
 rw [e3, e2]
 clear e2 e3 hk
 refine q8 func84 rfl (fun E hE => ?_); simp only [go_sem, ntmps84]
 repeat' (first | (refine Qr rfl ?_; try intro _ hK; try simp only [go_sem, *]) | refine Qh rfl ?_ | (refine Qc rfl rfl ?_ ?_ <;> (intro hb; have hc := hb; try simp only [go_sem] at hc)) | refine q6 rfl ?_ | (refine Y6 [0] (st) ?_; simp only [go_sem, *]) | ((with_reducible apply And.intro); focus omega) | (refine z8 hK ?_; clear hK; simp only [go_sem, *]) | simp only [z6, z7, go_sem, *])
 refine ⟨[_], [some 0], [], ⟨rfl, trivial⟩, ?_⟩
 simp only [go_sem, *]
def zCU (l : List Int) : Dice := ⟨l, 0, 11400714819323198485⟩
theorem zLT (l : List Int) : zLp prog 21 [j4 l] [] (.ptr 0 0) [u9 (zCU l)] := by
 refine q8 func21 rfl (fun E hE => ?_); simp only [go_sem, ntmps21]
 repeat' (first | (refine Qr rfl ?_; try intro _ hK; try simp only [go_sem, *]) | refine Qh rfl ?_ | (refine Qc rfl rfl ?_ ?_ <;> (intro hb; have hc := hb; try simp only [go_sem] at hc)) | refine q6 rfl ?_ | ((with_reducible apply And.intro); focus omega) | (refine z8 hK ?_; clear hK; simp only [go_sem, *]) | simp only [z6, z7, go_sem, *])
 refine ⟨[_], [some 0], [], ⟨rfl, trivial⟩, ?_⟩
 simp only [go_sem, zCU, *]
end Go.Abs

namespace Go.Abs
open Go Go.Proofs Tryz
attribute [local irreducible] y6 Hold x8
theorem V2 (a b : Int) (d : Dice) : (w7 a b d).list = d.list := r4 _ _
theorem N4 (k : Int) (d : Dice) : (t7 k d).list = d.list := r4 _ _
theorem zCd (d : Dice) : (Y1 d).2.list = d.list := by
 unfold Y1 N7
 split
 ·simp only [V2, N4]
 ·simp only [V2, N4]
theorem zCe : ∀ (n : Nat) (d : Dice) (out : List Plate), (U0 n d out).2.list = d.list
 | 0, d, out => rfl
 | n + 1, d, out => by rw [U0, zCe n]; exact zCd d
theorem zGe (d : Dice) (m : Int) : (Z3 d m).2.list = d.list := by unfold Z3; rw [zCe, r4]
def PlP (most : Int) (d : Dice) (k : Nat) (dd : Dice) (acc : List Plate) (R : List Plate × Dice) : Prop := U0 k dd acc = R ∧ dd.list.length ≤ 4294967296 ∧ acc.length + k ≤ 8
theorem PlP.next {most : Int} {d dd : Dice} {k : Nat} {acc : List Plate} {R : List Plate × Dice} (h : PlP most d (k + 1) dd acc R) : PlP most d k (Y1 dd).2 (l6 (Y1 dd).1 acc) R := by
 obtain ⟨h1, h2, h3⟩ := h
 have := zAL (x := (Y1 dd).1) (l := acc)
 exact ⟨h1, by rw [zCd]; exact h2, by omega⟩
def AtP (x : Plate) (acc : List Plate) (j : Nat) : Prop := ∀ m, m < j → (acc.getD m default).lt x = true
theorem AtP.next {x : Plate} {acc : List Plate} {j : Nat} (h : AtP x acc j) (hx : (acc.getD j default).lt x = true) : AtP x acc (j + 1) := fun m hm => by
 rcases Nat.lt_succ_iff_lt_or_eq.1 hm with h1 | rfl
 ·exact h m h1
 ·exact hx
theorem zCy (d : Dice) (most : Int) (h : d.list.length ≤ 4294967296) (hm : most ≤ 8) :
  zLp prog 85 [.ptr 0 0, iV most] [u9 d] (.list ((Z3 d most).1.map Plate.enc)) [u9 (Z3 d most).2] := by
 have st := X9 d most h (by omega)
 have hr := C3 most d
 obtain ⟨n, hn⟩ : ∃ n : Nat, toN most d = n := ⟨(toN most d).toNat, by omega⟩
 have h0 : PlP most d (n - 0) (toD most d) [] (Z3 d most) := by
  unfold Z3
  rw [hn]
  exact ⟨by simp, by rw [r4]; exact h, by simp; omega⟩
 rw [hn] at st hr
 generalize Z3 d most = R at *
 obtain ⟨RL, RD⟩ := R
 clear hn
 generalize toD most d = d0 at *
 refine q8 func85 rfl (fun E hE => ?_); simp only [go_sem, ntmps85]
 repeat' (first | (refine Qr rfl ?_; try intro _ hK; try simp only [go_sem, *]) | (refine Qi rfl rfl rfl rfl ?_ ?_ <;> (intro hb; (try intro _ hK); have hc := hb; try simp only [go_sem] at hc; simp only [go_sem, *])) | refine Qh rfl ?_ | refine Qd rfl (by kernel_rfl) ?_ | (refine Qc rfl rfl ?_ ?_ <;> (intro hb; have hc := hb; try simp only [go_sem] at hc)) | refine q6 rfl ?_ | (refine Qb ?_ ?_; focus kernel_rfl) | (refine Y6 [0] (st) ?_; simp only [go_sem, *]) | ((with_reducible apply And.intro); focus omega) | (refine z8 hK ?_; clear hK; simp only [go_sem, *]) | simp only [z6, z7, go_sem, *])
 refine O6 rfl (n) (fun i (dd : Dice) (acc : List Plate) => PlP most d (n - i) dd acc (RL, RD)) 63 (fun i dd acc => [(6, iV ((n - i : Nat) : Int)), (5, .own 1 2 0 acc.length), (0, .ptr 0 0)]) (fun i dd acc => [u9 dd, .row 2 (acc.map Plate.enc)]) [some 0, none] [] (d0) ([]) (by exact h0) ?_; intro i dd acc hi hP
 clear h0 st
 by_cases hi2 : i < n
 ·obtain ⟨k, hk⟩ : ∃ k, n - i = k + 1 := ⟨n - i - 1, by omega⟩
  have hk2 : n - (i + 1) = k := by omega
  rw [hk] at hP ⊢
  have hnx := hP.next
  have hw1 : IntKind.i64.wrap (((k + 1 : Nat) : Int) - 1) = (k : Int) := by rw [wrap_i64 (by omega) (by omega)]; omega
  have hgt : ((k + 1 : Nat) : Int) > 0 := by omega
  obtain ⟨_, hdl, hal⟩ := hP
  have s1 := X8 dd 1 9 hdl (by omega) (by omega)
  have s2 := D6 (w7 1 9 dd) 4 (by rw [V2]; exact hdl) (by omega)
  have s3 := X8 (t7 4 (w7 1 9 dd)) 1 2 (by rw [N4, V2]; exact hdl) (by omega) (by omega)
  unfold Y1 at hnx
  generalize u6 1 9 dd = x1 at *
  generalize w7 1 9 dd = d1 at *
  generalize t7 4 d1 = d2 at *
  generalize u6 1 2 d2 = x2 at *
  generalize w7 1 2 d2 = d3 at *
  obtain ⟨⟨x, d'⟩, hxd⟩ : ∃ xd, xd = N7 x1 (i5 4 d1) x2 d3 d2 := ⟨_, rfl⟩
  rw [← hxd] at hnx
  generalize i5 4 d1 = b at *
  have hxq : b = true ∧ x = ⟨x1, x2⟩ ∧ d' = d3 ∨ b = false ∧ x = ⟨x1, 0⟩ ∧ d' = d2 := by
   unfold N7 at hxd
   cases b
   ·right; simpa using hxd
   ·left; simpa using hxd
  clear hxd
  rcases hxq with ⟨rfl, hx, hd⟩ | ⟨rfl, hx, hd⟩
  all_goals repeat' (first | (refine Qr rfl ?_; try intro _ hK; try simp only [go_sem, *]) | (refine Qi rfl rfl rfl rfl ?_ ?_ <;> (intro hb; (try intro _ hK); have hc := hb; try simp only [go_sem] at hc; simp only [go_sem, *])) | refine Qh rfl ?_ | refine Qd rfl (by kernel_rfl) ?_ | (refine Qc rfl rfl ?_ ?_ <;> (intro hb; have hc := hb; try simp only [go_sem] at hc)) | refine q6 rfl ?_ | (refine Qb ?_ ?_; focus kernel_rfl) | (refine y9 [0] [] (s1) (by simp) ?_ ?_ (by simp) (.inl rfl) ?_ ?_ ?_; (iterate 2 (focus (simp only [go_sem, *]; done))); (iterate 2 (focus (first | (simp; done) | (simp [go_sem]; done)))); simp only [go_sem, *]) | (refine y9 [0] [] (s2) (by simp) ?_ ?_ (by simp) (.inl rfl) ?_ ?_ ?_; (iterate 2 (focus (simp only [go_sem, *]; done))); (iterate 2 (focus (first | (simp; done) | (simp [go_sem]; done)))); simp only [go_sem, *]) | (refine y9 [0] [] (s3) (by simp) ?_ ?_ (by simp) (.inl rfl) ?_ ?_ ?_; (iterate 2 (focus (simp only [go_sem, *]; done))); (iterate 2 (focus (first | (simp; done) | (simp [go_sem]; done)))); simp only [go_sem, *]) | ((with_reducible apply And.intro); focus omega) | (refine z8 hK ?_; clear hK; simp only [go_sem, *]) | simp only [z6, z7, go_sem, *])
  all_goals try contradiction
  all_goals
   have hx1 := congrArg Plate.number hx
   have hx2 := congrArg Plate.letter hx
   simp only at hx1 hx2
   refine G9 (N := 63) (env := [(8, iV 0), (7, .ptr 2 0), (6, iV ((k + 1 : Nat) : Int)), (5, .own 1 2 0 acc.length), (0, .ptr 0 0)]) (As := [u9 d', .row 2 (acc.map Plate.enc), .box [iV x.number, iV x.letter]]) [some 0, some 1, some 2] [] (by (simp only [Weak, go_sem, List.map_append, List.map_set, *] <;> (try simp (disch := omega) only [t8]) <;> (try simp) <;> (try omega))) ?_
   clear hx hd hx1 hx2 s1 s2 s3 hm hr
   refine u3 rfl (acc.length) (fun j => AtP x acc j) 63 (fun j => [(8, iV j), (7, .ptr 2 0), (6, iV ((k + 1 : Nat) : Int)), (5, .own 1 2 0 acc.length), (0, .ptr 0 0)]) (fun j => [u9 d', .row 2 (acc.map Plate.enc), .box [iV x.number, iV x.letter]]) [some 0, some 1, some 2] [] (by exact fun m hm => absurd hm (by omega)) ?_; intro j hj hJ
   have hmn : min j acc.length = j := by omega
   have hl2 : j + (acc.length - j + 1) = j + 1 + (acc.length - j) := by omega
   have hdl2 : (List.drop j (List.map Plate.enc acc)).length = acc.length - j := by simp
   have htd : List.take (acc.length - j) (List.drop j (List.map Plate.enc acc)) = List.drop j (List.map Plate.enc acc) := List.take_of_length_le (by simp)
   by_cases hj2 : j < acc.length
   ·have hj3 : ((j : Int) == (acc.length : Int)) = false := by simp; omega
    have sb := zCz (acc.getD j default) x
    by_cases hlt : (acc.getD j default).lt x = true
    ·rw [hlt] at sb
     repeat' (first | (refine Qr rfl ?_; try intro _ hK; try simp only [go_sem, *]) | (refine Qi rfl rfl rfl rfl ?_ ?_ <;> (intro hb; (try intro _ hK); have hc := hb; try simp only [go_sem] at hc; simp only [go_sem, *])) | refine Qh rfl ?_ | refine Qd rfl (by kernel_rfl) ?_ | (refine Qc rfl rfl ?_ ?_ <;> (intro hb; have hc := hb; try simp only [go_sem] at hc)) | refine q6 rfl ?_ | (with_reducible (show (∀ _ : AV, _ → _) ∧ _); refine And.intro ?_ ?_; (focus (intro y hy; first | (obtain ⟨z, _, rfl⟩ := List.mem_map.1 (hy); simp [go_sem]; done) | (obtain ⟨z, _, rfl⟩ := List.mem_map.1 (List.mem_of_mem_take hy); simp [go_sem]; done) | (obtain ⟨z, _, rfl⟩ := List.mem_map.1 (List.mem_of_mem_drop hy); simp [go_sem]; done) | (obtain ⟨z, _, rfl⟩ := List.mem_map.1 (List.mem_of_mem_drop (List.mem_of_mem_take hy)); simp [go_sem]; done)))) | (refine Qb ?_ ?_; focus kernel_rfl) | (refine y4 (sb) ?_; simp only [go_sem, *]) | ((with_reducible apply And.intro); focus omega) | (refine z8 hK ?_; clear hK; simp only [go_sem, *]) | simp only [z6, z7, go_sem, *])
     all_goals try contradiction
     exact u2 (i' := j + 1) [some 0, some 1, some 2] [] (by exact hJ.next hlt)
    ·rw [Bool.not_eq_true] at hlt
     rw [hlt] at sb
     have hin := zAK (by omega) hJ (fun _ => hlt)
     by_cases heq : acc.getD j default = x
     ·rw [if_pos ⟨hj2, heq⟩] at hin
      rw [hin] at hnx
      clear hin
      have hne : (decide (acc.getD j default = x)) = true := by simpa using heq
      clear heq
      repeat' (first | (refine Qr rfl ?_; try intro _ hK; try simp only [go_sem, *]) | (refine Qi rfl rfl rfl rfl ?_ ?_ <;> (intro hb; (try intro _ hK); have hc := hb; try simp only [go_sem] at hc; simp only [go_sem, *])) | refine Qh rfl ?_ | refine Qd rfl (by kernel_rfl) ?_ | (refine Qc rfl rfl ?_ ?_ <;> (intro hb; have hc := hb; try simp only [go_sem] at hc)) | refine q6 rfl ?_ | (with_reducible (show (∀ _ : AV, _ → _) ∧ _); refine And.intro ?_ ?_; (focus (intro y hy; first | (obtain ⟨z, _, rfl⟩ := List.mem_map.1 (hy); simp [go_sem]; done) | (obtain ⟨z, _, rfl⟩ := List.mem_map.1 (List.mem_of_mem_take hy); simp [go_sem]; done) | (obtain ⟨z, _, rfl⟩ := List.mem_map.1 (List.mem_of_mem_drop hy); simp [go_sem]; done) | (obtain ⟨z, _, rfl⟩ := List.mem_map.1 (List.mem_of_mem_drop (List.mem_of_mem_take hy)); simp [go_sem]; done)))) | (refine Qb ?_ ?_; focus kernel_rfl) | (refine y4 (sb) ?_; simp only [go_sem, *]) | ((with_reducible apply And.intro); focus omega) | (refine z8 hK ?_; clear hK; simp only [go_sem, *]) | simp only [z6, z7, go_sem, *])
      all_goals try contradiction
      exact Z2 (i' := i + 1) [some 0, some 1] [] (d') (acc) (by rw [hk2]; exact hnx)
     ·rw [if_neg (fun h => heq h.2)] at hin
      rw [hin] at hnx
      clear hin
      have hne : (decide (acc.getD j default = x)) = false := by simpa using heq
      clear heq
      repeat' (first | (refine Qr rfl ?_; try intro _ hK; try simp only [go_sem, *]) | (refine Qi rfl rfl rfl rfl ?_ ?_ <;> (intro hb; (try intro _ hK); have hc := hb; try simp only [go_sem] at hc; simp only [go_sem, *])) | refine Qh rfl ?_ | refine Qd rfl (by kernel_rfl) ?_ | (refine Qc rfl rfl ?_ ?_ <;> (intro hb; have hc := hb; try simp only [go_sem] at hc)) | refine q6 rfl ?_ | (with_reducible (show (∀ _ : AV, _ → _) ∧ _); refine And.intro ?_ ?_; (focus (intro y hy; first | (obtain ⟨z, _, rfl⟩ := List.mem_map.1 (hy); simp [go_sem]; done) | (obtain ⟨z, _, rfl⟩ := List.mem_map.1 (List.mem_of_mem_take hy); simp [go_sem]; done) | (obtain ⟨z, _, rfl⟩ := List.mem_map.1 (List.mem_of_mem_drop hy); simp [go_sem]; done) | (obtain ⟨z, _, rfl⟩ := List.mem_map.1 (List.mem_of_mem_drop (List.mem_of_mem_take hy)); simp [go_sem]; done)))) | (refine Qb ?_ ?_; focus kernel_rfl) | (refine y4 (sb) ?_; simp only [go_sem, *]) | ((with_reducible apply And.intro); focus omega) | (refine z8 hK ?_; clear hK; simp only [go_sem, *]) | simp only [z6, z7, go_sem, *])
      all_goals try contradiction
      exact Z2 (i' := i + 1) [some 0, some 7] [] (d') (acc.take j ++ x :: acc.drop j) (by rw [hk2]; exact hnx)
   ·have hin := zAK (x := x) (l := acc) (k := j) (by omega) hJ (fun h => absurd h hj2)
    rw [if_neg (fun h => hj2 h.1)] at hin
    rw [hin] at hnx
    clear hin
    have hj3 : ((j : Int) == (acc.length : Int)) = true := by simp; omega
    repeat' (first | (refine Qr rfl ?_; try intro _ hK; try simp only [go_sem, *]) | (refine Qi rfl rfl rfl rfl ?_ ?_ <;> (intro hb; (try intro _ hK); have hc := hb; try simp only [go_sem] at hc; simp only [go_sem, *])) | refine Qh rfl ?_ | refine Qd rfl (by kernel_rfl) ?_ | (refine Qc rfl rfl ?_ ?_ <;> (intro hb; have hc := hb; try simp only [go_sem] at hc)) | refine q6 rfl ?_ | (with_reducible (show (∀ _ : AV, _ → _) ∧ _); refine And.intro ?_ ?_; (focus (intro y hy; first | (obtain ⟨z, _, rfl⟩ := List.mem_map.1 (hy); simp [go_sem]; done) | (obtain ⟨z, _, rfl⟩ := List.mem_map.1 (List.mem_of_mem_take hy); simp [go_sem]; done) | (obtain ⟨z, _, rfl⟩ := List.mem_map.1 (List.mem_of_mem_drop hy); simp [go_sem]; done) | (obtain ⟨z, _, rfl⟩ := List.mem_map.1 (List.mem_of_mem_drop (List.mem_of_mem_take hy)); simp [go_sem]; done)))) | (refine Qb ?_ ?_; focus kernel_rfl) | ((with_reducible apply And.intro); focus omega) | (refine z8 hK ?_; clear hK; simp only [go_sem, *]) | simp only [z6, z7, go_sem, *])
    all_goals try contradiction
    exact Z2 (i' := i + 1) [some 0, some 7] [] (d') (acc.take j ++ x :: acc.drop j) (by rw [hk2]; exact hnx)
 ·have hni : n - i = 0 := by omega
  rw [hni] at hP ⊢
  obtain ⟨e, _, _⟩ := hP
  rw [U0] at e
  cases e
  repeat' (first | (refine Qr rfl ?_; try intro _ hK; try simp only [go_sem, *]) | (refine Qi rfl rfl rfl rfl ?_ ?_ <;> (intro hb; (try intro _ hK); have hc := hb; try simp only [go_sem] at hc; simp only [go_sem, *])) | refine Qh rfl ?_ | refine Qd rfl (by kernel_rfl) ?_ | (refine Qc rfl rfl ?_ ?_ <;> (intro hb; have hc := hb; try simp only [go_sem] at hc)) | refine q6 rfl ?_ | (refine Qb ?_ ?_; focus kernel_rfl) | ((with_reducible apply And.intro); focus omega) | (refine z8 hK ?_; clear hK; simp only [go_sem, *]) | simp only [z6, z7, go_sem, *])
  refine ⟨[_], [some 0], [1], ⟨rfl, trivial⟩, ?_⟩
  simp only [go_sem, *]
end Go.Abs

namespace Go.Abs
open Go Go.Proofs Tryz
attribute [local irreducible] y6 Hold x8
theorem zDI (d : Dice) (h : Int) : (f9 d h).2.list = d.list := by unfold f9; rw [zGe, N4]
theorem zDJ (h : Int) : ∀ (n : Nat) (d : Dice) (out : zLo), (Z7 h n d out).2.list = d.list
 | 0, d, out => rfl
 | n + 1, d, out => by rw [Z7, zDJ h n]; exact zDI d h
theorem zCb (d : Dice) (h : Int) : (f8 d h).2.list = d.list := by unfold f8; rw [zDJ, V2]
def StP (houses : Int) (k : Nat) (dd : Dice) (acc : zLo) (R : zLo × Dice) : Prop := Z7 houses k dd acc = R ∧ dd.list.length ≤ 4294967296 ∧ acc.length + k ≤ 3
theorem StP.next {houses : Int} {dd : Dice} {k : Nat} {acc : zLo} {R : zLo × Dice} (h : StP houses (k + 1) dd acc R) : StP houses k (f9 dd houses).2 (acc ++ [(f9 dd houses).1]) R := by
 obtain ⟨h1, h2, h3⟩ := h
 exact ⟨h1, by rw [zDI]; exact h2, by simp; omega⟩
theorem zHX (d : Dice) (houses : Int) (h : d.list.length ≤ 4294967296) (hm : houses ≤ 8) :
  zLp prog 22 [.ptr 0 0, iV houses] [u9 d] (x7 (f8 d houses).1) [u9 (f8 d houses).2] := by
 have st := X8 d 1 3 h (by omega) (by omega)
 have hr := b8 (lo := 1) (hi := 3) (by omega) d
 obtain ⟨n, hn⟩ : ∃ n : Nat, u6 1 3 d = n := ⟨(u6 1 3 d).toNat, by omega⟩
 have h0 : StP houses (n - 0) (w7 1 3 d) [] (f8 d houses) := by
  unfold f8
  rw [hn]
  exact ⟨by simp, by rw [V2]; exact h, by simp; omega⟩
 rw [hn] at st hr
 generalize f8 d houses = R at *
 obtain ⟨RL, RD⟩ := R
 clear hn
 generalize w7 1 3 d = d0 at *
 refine q8 func22 rfl (fun E hE => ?_); simp only [go_sem, ntmps22]
 repeat' (first | (refine Qr rfl ?_; try intro _ hK; try simp only [go_sem, *]) | refine Qh rfl ?_ | refine Qd rfl (by kernel_rfl) ?_ | (refine Qc rfl rfl ?_ ?_ <;> (intro hb; have hc := hb; try simp only [go_sem] at hc)) | refine q6 rfl ?_ | (refine Qb ?_ ?_; focus kernel_rfl) | (refine Y6 [0] (st) ?_; simp only [go_sem, *]) | ((with_reducible apply And.intro); focus omega) | (refine z8 hK ?_; clear hK; simp only [go_sem, *]) | simp only [z6, z7, go_sem, *])
 refine O6 rfl (n) (fun i (dd : Dice) (acc : zLo) => StP houses (n - i) dd acc (RL, RD)) 26 (fun i dd acc => [(6, iV ((n - i : Nat) : Int)), (5, .ptr 2 0), (4, .ptr 1 0), (1, iV houses), (0, .ptr 0 0)]) (fun i dd acc => [u9 dd, .box [zLz], .box [.own 3 1 0 acc.length], .box (acc.map y7)]) [some 0, some 1, some 2, none] [] (d0) ([]) (by exact h0) ?_; intro i dd acc hi hP
 clear h0 st
 by_cases hi2 : i < n
 ·obtain ⟨k, hk⟩ : ∃ k, n - i = k + 1 := ⟨n - i - 1, by omega⟩
  have hk2 : n - (i + 1) = k := by omega
  rw [hk] at hP ⊢
  have hnx := hP.next
  have hw1 : IntKind.i64.wrap (((k + 1 : Nat) : Int) - 1) = (k : Int) := by rw [wrap_i64 (by omega) (by omega)]; omega
  have hgt : ((k + 1 : Nat) : Int) > 0 := by omega
  obtain ⟨_, hdl, hal⟩ := hP
  have s2 := D6 dd 3 hdl (by omega)
  have hol : (t7 3 dd).list.length ≤ 4294967296 := by rw [N4]; exact hdl
  unfold f9 at hnx
  generalize t7 3 dd = d2 at *
  by_cases b : i5 3 dd = true
  ·rw [if_pos b] at hnx
   rw [b] at s2
   clear b
   have s3 := zCy d2 0 hol (by omega)
   generalize Z3 d2 0 = L at *
   obtain ⟨l, d3⟩ := L
   have hnx2 : StP houses k d3 (acc ++ [l]) (RL, RD) := hnx
   clear hnx
   simp only at s3
   repeat' (first | (refine Qr rfl ?_; try intro _ hK; try simp only [go_sem, *]) | refine Qh rfl ?_ | refine Qd rfl (by kernel_rfl) ?_ | (refine Qc rfl rfl ?_ ?_ <;> (intro hb; have hc := hb; try simp only [go_sem] at hc)) | refine q6 rfl ?_ | (refine Qb ?_ ?_; focus kernel_rfl) | (refine y9 [0] [] (s2) (by simp) ?_ ?_ (by simp) (.inl rfl) ?_ ?_ ?_; (iterate 2 (focus (simp only [go_sem, *]; done))); (iterate 2 (focus (first | (simp; done) | (simp [go_sem]; done)))); simp only [go_sem, *]) | (refine y9 [0] [] (s3) (by simp) ?_ ?_ (by simp) (.inl rfl) ?_ ?_ ?_; (iterate 2 (focus (simp only [go_sem, *]; done))); (iterate 2 (focus (first | (simp; done) | (simp [go_sem]; done)))); simp only [go_sem, *]) | ((with_reducible apply And.intro); focus omega) | (refine z8 hK ?_; clear hK; simp only [go_sem, *]) | simp only [z6, z7, go_sem, *])
   all_goals try contradiction
   exact Z2 (i' := i + 1) [some 0, some 1, some 2, some 5] [] (d3) (acc ++ [l]) (by rw [hk2]; exact hnx2)
  ·rw [if_neg b] at hnx
   rw [Bool.not_eq_true] at b
   rw [b] at s2
   clear b
   have s3 := zCy d2 houses hol hm
   generalize Z3 d2 houses = L at *
   obtain ⟨l, d3⟩ := L
   have hnx2 : StP houses k d3 (acc ++ [l]) (RL, RD) := hnx
   clear hnx
   simp only at s3
   repeat' (first | (refine Qr rfl ?_; try intro _ hK; try simp only [go_sem, *]) | refine Qh rfl ?_ | refine Qd rfl (by kernel_rfl) ?_ | (refine Qc rfl rfl ?_ ?_ <;> (intro hb; have hc := hb; try simp only [go_sem] at hc)) | refine q6 rfl ?_ | (refine Qb ?_ ?_; focus kernel_rfl) | (refine y9 [0] [] (s2) (by simp) ?_ ?_ (by simp) (.inl rfl) ?_ ?_ ?_; (iterate 2 (focus (simp only [go_sem, *]; done))); (iterate 2 (focus (first | (simp; done) | (simp [go_sem]; done)))); simp only [go_sem, *]) | (refine y9 [0] [] (s3) (by simp) ?_ ?_ (by simp) (.inl rfl) ?_ ?_ ?_; (iterate 2 (focus (simp only [go_sem, *]; done))); (iterate 2 (focus (first | (simp; done) | (simp [go_sem]; done)))); simp only [go_sem, *]) | ((with_reducible apply And.intro); focus omega) | (refine z8 hK ?_; clear hK; simp only [go_sem, *]) | simp only [z6, z7, go_sem, *])
   all_goals try contradiction
   exact Z2 (i' := i + 1) [some 0, some 1, some 2, some 5] [] (d3) (acc ++ [l]) (by rw [hk2]; exact hnx2)
 ·have hni : n - i = 0 := by omega
  rw [hni] at hP ⊢
  obtain ⟨e, _, _⟩ := hP
  rw [Z7] at e
  cases e
  repeat' (first | (refine Qr rfl ?_; try intro _ hK; try simp only [go_sem, *]) | refine Qh rfl ?_ | refine Qd rfl (by kernel_rfl) ?_ | (refine Qc rfl rfl ?_ ?_ <;> (intro hb; have hc := hb; try simp only [go_sem] at hc)) | refine q6 rfl ?_ | (refine Qb ?_ ?_; focus kernel_rfl) | ((with_reducible apply And.intro); focus omega) | (refine z8 hK ?_; clear hK; simp only [go_sem, *]) | simp only [z6, z7, go_sem, *])
  refine ⟨[.agg [.own 3 1 0 (List.length RL)]], [some 0], [3], ⟨by simp only [u1, go_sem], trivial⟩, ?_⟩
  simp only [go_sem, *]
  simp
end Go.Abs

namespace Go.Abs
open Go Go.Proofs Tryz
attribute [local irreducible] y6 Hold x8
theorem zAn (d : Dice) (l : List Plate) : (j0 d l).2.list = d.list := by
 unfold j0
 split
 ·exact r4 _ _
 ·split
  ·show (w7 1 9 (t7 12 d)).list = _
   unfold w7 t7; rw [r4, r4]
  ·show (toD _ (t7 12 d)).list = _
   unfold t7; rw [r4, r4]
theorem zAx (d : Dice) (l : List Plate) (h : d.list.length ≤ 4294967296) (hl : l.length ≤ 4294967296) :
  zLp prog 86 [.ptr 0 0, y7 l] [u9 d] (Plate.enc (j0 d l).1) [u9 (j0 d l).2] := by
 have ho : (t7 12 d).list.length ≤ 4294967296 := by unfold t7; rw [r4]; exact h
 by_cases q : l.length = 0
 ·have s1 := X8 d 1 9 h (by omega) (by omega)
  have e : j0 d l = (⟨u6 1 9 d, 0⟩, w7 1 9 d) := by unfold j0; rw [if_pos q]
  rw [e]
  have q2 : ((l.length : Int) == 0) = true := by rw [beq_iff_eq]; omega
  clear e
  generalize u6 1 9 d = x1 at *
  generalize w7 1 9 d = d1 at *
  refine q8 func86 rfl (fun E hE => ?_); simp only [go_sem, ntmps86]
  repeat' (first | (refine Qr rfl ?_; try intro _ hK; try simp only [go_sem, *]) | (refine Qi rfl rfl rfl rfl ?_ ?_ <;> (intro hb; (try intro _ hK); have hc := hb; try simp only [go_sem] at hc; simp only [go_sem, *])) | refine Qh rfl ?_ | (refine Qc rfl rfl ?_ ?_ <;> (intro hb; have hc := hb; try simp only [go_sem] at hc)) | refine q6 rfl ?_ | (refine Y6 [0] (s1) ?_; simp only [go_sem, *]) | ((with_reducible apply And.intro); focus omega) | (refine z8 hK ?_; clear hK; simp only [go_sem, *]) | simp only [z6, z7, go_sem, *])
  all_goals try contradiction
  refine ⟨[.agg [iV x1, iV 0]], [some 0], [], ⟨by simp only [u1, go_sem], trivial⟩, ?_⟩
  simp only [go_sem, *]
 ·have q2 : ((l.length : Int) == 0) = false := by rw [beq_eq_false_iff_ne]; omega
  have so := D6 d 12 h (by omega)
  have e : j0 d l = if i5 12 d = true then (⟨u6 1 9 (t7 12 d), 0⟩, w7 1 9 (t7 12 d)) else (l.getD (toN (l.length - 1) (t7 12 d)).toNat default, toD (l.length - 1) (t7 12 d)) := by unfold j0; rw [if_neg q]
  rw [e]
  clear e
  generalize t7 12 d = d1 at *
  by_cases b : i5 12 d = true
  ·have s1 := X8 d1 1 9 ho (by omega) (by omega)
   rw [if_pos b]
   rw [b] at so
   clear b
   generalize u6 1 9 d1 = x1 at *
   generalize w7 1 9 d1 = d2 at *
   refine q8 func86 rfl (fun E hE => ?_); simp only [go_sem, ntmps86]
   repeat' (first | (refine Qr rfl ?_; try intro _ hK; try simp only [go_sem, *]) | (refine Qi rfl rfl rfl rfl ?_ ?_ <;> (intro hb; (try intro _ hK); have hc := hb; try simp only [go_sem] at hc; simp only [go_sem, *])) | refine Qh rfl ?_ | (refine Qc rfl rfl ?_ ?_ <;> (intro hb; have hc := hb; try simp only [go_sem] at hc)) | refine q6 rfl ?_ | (refine y9 [0] [] (so) (by simp) ?_ ?_ (by simp) (.inl rfl) ?_ ?_ ?_; (iterate 2 (focus (simp only [go_sem, *]; done))); (iterate 2 (focus (first | (simp; done) | (simp [go_sem]; done)))); simp only [go_sem, *]) | (refine y9 [0] [] (s1) (by simp) ?_ ?_ (by simp) (.inl rfl) ?_ ?_ ?_; (iterate 2 (focus (simp only [go_sem, *]; done))); (iterate 2 (focus (first | (simp; done) | (simp [go_sem]; done)))); simp only [go_sem, *]) | ((with_reducible apply And.intro); focus omega) | (refine z8 hK ?_; clear hK; simp only [go_sem, *]) | simp only [z6, z7, go_sem, *])
   all_goals try contradiction
   refine ⟨[.agg [iV x1, iV 0]], [some 0], [], ⟨by simp only [u1, go_sem], trivial⟩, ?_⟩
   simp only [go_sem, *]
  ·rw [if_neg b]
   rw [Bool.not_eq_true] at b
   rw [b] at so
   clear b
   have s1 := X9 d1 ((l.length : Int) - 1) ho (by omega)
   have hr := Y4 (n := (l.length : Int) - 1) (by omega) d1
   have hw : IntKind.i64.wrap ((l.length : Int) - 1) = (l.length : Int) - 1 := wrap_i64 (by omega) (by omega)
   obtain ⟨k, hk⟩ : ∃ k : Nat, toN ((l.length : Int) - 1) d1 = k := ⟨(toN ((l.length : Int) - 1) d1).toNat, by omega⟩
   rw [hk] at hr s1 ⊢
   have hkl : k < l.length := by omega
   simp only [Int.toNat_natCast]
   clear hk hr
   generalize toD ((l.length : Int) - 1) d1 = d2 at *
   refine q8 func86 rfl (fun E hE => ?_); simp only [go_sem, ntmps86]
   repeat' (first | (refine Qr rfl ?_; try intro _ hK; try simp only [go_sem, *]) | (refine Qi rfl rfl rfl rfl ?_ ?_ <;> (intro hb; (try intro _ hK); have hc := hb; try simp only [go_sem] at hc; simp only [go_sem, *])) | refine Qh rfl ?_ | (refine Qc rfl rfl ?_ ?_ <;> (intro hb; have hc := hb; try simp only [go_sem] at hc)) | refine q6 rfl ?_ | (refine y9 [0] [] (so) (by simp) ?_ ?_ (by simp) (.inl rfl) ?_ ?_ ?_; (iterate 2 (focus (simp only [go_sem, *]; done))); (iterate 2 (focus (first | (simp; done) | (simp [go_sem]; done)))); simp only [go_sem, *]) | (refine y9 [0] [] (s1) (by simp) ?_ ?_ (by simp) (.inl rfl) ?_ ?_ ?_; (iterate 2 (focus (simp only [go_sem, *]; done))); (iterate 2 (focus (first | (simp; done) | (simp [go_sem]; done)))); simp only [go_sem, *]) | ((with_reducible apply And.intro); focus omega) | (refine z8 hK ?_; clear hK; simp only [go_sem, *]) | simp only [z6, z7, go_sem, *])
   all_goals try contradiction
   refine ⟨[(l.getD k default).enc], [some 0], [], ⟨by simp only [u1, go_sem], trivial⟩, ?_⟩
   simp only [go_sem, *]
end Go.Abs

namespace Go.Abs
open Go Go.Proofs Tryz
attribute [local irreducible] y6 Hold x8
theorem zD9 (d : Dice) (p : zLo) (k s : Int) : (P4 d p k s).2.list = d.list := by
 unfold P4 w7
 split
 ·exact r4 _ _
 ·split
  ·simp only
   split <;> simp only [zAn, r4]
  ·split
   ·simp only [zAn]
   ·rfl
theorem zBO (d : Dice) (p : zLo) : (j1 d p).2.list = d.list := by
 unfold j1 w7; rw [zD9, r4, r4]
theorem zHF (d : Dice) (p : zLo) (h : d.list.length ≤ 4294967296) (v : Valid p) :
  zLp prog 23 [.ptr 0 0, x7 p] [u9 d] (Change.enc (j1 d p).1) [u9 (j1 d p).2] := by
 have hp0 := v.ne
 have hp3 := v.len
 have s1 := X8 d 1 7 h (by omega) (by omega)
 have s2 := X9 (w7 1 7 d) ((p.length : Int) - 1) (by unfold w7; rw [r4]; exact h) (by omega)
 have hr1 := b8 (lo := 1) (hi := 7) (by omega) d
 have hr2 := Y4 (n := (p.length : Int) - 1) (by omega) (w7 1 7 d)
 have hl2 : (toD ((p.length : Int) - 1) (w7 1 7 d)).list.length ≤ 4294967296 := by unfold w7; rw [r4, r4]; exact h
 have hw0 : IntKind.i64.wrap ((p.length : Int) - 1) = (p.length : Int) - 1 := wrap_i64 (by omega) (by omega)
 unfold j1
 obtain ⟨s, hs⟩ : ∃ s : Nat, toN ((p.length : Int) - 1) (w7 1 7 d) = s := ⟨(toN ((p.length : Int) - 1) (w7 1 7 d)).toNat, by omega⟩
 rw [hs] at hr2 s2 ⊢
 clear hs
 generalize toD ((p.length : Int) - 1) (w7 1 7 d) = d2 at *
 generalize w7 1 7 d = d1 at *
 generalize u6 1 7 d = k at *
 have hsl : s < p.length := by omega
 have hrow : (q7 p (s : Int)).length ≤ 8 := (v.row _).len
 have hgd : List.getD p s default = q7 p (s : Int) := rfl
 unfold P4
 by_cases k4 : k = 4
 ·rw [if_pos k4]
  subst k4
  have s3 := X8 d2 1 2 hl2 (by omega) (by omega)
  have hr3 := b8 (lo := 1) (hi := 2) (by omega) d2
  generalize u6 1 2 d2 = x at *
  generalize w7 1 2 d2 = d3 at *
  have s4 := zCw ((s : Int) + x) (p.length : Int) (by omega) (by omega)
  have hw1 : IntKind.i64.wrap ((s : Int) + x) = (s : Int) + x := wrap_i64 (by omega) (by omega)
  generalize ((s : Int) + x) % (p.length : Int) = o at *
  refine q8 func23 rfl (fun E hE => ?_); simp only [go_sem, ntmps23]
  repeat' (first | (refine Qr rfl ?_; try intro _ hK; try simp only [go_sem, *]) | refine Qh rfl ?_ | refine Qd rfl (by kernel_rfl) ?_ | (refine Qc rfl rfl ?_ ?_ <;> (intro hb; have hc := hb; try simp only [go_sem] at hc)) | refine q6 rfl ?_ | (refine Qb ?_ ?_; focus kernel_rfl) | (refine y9 [0] [] (s1) (by simp) ?_ ?_ (by simp) (.inl rfl) ?_ ?_ ?_; (iterate 2 (focus (simp only [go_sem, *]; done))); (iterate 2 (focus (first | (simp; done) | (simp [go_sem]; done)))); simp only [go_sem, *]) | (refine y9 [0] [] (s2) (by simp) ?_ ?_ (by simp) (.inl rfl) ?_ ?_ ?_; (iterate 2 (focus (simp only [go_sem, *]; done))); (iterate 2 (focus (first | (simp; done) | (simp [go_sem]; done)))); simp only [go_sem, *]) | (refine y9 [0] [] (s3) (by simp) ?_ ?_ (by simp) (.inl rfl) ?_ ?_ ?_; (iterate 2 (focus (simp only [go_sem, *]; done))); (iterate 2 (focus (first | (simp; done) | (simp [go_sem]; done)))); simp only [go_sem, *]) | (refine y4 (s4) ?_; simp only [go_sem, *]) | ((with_reducible apply And.intro); focus omega) | (refine z8 hK ?_; clear hK; simp only [go_sem, *]) | simp only [z6, z7, go_sem, *])
  all_goals try contradiction
  refine ⟨[.agg [iV 4, iV s, iV o, iV 0, iV 0, iV 0, iV 0]], [some 0], [], ⟨by simp only [u1, go_sem], trivial⟩, ?_⟩
  simp only [go_sem, zeroPlate, *]
 rw [if_neg k4]
 have k4' : (k == 4) = false := by rw [beq_eq_false_iff_ne]; exact k4
 by_cases k7 : k = 7
 ·rw [if_pos k7]
  subst k7
  have s3 := X8 d2 1 2 hl2 (by omega) (by omega)
  have hr3 := b8 (lo := 1) (hi := 2) (by omega) d2
  have hl3 : (w7 1 2 d2).list.length ≤ 4294967296 := by unfold w7; rw [r4]; exact hl2
  generalize u6 1 2 d2 = x at *
  generalize w7 1 2 d2 = d3 at *
  have s4 := zCw ((s : Int) + x) (p.length : Int) (by omega) (by omega)
  have hw1 : IntKind.i64.wrap ((s : Int) + x) = (s : Int) + x := wrap_i64 (by omega) (by omega)
  generalize ((s : Int) + x) % (p.length : Int) = o at *
  simp only
  have sa := zAx d3 (q7 p (s : Int)) hl3 (by omega)
  have hla : (j0 d3 (q7 p (s : Int))).2.list.length ≤ 4294967296 := by rw [zAn]; exact hl3
  generalize j0 d3 (q7 p (s : Int)) = A at *
  obtain ⟨a, d4⟩ := A
  simp only at sa hla ⊢
  have sb := zAx d4 (q7 p (s : Int)) hla (by omega)
  generalize j0 d4 (q7 p (s : Int)) = B at *
  obtain ⟨b, d5⟩ := B
  simp only at sb ⊢
  have sc := zCz b a
  by_cases hlt : b.lt a = true
  ·rw [if_pos hlt]
   rw [hlt] at sc
   clear hlt
   refine q8 func23 rfl (fun E hE => ?_); simp only [go_sem, ntmps23]
   repeat' (first | (refine Qr rfl ?_; try intro _ hK; try simp only [go_sem, *]) | refine Qh rfl ?_ | refine Qd rfl (by kernel_rfl) ?_ | (refine Qc rfl rfl ?_ ?_ <;> (intro hb; have hc := hb; try simp only [go_sem] at hc)) | refine q6 rfl ?_ | (refine Qb ?_ ?_; focus kernel_rfl) | ((first | refine y4 (s4) ?_ | refine y4 (sc) ?_); simp only [go_sem, *]) | (refine y9 [0] [] (s1) (by simp) ?_ ?_ (by simp) (.inl rfl) ?_ ?_ ?_; (iterate 2 (focus (simp only [go_sem, *]; done))); (iterate 2 (focus (first | (simp; done) | (simp [go_sem]; done)))); simp only [go_sem, *]) | (refine y9 [0] [] (s2) (by simp) ?_ ?_ (by simp) (.inl rfl) ?_ ?_ ?_; (iterate 2 (focus (simp only [go_sem, *]; done))); (iterate 2 (focus (first | (simp; done) | (simp [go_sem]; done)))); simp only [go_sem, *]) | (refine y9 [0] [] (s3) (by simp) ?_ ?_ (by simp) (.inl rfl) ?_ ?_ ?_; (iterate 2 (focus (simp only [go_sem, *]; done))); (iterate 2 (focus (first | (simp; done) | (simp [go_sem]; done)))); simp only [go_sem, *]) | (refine y9 [0] [] (sa) (by simp) ?_ ?_ (by simp) (.inl rfl) ?_ ?_ ?_; (iterate 2 (focus (simp only [go_sem, *]; done))); (iterate 2 (focus (first | (simp; done) | (simp [go_sem]; done)))); simp only [go_sem, *]) | (refine y9 [0] [] (sb) (by simp) ?_ ?_ (by simp) (.inl rfl) ?_ ?_ ?_; (iterate 2 (focus (simp only [go_sem, *]; done))); (iterate 2 (focus (first | (simp; done) | (simp [go_sem]; done)))); simp only [go_sem, *]) | ((with_reducible apply And.intro); focus omega) | (refine z8 hK ?_; clear hK; simp only [go_sem, *]) | simp only [z6, z7, go_sem, *])
   all_goals try contradiction
   refine ⟨[.agg [iV 7, iV s, iV o, iV b.number, iV b.letter, iV a.number, iV a.letter]], [some 0], [], ⟨by simp only [u1, go_sem], trivial⟩, ?_⟩
   simp only [go_sem, zeroPlate, *]
  ·rw [if_neg hlt]
   rw [Bool.not_eq_true] at hlt
   rw [hlt] at sc
   clear hlt
   refine q8 func23 rfl (fun E hE => ?_); simp only [go_sem, ntmps23]
   repeat' (first | (refine Qr rfl ?_; try intro _ hK; try simp only [go_sem, *]) | refine Qh rfl ?_ | refine Qd rfl (by kernel_rfl) ?_ | (refine Qc rfl rfl ?_ ?_ <;> (intro hb; have hc := hb; try simp only [go_sem] at hc)) | refine q6 rfl ?_ | (refine Qb ?_ ?_; focus kernel_rfl) | ((first | refine y4 (s4) ?_ | refine y4 (sc) ?_); simp only [go_sem, *]) | (refine y9 [0] [] (s1) (by simp) ?_ ?_ (by simp) (.inl rfl) ?_ ?_ ?_; (iterate 2 (focus (simp only [go_sem, *]; done))); (iterate 2 (focus (first | (simp; done) | (simp [go_sem]; done)))); simp only [go_sem, *]) | (refine y9 [0] [] (s2) (by simp) ?_ ?_ (by simp) (.inl rfl) ?_ ?_ ?_; (iterate 2 (focus (simp only [go_sem, *]; done))); (iterate 2 (focus (first | (simp; done) | (simp [go_sem]; done)))); simp only [go_sem, *]) | (refine y9 [0] [] (s3) (by simp) ?_ ?_ (by simp) (.inl rfl) ?_ ?_ ?_; (iterate 2 (focus (simp only [go_sem, *]; done))); (iterate 2 (focus (first | (simp; done) | (simp [go_sem]; done)))); simp only [go_sem, *]) | (refine y9 [0] [] (sa) (by simp) ?_ ?_ (by simp) (.inl rfl) ?_ ?_ ?_; (iterate 2 (focus (simp only [go_sem, *]; done))); (iterate 2 (focus (first | (simp; done) | (simp [go_sem]; done)))); simp only [go_sem, *]) | (refine y9 [0] [] (sb) (by simp) ?_ ?_ (by simp) (.inl rfl) ?_ ?_ ?_; (iterate 2 (focus (simp only [go_sem, *]; done))); (iterate 2 (focus (first | (simp; done) | (simp [go_sem]; done)))); simp only [go_sem, *]) | ((with_reducible apply And.intro); focus omega) | (refine z8 hK ?_; clear hK; simp only [go_sem, *]) | simp only [z6, z7, go_sem, *])
   all_goals try contradiction
   refine ⟨[.agg [iV 7, iV s, iV o, iV a.number, iV a.letter, iV b.number, iV b.letter]], [some 0], [], ⟨by simp only [u1, go_sem], trivial⟩, ?_⟩
   simp only [go_sem, zeroPlate, *]
 rw [if_neg k7]
 have k7' : (k == 7) = false := by rw [beq_eq_false_iff_ne]; exact k7
 by_cases k56 : k = 5 ∨ k = 6
 ·rw [if_pos k56]
  simp only
  have sa := zAx d2 (q7 p (s : Int)) hl2 (by omega)
  generalize j0 d2 (q7 p (s : Int)) = A at *
  obtain ⟨a, d4⟩ := A
  simp only at sa ⊢
  rcases k56 with k5 | k6
  ·subst k5
   clear k4 k7
   refine q8 func23 rfl (fun E hE => ?_); simp only [go_sem, ntmps23]
   repeat' (first | (refine Qr rfl ?_; try intro _ hK; try simp only [go_sem, *]) | refine Qh rfl ?_ | refine Qd rfl (by kernel_rfl) ?_ | (refine Qc rfl rfl ?_ ?_ <;> (intro hb; have hc := hb; try simp only [go_sem] at hc)) | refine q6 rfl ?_ | (refine Qb ?_ ?_; focus kernel_rfl) | (refine y9 [0] [] (s1) (by simp) ?_ ?_ (by simp) (.inl rfl) ?_ ?_ ?_; (iterate 2 (focus (simp only [go_sem, *]; done))); (iterate 2 (focus (first | (simp; done) | (simp [go_sem]; done)))); simp only [go_sem, *]) | (refine y9 [0] [] (s2) (by simp) ?_ ?_ (by simp) (.inl rfl) ?_ ?_ ?_; (iterate 2 (focus (simp only [go_sem, *]; done))); (iterate 2 (focus (first | (simp; done) | (simp [go_sem]; done)))); simp only [go_sem, *]) | (refine y9 [0] [] (sa) (by simp) ?_ ?_ (by simp) (.inl rfl) ?_ ?_ ?_; (iterate 2 (focus (simp only [go_sem, *]; done))); (iterate 2 (focus (first | (simp; done) | (simp [go_sem]; done)))); simp only [go_sem, *]) | ((with_reducible apply And.intro); focus omega) | (refine z8 hK ?_; clear hK; simp only [go_sem, *]) | simp only [z6, z7, go_sem, *])
   all_goals try contradiction
   refine ⟨[.agg [iV 5, iV s, iV 0, iV a.number, iV a.letter, iV 0, iV 0]], [some 0], [], ⟨by simp only [u1, go_sem], trivial⟩, ?_⟩
   simp only [go_sem, zeroPlate, *]
  ·subst k6
   clear k4 k7
   refine q8 func23 rfl (fun E hE => ?_); simp only [go_sem, ntmps23]
   repeat' (first | (refine Qr rfl ?_; try intro _ hK; try simp only [go_sem, *]) | refine Qh rfl ?_ | refine Qd rfl (by kernel_rfl) ?_ | (refine Qc rfl rfl ?_ ?_ <;> (intro hb; have hc := hb; try simp only [go_sem] at hc)) | refine q6 rfl ?_ | (refine Qb ?_ ?_; focus kernel_rfl) | (refine y9 [0] [] (s1) (by simp) ?_ ?_ (by simp) (.inl rfl) ?_ ?_ ?_; (iterate 2 (focus (simp only [go_sem, *]; done))); (iterate 2 (focus (first | (simp; done) | (simp [go_sem]; done)))); simp only [go_sem, *]) | (refine y9 [0] [] (s2) (by simp) ?_ ?_ (by simp) (.inl rfl) ?_ ?_ ?_; (iterate 2 (focus (simp only [go_sem, *]; done))); (iterate 2 (focus (first | (simp; done) | (simp [go_sem]; done)))); simp only [go_sem, *]) | (refine y9 [0] [] (sa) (by simp) ?_ ?_ (by simp) (.inl rfl) ?_ ?_ ?_; (iterate 2 (focus (simp only [go_sem, *]; done))); (iterate 2 (focus (first | (simp; done) | (simp [go_sem]; done)))); simp only [go_sem, *]) | ((with_reducible apply And.intro); focus omega) | (refine z8 hK ?_; clear hK; simp only [go_sem, *]) | simp only [z6, z7, go_sem, *])
   all_goals try contradiction
   refine ⟨[.agg [iV 6, iV s, iV 0, iV a.number, iV a.letter, iV 0, iV 0]], [some 0], [], ⟨by simp only [u1, go_sem], trivial⟩, ?_⟩
   simp only [go_sem, zeroPlate, *]
 ·rw [if_neg k56]
  have k5' : (k == 5) = false := by rw [beq_eq_false_iff_ne]; omega
  have k6' : (k == 6) = false := by rw [beq_eq_false_iff_ne]; omega
  clear k4 k7 k56
  refine q8 func23 rfl (fun E hE => ?_); simp only [go_sem, ntmps23]
  repeat' (first | (refine Qr rfl ?_; try intro _ hK; try simp only [go_sem, *]) | refine Qh rfl ?_ | refine Qd rfl (by kernel_rfl) ?_ | (refine Qc rfl rfl ?_ ?_ <;> (intro hb; have hc := hb; try simp only [go_sem] at hc)) | refine q6 rfl ?_ | (refine Qb ?_ ?_; focus kernel_rfl) | (refine y9 [0] [] (s1) (by simp) ?_ ?_ (by simp) (.inl rfl) ?_ ?_ ?_; (iterate 2 (focus (simp only [go_sem, *]; done))); (iterate 2 (focus (first | (simp; done) | (simp [go_sem]; done)))); simp only [go_sem, *]) | (refine y9 [0] [] (s2) (by simp) ?_ ?_ (by simp) (.inl rfl) ?_ ?_ ?_; (iterate 2 (focus (simp only [go_sem, *]; done))); (iterate 2 (focus (first | (simp; done) | (simp [go_sem]; done)))); simp only [go_sem, *]) | ((with_reducible apply And.intro); focus omega) | (refine z8 hK ?_; clear hK; simp only [go_sem, *]) | simp only [z6, z7, go_sem, *])
  all_goals try contradiction
  refine ⟨[.agg [iV k, iV s, iV 0, iV 0, iV 0, iV 0, iV 0]], [some 0], [], ⟨by simp only [u1, go_sem], trivial⟩, ?_⟩
  simp only [go_sem, zeroPlate, *]
end Go.Abs

namespace Go.Abs
open Go
def W6 (p : zLo) : Nat → Dice → List Change → List Change × Dice
 | 0, d, out => (out, d)
 | n + 1, d, out => W6 p n (j1 d p).2 (out ++ [(j1 d p).1])
def zL9 (p : zLo) (ways : Int) (d : Dice) : List Change × Dice := W6 p (u6 1 ways d).toNat (w7 1 ways d) []
def Y3 (p : zLo) (ways : Int) : Nat → Dice → List (List Change) → List (List Change) × Dice
 | 0, d, out => (out, d)
 | n + 1, d, out => Y3 p ways n (zL9 p ways d).2 (out ++ [(zL9 p ways d).1])
def F8 (l : List House) (d : Dice) : House := l.getD (toN ((l.length : Int) - 1) d).toNat default
def o5 (l : List House) (d : Dice) : Dice := toD ((l.length : Int) - 1) d
def H7 (a b : House) (t : Bool) : Fact := if t = true then ⟨a, a⟩ else ⟨a, b⟩
def T6 (l : List House) (d : Dice) : Fact := H7 (F8 l d) (F8 l (o5 l d)) (i5 2 (o5 l (o5 l d)))
def T5 (l : List House) (d : Dice) : Dice := t7 2 (o5 l (o5 l d))
def f5 (l : List House) : Nat → Dice → List Fact → List Fact × Dice
 | 0, d, out => (out, d)
 | n + 1, d, out => if l.length = 0 then (out, d) else f5 l n (T5 l d) (out ++ [T6 l d])
def S8 (p : zLo) (steps ways : Int) (d : Dice) : List (List Change) × Dice := Y3 p ways (toN steps d).toNat (toD steps d) []
def S9 (p : zLo) (facts : Int) (d : Dice) : List Fact × Dice := f5 (q9 p) (toN facts d).toNat (toD facts d) []
def D9 (p : zLo) (a : List (List Change) × Dice) (facts : Int) : Story × Dice := (⟨p, a.1, (S9 p facts a.2).1⟩, (S9 p facts a.2).2)
def C0 (P : zLo × Dice) (steps ways facts : Int) : Story × Dice := D9 P.1 (S8 P.1 steps ways P.2) facts
def R0 (d : Dice) (houses steps ways facts : Int) : Story × Dice := C0 (f8 d houses) steps ways facts
theorem zDb (p : zLo) : ∀ (n : Nat) (d : Dice) (out : List Change), (W6 p n d out).2.list = d.list
 | 0, d, out => rfl
 | n + 1, d, out => by rw [W6, zDb p n, zBO]
theorem zDZ (p : zLo) (w : Int) (d : Dice) : (zL9 p w d).2.list = d.list := by unfold zL9; rw [zDb, V2]
theorem zDF (p : zLo) (w : Int) : ∀ (n : Nat) (d : Dice) (out : List (List Change)), (Y3 p w n d out).2.list = d.list
 | 0, d, out => rfl
 | n + 1, d, out => by rw [Y3, zDF p w n, zDZ]
theorem zDH (p : zLo) (s w : Int) (d : Dice) : (S8 p s w d).2.list = d.list := by unfold S8; rw [zDF, r4]
theorem J5 (l : List House) (d : Dice) : (o5 l d).list = d.list := r4 _ _
theorem zBX (l : List House) (d : Dice) : (T5 l d).list = d.list := by unfold T5; rw [N4, J5, J5]
theorem zBY (l : List House) : ∀ (n : Nat) (d : Dice) (out : List Fact), (f5 l n d out).2.list = d.list
 | 0, d, out => rfl
 | n + 1, d, out => by
  rw [f5]
  split
  ·rfl
  ·rw [zBY l n, zBX]
theorem zLe (d : Dice) (h s w f : Int) : (R0 d h s w f).2.list = d.list := by
 unfold R0 C0 D9 S9
 simp only [zBY, r4, zDH, zCb]
theorem zD8 (d : Dice) (p : zLo) (k s : Int) (h : 1 ≤ k ∧ k ≤ 7) : (P4 d p k s).1.kind = k := by
 unfold P4
 split
 ·rename_i e; exact e.symm
 ·split
  ·rename_i e; simp only; split <;> exact e.symm
  ·split <;> rfl
theorem zEA (d : Dice) (p : zLo) : zLr (j1 d p).1.kind 1 7 = true := by
 have h := b8 (lo := 1) (hi := 7) (by omega) d
 unfold j1
 rw [zD8 _ _ _ _ h, betw_iff]; exact h
theorem zDc (p : zLo) : ∀ (n : Nat) (d : Dice) (out : List Change), (∀ c, c ∈ out → zLr c.kind 1 7 = true) → (W6 p n d out).1.length = out.length + n ∧ ∀ c, c ∈ (W6 p n d out).1 → zLr c.kind 1 7 = true
 | 0, d, out, h => ⟨rfl, h⟩
 | n + 1, d, out, h => by
  obtain ⟨h1, h2⟩ := zDc p n (j1 d p).2 (out ++ [(j1 d p).1]) (fun c hc => by
   rcases List.mem_append.1 hc with hc | hc
   ·exact h c hc
   ·rw [List.mem_singleton.1 hc]; exact zEA d p)
  rw [W6]
  exact ⟨by rw [h1]; simp; omega, h2⟩
theorem zIS (p : zLo) {w : Int} (hw : 1 ≤ w ∧ w ≤ 3) (d : Dice) : 0 < (zL9 p w d).1.length ∧ (zL9 p w d).1.length ≤ 3 ∧ ((zL9 p w d).1.length : Int) ≤ w ∧ l2 (zL9 p w d).1 = 0 := by
 have h := b8 (lo := 1) (hi := w) hw.1 d
 obtain ⟨h1, h2⟩ := zDc p (u6 1 w d).toNat (w7 1 w d) [] (by simp)
 simp only [List.length_nil, Nat.zero_add] at h1
 unfold zL9
 rw [zDa, h1]
 exact ⟨by omega, by omega, by omega, h2⟩
theorem zDG (p : zLo) {w : Int} (hw : 1 ≤ w ∧ w ≤ 3) : ∀ (n : Nat) (d : Dice) (out : List (List Change)), (∀ x, x ∈ out → 0 < x.length ∧ x.length ≤ 3 ∧ (x.length : Int) ≤ w ∧ l2 x = 0) →
  (Y3 p w n d out).1.length = out.length + n ∧ ∀ x, x ∈ (Y3 p w n d out).1 → 0 < x.length ∧ x.length ≤ 3 ∧ (x.length : Int) ≤ w ∧ l2 x = 0
 | 0, d, out, h => ⟨rfl, h⟩
 | n + 1, d, out, h => by
  obtain ⟨h1, h2⟩ := zDG p hw n (zL9 p w d).2 (out ++ [(zL9 p w d).1]) (fun c hc => by
   rcases List.mem_append.1 hc with hc | hc
   ·exact h c hc
   ·rw [List.mem_singleton.1 hc]; exact zIS p hw d)
  rw [Y3]
  exact ⟨by rw [h1]; simp; omega, h2⟩
theorem F9 {l : List House} (h : l.length ≠ 0) (d : Dice) : F8 l d ∈ l := by
 have := Y4 (n := (l.length : Int) - 1) (by omega) d
 exact w8 (by omega)
theorem zEh {l : List House} (h : l.length ≠ 0) (d : Dice) : (T6 l d).src ∈ l ∧ (T6 l d).dst ∈ l := by
 unfold T6 H7
 split
 ·exact ⟨F9 h _, F9 h _⟩
 ·exact ⟨F9 h _, F9 h _⟩
theorem zBZ (l : List House) : ∀ (n : Nat) (d : Dice) (out : List Fact), (∀ f, f ∈ out → f.src ∈ l ∧ f.dst ∈ l) → (f5 l n d out).1.length ≤ out.length + n ∧ ∀ f, f ∈ (f5 l n d out).1 → f.src ∈ l ∧ f.dst ∈ l
 | 0, d, out, h => ⟨Nat.le_refl _, h⟩
 | n + 1, d, out, h => by
  rw [f5]
  split
  ·exact ⟨by simp, h⟩
  ·rename_i hl
   obtain ⟨h1, h2⟩ := zBZ l n (T5 l d) (out ++ [T6 l d]) (fun c hc => by
    rcases List.mem_append.1 hc with hc | hc
    ·exact h c hc
    ·rw [List.mem_singleton.1 hc]; exact zEh hl d)
   exact ⟨by simp only [List.length_append, List.length_singleton] at h1; omega, h2⟩
structure Small (s : Story) (steps ways facts : Int) : Prop where
 told : Told s
 steps : (s.steps.length : Int) ≤ steps
 ways : ∀ w, w ∈ s.steps → (w.length : Int) ≤ ways
 facts : (s.facts.length : Int) ≤ facts
 dst : ∀ f, f ∈ s.facts → f.dst ∈ q9 s.first
theorem zLf {d : Dice} {houses steps ways facts : Int} (hh : houses ≤ 8) (hs : 0 ≤ steps ∧ steps ≤ 3) (hw : 1 ≤ ways ∧ ways ≤ 3) (hf : 0 ≤ facts ∧ facts ≤ 4) : Small (R0 d houses steps ways facts).1 steps ways facts := by
 have v := zCc (d := d) hh
 unfold R0
 generalize f8 d houses = P at *
 obtain ⟨p, d1⟩ := P
 simp only at v
 have n1 := Y4 hs.1 d1
 obtain ⟨a1, a2⟩ := zDG p hw (toN steps d1).toNat (toD steps d1) [] (by simp)
 unfold C0 D9 S8
 generalize Y3 p ways (toN steps d1).toNat (toD steps d1) [] = A at *
 obtain ⟨w, d2⟩ := A
 simp only [List.length_nil, Nat.zero_add] at a1 a2
 have n2 := Y4 hf.1 d2
 obtain ⟨b1, b2⟩ := zBZ (q9 p) (toN facts d2).toNat (toD facts d2) [] (by simp)
 unfold S9
 generalize f5 (q9 p) (toN facts d2).toNat (toD facts d2) [] = B at *
 obtain ⟨f, d3⟩ := B
 simp only [List.length_nil, Nat.zero_add] at b1 b2
 refine ⟨⟨v, ?_, fun x hx => ?_, ?_, fun x hx => ?_⟩, ?_, fun x hx => ?_, ?_, fun x hx => (b2 x hx).2⟩
 ·simp only; omega
 ·have := a2 x hx; exact ⟨this.1, this.2.1, this.2.2.2⟩
 ·simp only; omega
 ·obtain ⟨h1, h2⟩ := b2 x hx
  obtain ⟨m1, m2, m3⟩ := mem_houses.1 h2
  refine ⟨h1, betw_iff.2 ⟨m1, by simp only; omega⟩, ?_⟩
  exact (v.row _).ok _ m3
 ·simp only; omega
 ·exact (a2 x hx).2.2.1
 ·simp only; omega
theorem zLj {s : Story} (t : Told s) : r9 s = 0 := by
 have h1 := t.steps
 have h2 := t.facts
 unfold r9
 rw [if_pos ((T1 _).2 t.first), if_neg (by omega)]
 unfold W2
 rw [if_pos (stepsErr_zero.2 t.ways)]
 unfold L8
 rw [if_neg (by omega)]
 exact factsErr_zero.2 t.fact
end Go.Abs

namespace Go.Abs
open Go Go.Proofs Tryz
attribute [local irreducible] y6 Hold x8
def AtH (x : House) (acc : List House) (j : Nat) : Prop := ∀ m, m < j → (acc.getD m default).lt x = true
theorem AtH.next {x : House} {acc : List House} {j : Nat} (h : AtH x acc j) (hx : (acc.getD j default).lt x = true) : AtH x acc (j + 1) := fun m hm => by
 rcases Nat.lt_succ_iff_lt_or_eq.1 hm with h1 | rfl
 ·exact h m h1
 ·exact hx
def SoP (l : List House) (i : Nat) (acc R : List House) : Prop := (l.drop i).foldl (fun out x => zL2 x out) acc = R ∧ acc.length ≤ i
theorem SoP.next {l : List House} {i : Nat} {acc R : List House} (h : SoP l i acc R) (hi : i < l.length) : SoP l (i + 1) (zL2 (l.getD i default) acc) R := by
 obtain ⟨h1, h2⟩ := h
 rw [u0 hi, List.foldl_cons] at h1
 exact ⟨h1, by have := zAJ (x := l.getD i default) (l := acc); omega⟩
theorem zLb (l : List House) (hl : l.length ≤ 4294967296) : zLp prog 64 [.list (l.map House.enc)] [] (.list ((s6 l).map House.enc)) [] := by
 have h0 : SoP l 0 [] (s6 l) := ⟨rfl, by simp⟩
 generalize s6 l = R at *
 refine q8 func64 rfl (fun E hE => ?_); simp only [go_sem, ntmps64]
 repeat' (first | (refine Qr rfl ?_; try intro _ hK; try simp only [go_sem, *]) | (refine Qi rfl rfl rfl rfl ?_ ?_ <;> (intro hb; (try intro _ hK); have hc := hb; try simp only [go_sem] at hc; simp only [go_sem, *])) | refine Qh rfl ?_ | refine Qd rfl (by kernel_rfl) ?_ | (refine Qc rfl rfl ?_ ?_ <;> (intro hb; have hc := hb; try simp only [go_sem] at hc)) | refine q6 rfl ?_ | (refine Qb ?_ ?_; focus kernel_rfl) | ((with_reducible apply And.intro); focus omega) | (refine z8 hK ?_; clear hK; simp only [go_sem, *]) | simp only [z6, z7, go_sem, *])
 refine u4 rfl (l.length) (fun i (acc : List House) => SoP l i acc R) 60 (fun i acc => [(4, iV i), (3, .own 0 3 0 acc.length), (0, .list (l.map House.enc))]) (fun i acc => [.row 3 (acc.map House.enc)]) [none] [] ([]) (by exact h0) ?_; intro i acc hi hP
 clear h0
 by_cases hi2 : i < l.length
 ·have hnx := hP.next hi2
  have hal := hP.2
  clear hP
  repeat' (first | (refine Qr rfl ?_; try intro _ hK; try simp only [go_sem, *]) | (refine Qi rfl rfl rfl rfl ?_ ?_ <;> (intro hb; (try intro _ hK); have hc := hb; try simp only [go_sem] at hc; simp only [go_sem, *])) | refine Qh rfl ?_ | refine Qd rfl (by kernel_rfl) ?_ | (refine Qc rfl rfl ?_ ?_ <;> (intro hb; have hc := hb; try simp only [go_sem] at hc)) | refine q6 rfl ?_ | (refine Qb ?_ ?_; focus kernel_rfl) | ((with_reducible apply And.intro); focus omega) | (refine z8 hK ?_; clear hK; simp only [go_sem, *]) | simp only [z6, z7, go_sem, *])
  generalize hx : l.getD i default = x at *
  have hxl : ∀ d, (l.map House.enc).getD i d = x.enc := fun d => by rw [← hx]; exact zFJ hi2
  refine u3 rfl (acc.length) (fun j => AtH x acc j) 60 (fun j => [(5, iV j), (4, iV i), (3, .own 0 3 0 acc.length), (0, .list (l.map House.enc))]) (fun j => [.row 3 (acc.map House.enc)]) [some 0] [] (by exact fun m hm => absurd hm (by omega)) ?_; intro j hj hJ
  have hmn : min j acc.length = j := by omega
  have hl2 : j + (acc.length - j + 1) = j + 1 + (acc.length - j) := by omega
  have hdl2 : (List.drop j (List.map House.enc acc)).length = acc.length - j := by simp
  have htd : List.take (acc.length - j) (List.drop j (List.map House.enc acc)) = List.drop j (List.map House.enc acc) := List.take_of_length_le (by simp)
  by_cases hj2 : j < acc.length
  ·have sb := zHB (acc.getD j default) x
   by_cases hlt : (acc.getD j default).lt x = true
   ·rw [hlt] at sb
    repeat' (first | (refine Qr rfl ?_; try intro _ hK; try simp only [go_sem, *]) | (refine Qi rfl rfl rfl rfl ?_ ?_ <;> (intro hb; (try intro _ hK); have hc := hb; try simp only [go_sem] at hc; simp only [go_sem, *])) | refine Qh rfl ?_ | refine Qd rfl (by kernel_rfl) ?_ | (refine Qc rfl rfl ?_ ?_ <;> (intro hb; have hc := hb; try simp only [go_sem] at hc)) | refine q6 rfl ?_ | (refine Qb ?_ ?_; focus kernel_rfl) | (refine y4 (sb) ?_; simp only [go_sem, *]) | ((with_reducible apply And.intro); focus omega) | (refine z8 hK ?_; clear hK; simp only [go_sem, *]) | simp only [z6, z7, go_sem, *])
    all_goals try contradiction
    exact u2 (i' := j + 1) [some 0] [] (by exact hJ.next hlt)
   ·rw [Bool.not_eq_true] at hlt
    rw [hlt] at sb
    have hin := zAI (by omega) hJ (fun _ => hlt)
    by_cases heq : acc.getD j default = x
    ·rw [if_pos ⟨hj2, heq⟩] at hin
     rw [hin] at hnx
     clear hin
     have hne : (decide (acc.getD j default = x)) = true := by simpa using heq
     clear heq
     repeat' (first | (refine Qr rfl ?_; try intro _ hK; try simp only [go_sem, *]) | (refine Qi rfl rfl rfl rfl ?_ ?_ <;> (intro hb; (try intro _ hK); have hc := hb; try simp only [go_sem] at hc; simp only [go_sem, *])) | refine Qh rfl ?_ | refine Qd rfl (by kernel_rfl) ?_ | (refine Qc rfl rfl ?_ ?_ <;> (intro hb; have hc := hb; try simp only [go_sem] at hc)) | refine q6 rfl ?_ | (with_reducible (show (∀ _ : AV, _ → _) ∧ _); refine And.intro ?_ ?_; (focus (intro y hy; first | (obtain ⟨z, _, rfl⟩ := List.mem_map.1 (hy); simp [go_sem]; done) | (obtain ⟨z, _, rfl⟩ := List.mem_map.1 (List.mem_of_mem_take hy); simp [go_sem]; done) | (obtain ⟨z, _, rfl⟩ := List.mem_map.1 (List.mem_of_mem_drop hy); simp [go_sem]; done) | (obtain ⟨z, _, rfl⟩ := List.mem_map.1 (List.mem_of_mem_drop (List.mem_of_mem_take hy)); simp [go_sem]; done)))) | (refine Qb ?_ ?_; focus kernel_rfl) | (refine y4 (sb) ?_; simp only [go_sem, *]) | ((with_reducible apply And.intro); focus omega) | (refine z8 hK ?_; clear hK; simp only [go_sem, *]) | simp only [z6, z7, go_sem, *])
     all_goals try contradiction
     exact w6 (i' := i + 1) [some 0] [] (acc) (by exact hnx)
    ·rw [if_neg (fun h => heq h.2)] at hin
     rw [hin] at hnx
     clear hin
     have hne : (decide (acc.getD j default = x)) = false := by simpa using heq
     clear heq
     repeat' (first | (refine Qr rfl ?_; try intro _ hK; try simp only [go_sem, *]) | (refine Qi rfl rfl rfl rfl ?_ ?_ <;> (intro hb; (try intro _ hK); have hc := hb; try simp only [go_sem] at hc; simp only [go_sem, *])) | refine Qh rfl ?_ | refine Qd rfl (by kernel_rfl) ?_ | (refine Qc rfl rfl ?_ ?_ <;> (intro hb; have hc := hb; try simp only [go_sem] at hc)) | refine q6 rfl ?_ | (with_reducible (show (∀ _ : AV, _ → _) ∧ _); refine And.intro ?_ ?_; (focus (intro y hy; first | (obtain ⟨z, _, rfl⟩ := List.mem_map.1 (hy); simp [go_sem]; done) | (obtain ⟨z, _, rfl⟩ := List.mem_map.1 (List.mem_of_mem_take hy); simp [go_sem]; done) | (obtain ⟨z, _, rfl⟩ := List.mem_map.1 (List.mem_of_mem_drop hy); simp [go_sem]; done) | (obtain ⟨z, _, rfl⟩ := List.mem_map.1 (List.mem_of_mem_drop (List.mem_of_mem_take hy)); simp [go_sem]; done)))) | (refine Qb ?_ ?_; focus kernel_rfl) | (refine y4 (sb) ?_; simp only [go_sem, *]) | ((with_reducible apply And.intro); focus omega) | (refine z8 hK ?_; clear hK; simp only [go_sem, *]) | simp only [z6, z7, go_sem, *])
     all_goals try contradiction
     exact w6 (i' := i + 1) [some 5] [] (acc.take j ++ x :: acc.drop j) (by exact hnx)
  ·have hin := zAI (x := x) (l := acc) (k := j) (by omega) hJ (fun h => absurd h hj2)
   rw [if_neg (fun h => hj2 h.1)] at hin
   rw [hin] at hnx
   clear hin
   repeat' (first | (refine Qr rfl ?_; try intro _ hK; try simp only [go_sem, *]) | (refine Qi rfl rfl rfl rfl ?_ ?_ <;> (intro hb; (try intro _ hK); have hc := hb; try simp only [go_sem] at hc; simp only [go_sem, *])) | refine Qh rfl ?_ | refine Qd rfl (by kernel_rfl) ?_ | (refine Qc rfl rfl ?_ ?_ <;> (intro hb; have hc := hb; try simp only [go_sem] at hc)) | refine q6 rfl ?_ | (with_reducible (show (∀ _ : AV, _ → _) ∧ _); refine And.intro ?_ ?_; (focus (intro y hy; first | (obtain ⟨z, _, rfl⟩ := List.mem_map.1 (hy); simp [go_sem]; done) | (obtain ⟨z, _, rfl⟩ := List.mem_map.1 (List.mem_of_mem_take hy); simp [go_sem]; done) | (obtain ⟨z, _, rfl⟩ := List.mem_map.1 (List.mem_of_mem_drop hy); simp [go_sem]; done) | (obtain ⟨z, _, rfl⟩ := List.mem_map.1 (List.mem_of_mem_drop (List.mem_of_mem_take hy)); simp [go_sem]; done)))) | (refine Qb ?_ ?_; focus kernel_rfl) | ((with_reducible apply And.intro); focus omega) | (refine z8 hK ?_; clear hK; simp only [go_sem, *]) | simp only [z6, z7, go_sem, *])
   all_goals try contradiction
   exact w6 (i' := i + 1) [some 5] [] (acc.take j ++ x :: acc.drop j) (by exact hnx)
 ·obtain ⟨h1, h2⟩ := hP
  rw [u7 (by omega)] at h1
  have h3 : acc = R := h1
  subst h3
  clear h1 h2
  repeat' (first | (refine Qr rfl ?_; try intro _ hK; try simp only [go_sem, *]) | (refine Qi rfl rfl rfl rfl ?_ ?_ <;> (intro hb; (try intro _ hK); have hc := hb; try simp only [go_sem] at hc; simp only [go_sem, *])) | refine Qh rfl ?_ | refine Qd rfl (by kernel_rfl) ?_ | (refine Qc rfl rfl ?_ ?_ <;> (intro hb; have hc := hb; try simp only [go_sem] at hc)) | refine q6 rfl ?_ | (refine Qb ?_ ?_; focus kernel_rfl) | ((with_reducible apply And.intro); focus omega) | (refine z8 hK ?_; clear hK; simp only [go_sem, *]) | simp only [z6, z7, go_sem, *])
  refine ⟨[_], [], [0], ⟨rfl, trivial⟩, ?_⟩
  simp only [go_sem, *]
end Go.Abs

namespace Go.Abs
open Go Go.Proofs Tryz
attribute [local irreducible] y6 Hold x8
def SsP (p : zLo) (ways : Int) (k : Nat) (dd : Dice) (acc : List (List Change)) (R : List (List Change) × Dice) : Prop := Y3 p ways k dd acc = R ∧ dd.list.length ≤ 4294967296 ∧ acc.length + k ≤ 3
theorem SsP.next {p : zLo} {ways : Int} {dd : Dice} {k : Nat} {acc : List (List Change)} {R : List (List Change) × Dice} (h : SsP p ways (k + 1) dd acc R) : SsP p ways k (zL9 p ways dd).2 (acc ++ [(zL9 p ways dd).1]) R := by
 obtain ⟨h1, h2, h3⟩ := h
 exact ⟨h1, by rw [zDZ]; exact h2, by simp; omega⟩
def WsP (p : zLo) (k : Nat) (dd : Dice) (acc : List Change) (R : List Change × Dice) : Prop := W6 p k dd acc = R ∧ dd.list.length ≤ 4294967296 ∧ acc.length + k ≤ 3
theorem WsP.next {p : zLo} {dd : Dice} {k : Nat} {acc : List Change} {R : List Change × Dice} (h : WsP p (k + 1) dd acc R) : WsP p k (j1 dd p).2 (acc ++ [(j1 dd p).1]) R := by
 obtain ⟨h1, h2, h3⟩ := h
 exact ⟨h1, by rw [zBO]; exact h2, by simp; omega⟩
def FsP (l : List House) (k : Nat) (dd : Dice) (acc : List Fact) (R : List Fact × Dice) : Prop := f5 l k dd acc = R ∧ dd.list.length ≤ 4294967296 ∧ acc.length + k ≤ 4
theorem FsP.next {l : List House} {dd : Dice} {k : Nat} {acc : List Fact} {R : List Fact × Dice} (hl : l.length ≠ 0) (h : FsP l (k + 1) dd acc R) : FsP l k (T5 l dd) (acc ++ [T6 l dd]) R := by
 obtain ⟨h1, h2, h3⟩ := h
 rw [f5, if_neg hl] at h1
 exact ⟨h1, by rw [zBX]; exact h2, by simp; omega⟩
theorem zLV (d : Dice) (houses steps ways facts : Int) (h : d.list.length ≤ 4294967296) (hm : houses ≤ 8) (hst : 0 ≤ steps ∧ steps ≤ 3) (hwy : 1 ≤ ways ∧ ways ≤ 3) (hfc : 0 ≤ facts ∧ facts ≤ 4) :
  zLp prog 38 [.ptr 0 0, iV houses, iV steps, iV ways, iV facts] [u9 d] (R0 d houses steps ways facts).1.enc [u9 (R0 d houses steps ways facts).2] := by
 have s2 := zHX d houses h hm
 have v := zCc (d := d) hm
 have hl := zCb d houses
 unfold R0
 generalize f8 d houses = P at *
 obtain ⟨p, d1⟩ := P
 simp only at s2 v hl
 have hd1 : d1.list.length ≤ 4294967296 := by rw [hl]; exact h
 unfold C0
 have st := X9 d1 steps hd1 (by omega)
 have hr := Y4 hst.1 d1
 obtain ⟨n, hn⟩ : ∃ n : Nat, toN steps d1 = n := ⟨(toN steps d1).toNat, by omega⟩
 have h0 : SsP p ways (n - 0) (toD steps d1) [] (S8 p steps ways d1) := by
  unfold S8
  rw [hn]
  exact ⟨by simp, by rw [r4]; exact hd1, by simp; omega⟩
 have hal := zDH p steps ways d1
 rw [hn] at st hr
 simp only
 generalize S8 p steps ways d1 = R1 at *
 obtain ⟨SW, d3⟩ := R1
 simp only at hal
 have hd3 : d3.list.length ≤ 4294967296 := by rw [hal]; exact hd1
 unfold D9
 have sf := X9 d3 facts hd3 (by omega)
 have hr2 := Y4 hfc.1 d3
 obtain ⟨m, hmm⟩ : ∃ m : Nat, toN facts d3 = m := ⟨(toN facts d3).toNat, by omega⟩
 have hf0 : FsP (q9 p) (m - 0) (toD facts d3) [] (S9 p facts d3) := by
  unfold S9
  rw [hmm]
  exact ⟨by simp, by rw [r4]; exact hd3, by simp; omega⟩
 rw [hmm] at sf hr2
 simp only
 generalize S9 p facts d3 = R2 at *
 obtain ⟨FT, d5⟩ := R2
 simp only
 have hct := v.count
 have sho := zHU p (by have := v.len; omega) (fun l hl => by have := (v.rows l hl).len; omega) (by omega)
 have hn3 : n ≤ 3 := by omega
 have hm4 : m ≤ 4 := by omega
 clear hn hmm hl hal hd1 hd3 h hst hfc hm
 generalize toD steps d1 = d2 at *
 generalize toD facts d3 = d4 at *
 refine q8 func38 rfl (fun E hE => ?_); simp only [go_sem, ntmps38]
 repeat' (first | (refine Qr rfl ?_; try intro _ hK; try simp only [go_sem, *]) | (refine Qi rfl rfl rfl rfl ?_ ?_ <;> (intro hb; (try intro _ hK); have hc := hb; try simp only [go_sem] at hc; simp only [go_sem, *])) | refine Qh rfl ?_ | refine Qd rfl (by kernel_rfl) ?_ | (refine Qc rfl rfl ?_ ?_ <;> (intro hb; have hc := hb; try simp only [go_sem] at hc)) | refine q6 rfl ?_ | (refine Qb ?_ ?_; focus kernel_rfl) | (refine y9 [0] [] (s2) (by simp) ?_ ?_ (by simp) (.inl rfl) ?_ ?_ ?_; (iterate 2 (focus (simp only [go_sem, *]; done))); (iterate 2 (focus (first | (simp; done) | (simp [go_sem]; done)))); simp only [go_sem, *]) | (refine y9 [0] [] (st) (by simp) ?_ ?_ (by simp) (.inl rfl) ?_ ?_ ?_; (iterate 2 (focus (simp only [go_sem, *]; done))); (iterate 2 (focus (first | (simp; done) | (simp [go_sem]; done)))); simp only [go_sem, *]) | ((with_reducible apply And.intro); focus omega) | (refine z8 hK ?_; clear hK; simp only [go_sem, *]) | simp only [z6, z7, go_sem, *])
 all_goals try contradiction
 clear s2 st
 refine O6 rfl (n) (fun i (dd : Dice) (acc : List (List Change)) => SsP p ways (n - i) dd acc (SW, d3)) 95 (fun i dd acc => [(12, iV ((n - i : Nat) : Int)), (11, .ptr 2 0), (10, .ptr 1 0), (3, iV ways), (4, iV facts), (0, .ptr 0 0)]) (fun i dd acc => [u9 dd, .box [zLz, zLz, zLz], .box [.list (p.map y7), .own 3 1 0 acc.length, zLz], .row 1 (acc.map i9)]) [some 0, some 1, some 2, none] [] (d2) ([]) (by exact h0) ?_; intro i dd acc hi hP
 clear h0
 by_cases hi2 : i < n
 ·obtain ⟨k, hk⟩ : ∃ k, n - i = k + 1 := ⟨n - i - 1, by omega⟩
  have hk2 : n - (i + 1) = k := by omega
  rw [hk] at hP ⊢
  have hnx := hP.next
  have hw1 : IntKind.i64.wrap (((k + 1 : Nat) : Int) - 1) = (k : Int) := by rw [wrap_i64 (by omega) (by omega)]; omega
  have hgt : ((k + 1 : Nat) : Int) > 0 := by omega
  obtain ⟨_, hdl, hal⟩ := hP
  have sF := X8 dd 1 ways hdl (by omega) (by omega)
  have hwr := b8 (lo := 1) (hi := ways) hwy.1 dd
  obtain ⟨w, hwn⟩ : ∃ w : Nat, u6 1 ways dd = w := ⟨(u6 1 ways dd).toNat, by omega⟩
  have hw0 : WsP p (w - 0) (w7 1 ways dd) [] (zL9 p ways dd) := by
   unfold zL9
   rw [hwn]
   exact ⟨by simp, by rw [V2]; exact hdl, by simp; omega⟩
  rw [hwn] at sF hwr
  clear hwn
  generalize w7 1 ways dd = d6 at *
  generalize zL9 p ways dd = W at *
  obtain ⟨WL, d7⟩ := W
  simp only at hnx
  repeat' (first | (refine Qr rfl ?_; try intro _ hK; try simp only [go_sem, *]) | (refine Qi rfl rfl rfl rfl ?_ ?_ <;> (intro hb; (try intro _ hK); have hc := hb; try simp only [go_sem] at hc; simp only [go_sem, *])) | refine Qh rfl ?_ | refine Qd rfl (by kernel_rfl) ?_ | (refine Qc rfl rfl ?_ ?_ <;> (intro hb; have hc := hb; try simp only [go_sem] at hc)) | refine q6 rfl ?_ | (refine Qb ?_ ?_; focus kernel_rfl) | (refine Y6 [0] (sF) ?_; simp only [go_sem, *]) | ((with_reducible apply And.intro); focus omega) | (refine z8 hK ?_; clear hK; simp only [go_sem, *]) | simp only [z6, z7, go_sem, *])
  all_goals try contradiction
  clear sF
  refine O6 rfl (w) (fun j (de : Dice) (cs : List Change) => WsP p (w - j) de cs (WL, d7)) 95 (fun j de cs => [(14, iV ((w - j : Nat) : Int)), (13, .ptr 4 0), (12, iV ((k + 1 : Nat) : Int)), (11, .ptr 2 0), (10, .ptr 1 0), (3, iV ways), (4, iV facts), (0, .ptr 0 0)]) (fun j de cs => [u9 de, .box [zLz, zLz, zLz], .box [.list (p.map y7), .own 3 1 0 acc.length, zLz], .row 1 (acc.map i9), .box [.own 5 7 0 cs.length], .row 7 (cs.map Change.enc)]) [some 0, some 1, some 2, some 3, some 4, none] [] (d6) ([]) (by exact hw0) ?_; intro j de cs hj hQ
  clear hw0
  by_cases hj2 : j < w
  ·obtain ⟨b, hb1⟩ : ∃ b, w - j = b + 1 := ⟨w - j - 1, by omega⟩
   have hb2 : w - (j + 1) = b := by omega
   rw [hb1] at hQ ⊢
   have hny := hQ.next
   have hw2 : IntKind.i64.wrap (((b + 1 : Nat) : Int) - 1) = (b : Int) := by rw [wrap_i64 (by omega) (by omega)]; omega
   have hgt2 : ((b + 1 : Nat) : Int) > 0 := by omega
   obtain ⟨_, hel, hcl⟩ := hQ
   have sC := zHF de p hel v
   generalize j1 de p = C at *
   obtain ⟨c, d8⟩ := C
   simp only at sC hny
   repeat' (first | (refine Qr rfl ?_; try intro _ hK; try simp only [go_sem, *]) | (refine Qi rfl rfl rfl rfl ?_ ?_ <;> (intro hb; (try intro _ hK); have hc := hb; try simp only [go_sem] at hc; simp only [go_sem, *])) | refine Qh rfl ?_ | refine Qd rfl (by kernel_rfl) ?_ | (refine Qc rfl rfl ?_ ?_ <;> (intro hb; have hc := hb; try simp only [go_sem] at hc)) | refine q6 rfl ?_ | (refine Qb ?_ ?_; focus kernel_rfl) | (refine Y6 [0] (sC) ?_; simp only [go_sem, *]) | ((with_reducible apply And.intro); focus omega) | (refine z8 hK ?_; clear hK; simp only [go_sem, *]) | simp only [z6, z7, go_sem, *])
   all_goals try contradiction
   exact Z2 (i' := j + 1) [some 0, some 1, some 2, some 3, some 4, some 7] [] (d8) (cs ++ [c]) (by rw [hb2]; exact hny)
  ·have hj3 : w - j = 0 := by omega
   rw [hj3] at hQ ⊢
   obtain ⟨hQ1, _, hcl⟩ := hQ
   rw [W6] at hQ1
   injection hQ1 with hQ1 hQ2
   subst hQ1 hQ2
   repeat' (first | (refine Qr rfl ?_; try intro _ hK; try simp only [go_sem, *]) | (refine Qi rfl rfl rfl rfl ?_ ?_ <;> (intro hb; (try intro _ hK); have hc := hb; try simp only [go_sem] at hc; simp only [go_sem, *])) | refine Qh rfl ?_ | refine Qd rfl (by kernel_rfl) ?_ | (refine Qc rfl rfl ?_ ?_ <;> (intro hb; have hc := hb; try simp only [go_sem] at hc)) | refine q6 rfl ?_ | (refine Qb ?_ ?_; focus kernel_rfl) | ((with_reducible apply And.intro); focus omega) | (refine z8 hK ?_; clear hK; simp only [go_sem, *]) | simp only [z6, z7, go_sem, *])
   all_goals try contradiction
   exact Z2 (i' := i + 1) [some 0, some 1, some 2, some 7] [] (de) (acc ++ [cs]) (by rw [hk2]; exact hnx)
 ·have hi3 : n - i = 0 := by omega
  rw [hi3] at hP ⊢
  obtain ⟨hP1, _, hal⟩ := hP
  rw [Y3] at hP1
  injection hP1 with hP1 hP2
  subst hP1 hP2
  generalize hho : q9 p = H at *
  repeat' (first | (refine Qr rfl ?_; try intro _ hK; try simp only [go_sem, *]) | (refine Qi rfl rfl rfl rfl ?_ ?_ <;> (intro hb; (try intro _ hK); have hc := hb; try simp only [go_sem] at hc; simp only [go_sem, *])) | refine Qh rfl ?_ | refine Qd rfl (by kernel_rfl) ?_ | (refine Qc rfl rfl ?_ ?_ <;> (intro hb; have hc := hb; try simp only [go_sem] at hc)) | refine q6 rfl ?_ | (refine Qb ?_ ?_; focus kernel_rfl) | (refine s8 (sho) ?_; simp only [go_sem, *]) | (refine Y6 [0] (sf) ?_; simp only [go_sem, *]) | ((with_reducible apply And.intro); focus omega) | (refine z8 hK ?_; clear hK; simp only [go_sem, *]) | simp only [z6, z7, go_sem, *])
  all_goals try contradiction
  clear sho sf
  refine O6 rfl (m) (fun j (dd2 : Dice) (fs : List Fact) => FsP H (m - j) dd2 fs (FT, d5)) 95 (fun j dd2 fs => [(16, iV ((m - j : Nat) : Int)), (15, Q3 H), (11, .ptr 2 0), (10, .ptr 1 0), (0, .ptr 0 0)]) (fun j dd2 fs => [u9 dd2, .box [zLz, zLz, zLz], .box [.list (p.map y7), .own 3 1 0 acc.length, .own 4 6 0 fs.length], .row 1 (acc.map i9), .row 6 (fs.map Fact.enc)]) [some 0, some 1, some 2, some 3, none] [4] (d4) ([]) (by exact hf0) ?_; intro j dd2 fs hj hQ
  clear hf0
  by_cases hj2 : j < m
  ·obtain ⟨b, hb1⟩ : ∃ b, m - j = b + 1 := ⟨m - j - 1, by omega⟩
   have hb2 : m - (j + 1) = b := by omega
   rw [hb1] at hQ ⊢
   have hw2 : IntKind.i64.wrap (((b + 1 : Nat) : Int) - 1) = (b : Int) := by rw [wrap_i64 (by omega) (by omega)]; omega
   have hgt2 : ((b + 1 : Nat) : Int) > 0 := by omega
   by_cases h0 : H.length = 0
   ·have hz : ¬ ((H.length : Nat) : Int) > 0 := by omega
    obtain ⟨hQ1, _, hcl⟩ := hQ
    rw [f5, if_pos h0] at hQ1
    injection hQ1 with hQ1 hQ2
    subst hQ1 hQ2
    repeat' (first | (refine Qr rfl ?_; try intro _ hK; try simp only [go_sem, *]) | (refine Qi rfl rfl rfl rfl ?_ ?_ <;> (intro hb; (try intro _ hK); have hc := hb; try simp only [go_sem] at hc; simp only [go_sem, *])) | refine Qh rfl ?_ | refine Qd rfl (by kernel_rfl) ?_ | (refine Qc rfl rfl ?_ ?_ <;> (intro hb; have hc := hb; try simp only [go_sem] at hc)) | refine q6 rfl ?_ | (refine Qb ?_ ?_; focus kernel_rfl) | ((with_reducible apply And.intro); focus omega) | (refine z8 hK ?_; clear hK; simp only [go_sem, *]) | simp only [z6, z7, go_sem, *])
    all_goals try contradiction
    refine ⟨[.agg [.list (p.map y7), .own 3 1 0 acc.length, .own 4 6 0 fs.length]], [some 0], [3, 4], ⟨by simp only [u1, go_sem], trivial⟩, ?_⟩
    simp only [go_sem, *]
   ·have hz : ((H.length : Nat) : Int) > 0 := by omega
    have hny := hQ.next h0
    obtain ⟨_, hel, hcl⟩ := hQ
    have hwl : IntKind.i64.wrap ((H.length : Int) - 1) = (H.length : Int) - 1 := wrap_i64 (by omega) (by omega)
    have sT1 := X9 dd2 ((H.length : Int) - 1) hel (by omega)
    have sT2 := X9 (o5 H dd2) ((H.length : Int) - 1) (by rw [J5]; exact hel) (by omega)
    have sO := D6 (o5 H (o5 H dd2)) 2 (by rw [J5, J5]; exact hel) (by omega)
    have t1 := Y4 (n := (H.length : Int) - 1) (by omega) dd2
    have t2 := Y4 (n := (H.length : Int) - 1) (by omega) (o5 H dd2)
    change zLp _ _ _ _ _ [u9 (o5 H dd2)] at sT1
    change zLp _ _ _ _ _ [u9 (o5 H (o5 H dd2))] at sT2
    change zLp _ _ _ _ _ [u9 (T5 H dd2)] at sO
    unfold T6 F8 at hny
    obtain ⟨a, ha⟩ : ∃ a : Nat, toN ((H.length : Int) - 1) dd2 = a := ⟨(toN ((H.length : Int) - 1) dd2).toNat, by omega⟩
    obtain ⟨c, hc2⟩ : ∃ a : Nat, toN ((H.length : Int) - 1) (o5 H dd2) = a := ⟨(toN ((H.length : Int) - 1) (o5 H dd2)).toNat, by omega⟩
    rw [ha] at sT1 t1 hny
    rw [hc2] at sT2 t2 hny
    simp only [Int.toNat_natCast] at hny
    clear ha hc2
    have ha : a < H.length := by omega
    have hc3 : c < H.length := by omega
    generalize T5 H dd2 = d9 at *
    generalize o5 H (o5 H dd2) = d8 at *
    generalize o5 H dd2 = d7 at *
    by_cases o : i5 2 d8 = true
    ·rw [o] at sO hny
     unfold H7 at hny
     rw [if_pos rfl] at hny
     clear o
     repeat' (first | (refine Qr rfl ?_; try intro _ hK; try simp only [go_sem, *]) | (refine Qi rfl rfl rfl rfl ?_ ?_ <;> (intro hb; (try intro _ hK); have hc := hb; try simp only [go_sem] at hc; simp only [go_sem, *])) | refine Qh rfl ?_ | refine Qd rfl (by kernel_rfl) ?_ | (refine Qc rfl rfl ?_ ?_ <;> (intro hb; have hc := hb; try simp only [go_sem] at hc)) | refine q6 rfl ?_ | (refine Qb ?_ ?_; focus kernel_rfl) | (refine y9 [0] [] (sT1) (by simp) ?_ ?_ (by simp) (.inl rfl) ?_ ?_ ?_; (iterate 2 (focus (simp only [go_sem, *]; done))); (iterate 2 (focus (first | (simp; done) | (simp [go_sem]; done)))); simp only [go_sem, *]) | (refine y9 [0] [] (sT2) (by simp) ?_ ?_ (by simp) (.inl rfl) ?_ ?_ ?_; (iterate 2 (focus (simp only [go_sem, *]; done))); (iterate 2 (focus (first | (simp; done) | (simp [go_sem]; done)))); simp only [go_sem, *]) | (refine y9 [0] [] (sO) (by simp) ?_ ?_ (by simp) (.inl rfl) ?_ ?_ ?_; (iterate 2 (focus (simp only [go_sem, *]; done))); (iterate 2 (focus (first | (simp; done) | (simp [go_sem]; done)))); simp only [go_sem, *]) | ((with_reducible apply And.intro); focus omega) | (refine z8 hK ?_; clear hK; simp only [go_sem, *]) | simp only [z6, z7, go_sem, *])
     all_goals try contradiction
     exact Z2 (i' := j + 1) [some 0, some 1, some 2, some 3, some 7] [] (d9) (fs ++ [⟨H.getD a default, H.getD a default⟩]) (by rw [hb2]; exact hny)
    ·have o : i5 2 d8 = false := by simpa using o
     rw [o] at sO hny
     unfold H7 at hny
     rw [if_neg (by decide)] at hny
     clear o
     repeat' (first | (refine Qr rfl ?_; try intro _ hK; try simp only [go_sem, *]) | (refine Qi rfl rfl rfl rfl ?_ ?_ <;> (intro hb; (try intro _ hK); have hc := hb; try simp only [go_sem] at hc; simp only [go_sem, *])) | refine Qh rfl ?_ | refine Qd rfl (by kernel_rfl) ?_ | (refine Qc rfl rfl ?_ ?_ <;> (intro hb; have hc := hb; try simp only [go_sem] at hc)) | refine q6 rfl ?_ | (refine Qb ?_ ?_; focus kernel_rfl) | (refine y9 [0] [] (sT1) (by simp) ?_ ?_ (by simp) (.inl rfl) ?_ ?_ ?_; (iterate 2 (focus (simp only [go_sem, *]; done))); (iterate 2 (focus (first | (simp; done) | (simp [go_sem]; done)))); simp only [go_sem, *]) | (refine y9 [0] [] (sT2) (by simp) ?_ ?_ (by simp) (.inl rfl) ?_ ?_ ?_; (iterate 2 (focus (simp only [go_sem, *]; done))); (iterate 2 (focus (first | (simp; done) | (simp [go_sem]; done)))); simp only [go_sem, *]) | (refine y9 [0] [] (sO) (by simp) ?_ ?_ (by simp) (.inl rfl) ?_ ?_ ?_; (iterate 2 (focus (simp only [go_sem, *]; done))); (iterate 2 (focus (first | (simp; done) | (simp [go_sem]; done)))); simp only [go_sem, *]) | ((with_reducible apply And.intro); focus omega) | (refine z8 hK ?_; clear hK; simp only [go_sem, *]) | simp only [z6, z7, go_sem, *])
     all_goals try contradiction
     exact Z2 (i' := j + 1) [some 0, some 1, some 2, some 3, some 7] [] (d9) (fs ++ [⟨H.getD a default, H.getD c default⟩]) (by rw [hb2]; exact hny)
  ·have hj3 : m - j = 0 := by omega
   rw [hj3] at hQ ⊢
   obtain ⟨hQ1, _, hcl⟩ := hQ
   rw [f5] at hQ1
   injection hQ1 with hQ1 hQ2
   subst hQ1 hQ2
   repeat' (first | (refine Qr rfl ?_; try intro _ hK; try simp only [go_sem, *]) | (refine Qi rfl rfl rfl rfl ?_ ?_ <;> (intro hb; (try intro _ hK); have hc := hb; try simp only [go_sem] at hc; simp only [go_sem, *])) | refine Qh rfl ?_ | refine Qd rfl (by kernel_rfl) ?_ | (refine Qc rfl rfl ?_ ?_ <;> (intro hb; have hc := hb; try simp only [go_sem] at hc)) | refine q6 rfl ?_ | (refine Qb ?_ ?_; focus kernel_rfl) | ((with_reducible apply And.intro); focus omega) | (refine z8 hK ?_; clear hK; simp only [go_sem, *]) | simp only [z6, z7, go_sem, *])
   all_goals try contradiction
   refine ⟨[.agg [.list (p.map y7), .own 3 1 0 acc.length, .own 4 6 0 fs.length]], [some 0], [3, 4], ⟨by simp only [u1, go_sem], trivial⟩, ?_⟩
   simp only [go_sem, *]
end Go.Abs

