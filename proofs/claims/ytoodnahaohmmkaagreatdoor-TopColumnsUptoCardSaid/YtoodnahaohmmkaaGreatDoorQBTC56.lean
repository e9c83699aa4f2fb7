/-
  WHAT THE PROOF STANDS ON, PART 6: contracts of the program's functions and the logic that they are proved in. No condition.
-/
import Derived.KernelRfl
import Derived.Test.YtoodnahaohmmkaaGreatDoorQBTC55
set_option maxRecDepth 100000
set_option maxHeartbeats 4000000
set_option linter.unnecessarySimpa false
set_option linter.unusedVariables false
set_option linter.unusedSimpArgs false
set_option linter.unusedSectionVars false
namespace Go.Abs
open Go Go.Proofs Tryz
theorem zGO : ∀ {l : List Str}, (∀ s, s ∈ l → ValidN s) → o7 l = 0
 | [], _ => rfl
 | x :: r, h => by
  rw [o7, if_pos (checkN_zero.2 (h x (by simp))), zGO (l := r) (fun s hs => h s (by simp [hs]))]
theorem zDA {l : List Str} (hv : ∀ s, s ∈ l → ValidN s) (h6 : l.length ≤ 6) : a9 l = 0 := by
 unfold a9
 rw [if_neg (by omega), zGO hv]
theorem zL5 {l : List Str} (hv : ∀ s, s ∈ l → ValidN s) (h6 : l.length ≤ 6) {k : Nat} (hk : k < l.length) : S1 l k = 0 := by
 unfold S1
 rw [if_pos (zDA hv h6), if_neg (by omega)]
inductive FitI (L : List Str) (own : Str) (w : Int) : Int → Str → Prop
 | key : (own.length : Int) ≤ w → FitI L own w 0 own
 | cut (c : Str) : (c.length : Int) + 1 ≤ w → T6 own c → W8 c L own = false → FitI L own w 0 (c ++ [46])
 | none : FitI L own w 11 []
theorem zKb {L : List Str} (hv : ∀ s, s ∈ L → ValidN s) (h6 : L.length ≤ 6) {k : Nat} (hk : k < L.length) {w : Int} (hw : 1 ≤ w) : FitI L (zUN (L.getD k default)) w (X2 L k w) (zUk L k w) := by
 have hi := zL5 hv h6 hk
 have e : Z9 L (k : Int) = zUN (L.getD k default) := rfl
 unfold X2 zUk
 rw [if_pos hi, if_pos hi, if_neg (show ¬ w < 1 by omega), if_neg (show ¬ w < 1 by omega), e]
 by_cases q : ((zUN (L.getD k default)).length : Int) ≤ w
 ·rw [if_pos q, if_pos q]; exact .key q
 ·rw [if_neg q, if_neg q]
  cases hc : zUw L (zUN (L.getD k default)) (w - 1) false with
  | none => exact .none
  | some c =>
   obtain ⟨h1, h2, h3⟩ := (cutN_some.1 hc).1
   exact .cut c (by omega) h1 h3
theorem zHc {own t : Str} (h : T6 own t) : j4 t own = true := by
 obtain ⟨u, hu, rfl, hl⟩ := h
 unfold j4
 rw [Bool.and_eq_true, Bool.and_eq_true, decide_eq_true_eq, beq_iff_eq, zBz]
 refine ⟨hl, ?_, ?_⟩
 ·cases own with
  | nil => simp at hl
  | cons a r => rfl
 ·have := List.Sublist.append (List.Sublist.refl (own.take 1)) hu
  rwa [List.take_append_drop] at this
theorem zJ3 {own t : Str} (h : T6 own t) (ho : own.all x5 = true) : t.all x5 = true := by
 have hs : t.Sublist own := by
  have := zHc h
  unfold j4 at this
  rw [Bool.and_eq_true, Bool.and_eq_true, zBz] at this
  exact this.2.2
 rw [List.all_eq_true] at ho ⊢
 exact fun x hx => ho x (hs.subset hx)
theorem zC5 {c : UInt8} (h : x5 c = true) : c ≠ 32 ∧ c ≠ 46 := by
 unfold x5 at h
 rw [Bool.and_eq_true, decide_eq_true_eq, decide_eq_true_eq] at h
 constructor
 ·rintro rfl; exact absurd h.1 (by decide)
 ·rintro rfl; exact absurd h.1 (by decide)
theorem zF4 (c : Str) : f8 (c ++ [46]) = c := by unfold f8; simp
theorem zOH {c : Str} (h : x6 c 1 12 = true) : Y8 (c ++ [46]) = true := by
 unfold Y8
 rw [zF4, h, Bool.and_true]
 unfold zUu
 simp
structure ShownI (L : List Str) (i : Nat) (w : Int) (own s : Str) : Prop where
 ne : s ≠ own
 len : (s.length : Int) ≤ w
 sp : ∀ c, c ∈ s → c ≠ 32
 err : zA5 s L = 0
 le : (zU2 s L).length ≤ L.length
 who : (i : Int) ∈ zU2 s L
 all : ∀ z, z ∈ zU2 s L → ∃ k : Nat, z = k ∧ k < L.length ∧ zUN (L.getD k default) = own
theorem zOJ {L : List Str} (hv : ∀ s, s ∈ L → ValidN s) (h6 : L.length ≤ 6) {k : Nat} (hk : k < L.length) {w : Int} {c : Str} (h1 : (c.length : Int) + 1 ≤ w) (h2 : T6 (zUN (L.getD k default)) c) (h3 : W8 c L (zUN (L.getD k default)) = false) :
  ShownI L k w (zUN (L.getD k default)) (c ++ [46]) := by
 have hl := A4 (hv _ (u5 hk))
 unfold x6 at hl
 rw [Bool.and_eq_true, Bool.and_eq_true, decide_eq_true_eq, decide_eq_true_eq] at hl
 have hp := zFp h2
 have hlt : c.length < (zUN (L.getD k default)).length := by
  obtain ⟨_, _, _, h⟩ := h2; exact h
 have ha := zJ3 h2 hl.2.2
 have hB : x6 c 1 12 = true := by
  unfold x6
  rw [decide_eq_true hp, decide_eq_true (show c.length ≤ 12 by omega), ha]; rfl
 have hS := zHc h2
 have hmem : ∀ z, z ∈ zU2 (c ++ [46]) L ↔ ∃ i : Nat, z = i ∧ i < L.length ∧ j4 c (zUN (L.getD i default)) = true := fun z => by
  unfold zU2
  rw [zF4]; exact zMs
 have hmis : ∀ s, s ∈ L → j4 c (zUN s) = true → zUN s = zUN (L.getD k default) := fun s hs hst => by
  unfold W8 at h3
  rw [List.any_eq_false] at h3
  have := h3 s hs
  rw [hst, Bool.and_true, Bool.not_eq_true', decide_eq_false_iff_not, Classical.not_not] at this
  exact this
 refine ⟨?_, by simp; omega, fun x hx => ?_, ?_, ?_, (hmem _).2 ⟨k, rfl, hk, hS⟩, fun z hz => ?_⟩
 ·intro e
  have h46 : (46 : UInt8) ∈ zUN (L.getD k default) := by rw [← e]; simp
  exact (zC5 (List.all_eq_true.1 hl.2.2 _ h46)).2 rfl
 ·rcases List.mem_append.1 hx with hx | hx
  ·exact (zC5 (List.all_eq_true.1 ha _ hx)).1
  ·rw [List.mem_singleton.1 hx]; decide
 ·unfold zA5
  rw [if_pos (zOH hB)]; exact zDA hv h6
 ·have := zQO (k := f8 (c ++ [46])) (l := L) L.length 0 (by omega)
  exact this
 ·obtain ⟨i, rfl, hi, hs⟩ := (hmem z).1 hz
  exact ⟨i, rfl, hi, hmis _ (u5 hi) hs⟩
inductive ColI (L : List Str) (i : Nat) (w : Int) (own : Str) : Int → Str → Prop
 | key : (own.length : Int) ≤ w → (∀ c, c ∈ own → c ≠ 32) → ColI L i w own 0 own
 | cut (s : Str) : ShownI L i w own s → ColI L i w own 0 s
 | none : ColI L i w own 11 []
theorem zJs {L : List Str} (hv : ∀ s, s ∈ L → ValidN s) (h6 : L.length ≤ 6) {k : Nat} (hk : k < L.length) {w : Int} (hw : 1 ≤ w) : ColI L k w (zUN (L.getD k default)) (X2 L k w) (zUk L k w) := by
 have h := zKb hv h6 hk hw
 have hl := A4 (hv _ (u5 hk))
 unfold x6 at hl
 rw [Bool.and_eq_true, Bool.and_eq_true] at hl
 generalize X2 L k w = e at *
 generalize zUk L k w = s at *
 cases h with
 | key h => exact .key h fun c hc => (zC5 (List.all_eq_true.1 hl.2.2 _ hc)).1
 | cut c h1 h2 h3 => exact .cut _ (zOJ hv h6 hk h1 h2 h3)
 | none => exact .none
theorem zGm (s t : Str) (hs : ∀ c, c ∈ s → c ≠ 32) : (∀ n, n < s.length → (s ++ [32] ++ t).getD n 0 ≠ 32) ∧ (s ++ [32] ++ t).getD s.length 0 = 32 ∧ (s ++ [32] ++ t).take s.length = s := by
  refine ⟨fun n hn => ?_, ?_, ?_⟩
  · have : (s ++ [32] ++ t).getD n 0 = s[n] := by
      simp [List.getD, List.getElem?_append_left, hn]
    rw [this]
    exact hs _ (List.getElem_mem hn)
  · simp [List.getD]
  · simp
end Go.Abs

namespace Go.Abs
open Go Go.Proofs Tryz
variable [Cur]
omit [Cur] in
theorem zNi (v : Vol) (i : Nat) : ∃ t rest, zAL v i = (zUk (v.people.map Per.name) i v.width ++ [32] ++ t) :: rest ∧ t.length ≤ 5 ∧ rest.length ≤ 1 := by
 unfold zAL zVS
 refine ⟨zU6 (v.people.getD i default).street ++ [32] ++ zU6 (v.people.getD i default).number, if (v.people.getD i default).bold = true then [[42]] else [], by simp only [List.append_assoc], ?_, ?_⟩
 ·have h1 := zBi (v.people.getD i default).street
  have h2 := zBi (v.people.getD i default).number
  simp only [List.length_append, List.length_singleton]; omega
 ·split <;> simp
theorem zD6 {v : Vol} (ok : VolOK v) : (∀ s, s ∈ v.people.map Per.name → ValidN s) ∧ (v.people.map Per.name).length ≤ 6 := by
 refine ⟨fun s hs => ?_, by simpa using ok.pl⟩
 obtain ⟨p, hp, rfl⟩ := List.mem_map.1 hs
 exact (zDS ok hp).nm
theorem zH6 {v : Vol} (ok : VolOK v) {i : Nat} (hi : i < v.people.length) : ColI (v.people.map Per.name) i v.width (zUN ((v.people.map Per.name).getD i default)) (X2 (v.people.map Per.name) i v.width) (zUk (v.people.map Per.name) i v.width) :=
 zJs (zD6 ok).1 (zD6 ok).2 (by simpa using hi) ok.wd.1
theorem zFE {v : Vol} (ok : VolOK v) {i : Nat} (hi : i < v.people.length) : (zUk (v.people.map Per.name) i v.width).length ≤ 13 := by
 have h := zH6 ok hi
 have hw := ok.wd
 generalize X2 (v.people.map Per.name) i v.width = e at *
 generalize zUk (v.people.map Per.name) i v.width = s at *
 cases h with
 | key h _ => omega
 | cut _ h => have := h.len; omega
 | none => simp
theorem zHE (v : Vol) (i : Nat) (ok : VolOK v) (hi : i < v.people.length) (q : X2 (v.people.map Per.name) i v.width = 0) : zUL prog 11 [v.enc, iV 1, iV i] [] (.tup [y4 (zAL v i), iV 0]) [] := by
 have hs := zDS ok (u5 hi)
 have se := zPY v i hi ok.pl hs.st hs.nu (by have := zFE ok hi; omega) q
 exact zHD v i ok hi _ _ (zPG v i _ (zOk v i _ se)) (.inr ⟨_, rfl⟩)
theorem zOm (v : Vol) (i : Nat) (ok : VolOK v) (hi : i < v.people.length) (q : X2 (v.people.map Per.name) i v.width = 11) : zUL prog 11 [v.enc, iV 1, iV i] [] (.tup [S9, iV 11]) [] :=
 zHD v i ok hi _ _ (zPJ v i (zOl v i (zPZ v i hi ok.pl q))) (.inl rfl)
end Go.Abs

namespace Go.Abs
open Go Go.Proofs Tryz
attribute [local irreducible] q9 Hold y2
variable [Cur]
def zDf : Per := ⟨[115, 109, 105, 116, 104], 0, 3, -1, false⟩
def zVo : Per := ⟨[65, 78, 78], 0, 2, -1, false⟩
def zCF : Per := ⟨[97, 110, 110, 97], 0, 1, -1, false⟩
def bookV : Vol := ⟨1, 3, 4, ⟨[], []⟩, [], [zDf, zVo, zCF]⟩
theorem zJJ : N3 bookV zDf = 0 := by kernel_rfl
theorem zJK : N3 bookV zVo = 0 := by kernel_rfl
theorem zJL : N3 bookV zCF = 0 := by kernel_rfl
theorem zEX : VolOK bookV where
 st := by decide
 wd := by decide
 rw := by decide
 tr := by decide
 also := fun h hh => by cases hh
 rl := by decide
 rs := fun h hh => by cases hh
 ve := by kernel_rfl
 pl := by decide
 pe := fun p hp => by
  have hp : p ∈ [zDf, zVo, zCF] := hp
  simp only [List.mem_cons, List.not_mem_nil, or_false] at hp
  rcases hp with rfl | rfl | rfl
  ·exact zJJ
  ·exact zJK
  ·exact zJL
theorem zJN : T4 o9 zUa bookV.people = [1, 2, 0] := by kernel_rfl
theorem zJI : X2 (bookV.people.map Per.name) ((0 : Nat) : Int) bookV.width = 0 := by kernel_rfl
theorem zJM : zAL bookV 0 = [[115, 104, 46, 32, 48, 32, 51]] := by kernel_rfl
theorem zJG : W5 [99, 104, 97, 100] [67, 65, 68] = 0 := by kernel_rfl
theorem zJH : l4 [99, 104, 97, 100] [67, 65, 68] = -1 := by kernel_rfl
theorem zEW : bookV.enc = .agg [iV 1, iV 3, iV 4, .list [], .list [], .list [], .list [.agg [sV [115, 109, 105, 116, 104], iV 0, iV 3, iV (-1), bV false], .agg [sV [65, 78, 78], iV 0, iV 2, iV (-1), bV false], .agg [sV [97, 110, 110, 97], iV 0, iV 1, iV (-1), bV false]]] := rfl
theorem zPF : zUL prog 47 [] [] (.agg [iV 1, iV 3, iV 4, .list [], .list [], .list [], .list [.agg [sV [115, 109, 105, 116, 104], iV 0, iV 3, iV (-1), bV false], .agg [sV [65, 78, 78], iV 0, iV 2, iV (-1), bV false], .agg [sV [97, 110, 110, 97], iV 0, iV 1, iV (-1), bV false]]]) [] := by
 refine z9 func47 rfl (fun E hE => ?_); simp only [go_sem, ntmps47]
 refine wk1 trivial ?_
 refine ⟨[.agg [iV 1, iV 3, iV 4, .raw (.slice none 0 0), .raw (.slice none 0 0), .raw (.slice none 0 0), .own 1 5 0 3]], [], [1], ⟨(by simp only [W0, go_sem]), trivial⟩, ?_⟩
 simp only [go_sem, *]
theorem zPU : zUL prog 14 [] [] (bV true) [] := by
 have sb := zPF
 have so := zHJ bookV zEX
 have se := zHE bookV 0 zEX (by decide) zJI
 have sc := zHI [99, 104, 97, 100] [67, 65, 68]
 have h0 : ((0 : Nat) : Int) = 0 := rfl
 have h3 : ([1, 2, 0] : List Nat).length = 3 := rfl
 have hm : ([1, 2, 0] : List Nat).map pnV = [iV 1, iV 2, iV 0] := rfl
 have hr : y4 [[115, 104, 46, 32, 48, 32, 51]] = .list [sV [115, 104, 46, 32, 48, 32, 51]] := rfl
 rw [zJN, zEW, h3, hm] at so
 rw [zJM, zEW, h0, hr] at se
 rw [zJG, if_pos rfl, zJH] at sc
 have sI : zUL prog 49 [.list [iV 1, iV 2, iV 0], .list [iV 1, iV 2, iV 0]] [] (bV true) [] := by
  have h := zOn [1, 2, 0] [1, 2, 0] (by simp)
  rw [show (decide (([1, 2, 0] : List Int) = [1, 2, 0])) = true from rfl] at h
  exact h
 have sS : zUL prog 50 [.list [sV [115, 104, 46, 32, 48, 32, 51]], .list [sV [115, 104, 46, 32, 48, 32, 51]]] [] (bV true) [] := by
  have h := zOo [[115, 104, 46, 32, 48, 32, 51]] [[115, 104, 46, 32, 48, 32, 51]] (by simp)
  rw [show (decide (([[115, 104, 46, 32, 48, 32, 51]] : List Str) = [[115, 104, 46, 32, 48, 32, 51]])) = true from by decide] at h
  exact h
 clear h0 h3 hm hr
 refine z9 func14 rfl (fun E hE => ?_); simp only [go_sem, ntmps14]
 repeat' (first | (refine Qr rfl ?_; try intro _ hK; try simp only [go_sem, *]) | (refine Qi rfl rfl rfl rfl ?_ ?_ <;> (intro hb; (try intro _ hK); have hc := hb; try simp only [go_sem] at hc; simp only [go_sem, *])) | refine Qh rfl ?_ | (refine Qc rfl rfl ?_ ?_ <;> (intro hb; have hc := hb; try simp only [go_sem] at hc)) | refine z8 rfl ?_ | ((first | refine y6 (sb) ?_ | refine y6 (se) ?_); simp only [go_sem, *]) | (refine i3 (so) ?_; simp only [go_sem, *]) | (refine u0 (sc) ?_ ?_; (focus (simp only [go_sem, *]; done)); simp only [go_sem, *]) | ((with_reducible apply And.intro); focus omega) | (refine z7 hK ?_; clear hK; simp only [go_sem, *]) | simp only [z6, z5, go_sem, *])
 all_goals try contradiction
 (refine U5 [0, 1] (sI) (by simp only [go_sem, *]) (.raw _) ?_; simp only [go_sem, *])
 repeat' (first | (refine Qr rfl ?_; try intro _ hK; try simp only [go_sem, *]) | (refine Qi rfl rfl rfl rfl ?_ ?_ <;> (intro hb; (try intro _ hK); have hc := hb; try simp only [go_sem] at hc; simp only [go_sem, *])) | refine Qh rfl ?_ | (refine Qc rfl rfl ?_ ?_ <;> (intro hb; have hc := hb; try simp only [go_sem] at hc)) | refine z8 rfl ?_ | ((with_reducible apply And.intro); focus omega) | (refine z7 hK ?_; clear hK; simp only [go_sem, *]) | simp only [z6, z5, go_sem, *])
 all_goals try contradiction
 (refine U5 [2] (sS) (by simp only [go_sem, *]) (.raw _) ?_; simp only [go_sem, *])
 repeat' (first | (refine Qr rfl ?_; try intro _ hK; try simp only [go_sem, *]) | (refine Qi rfl rfl rfl rfl ?_ ?_ <;> (intro hb; (try intro _ hK); have hc := hb; try simp only [go_sem] at hc; simp only [go_sem, *])) | refine Qh rfl ?_ | (refine Qc rfl rfl ?_ ?_ <;> (intro hb; have hc := hb; try simp only [go_sem] at hc)) | refine z8 rfl ?_ | ((with_reducible apply And.intro); focus omega) | (refine z7 hK ?_; clear hK; simp only [go_sem, *]) | simp only [z6, z5, go_sem, *])
 all_goals try contradiction
 (refine ⟨[_], [], [], ⟨rfl, trivial⟩, ?_⟩; simp only [go_sem, *])
end Go.Abs

namespace Go.Abs
open Go
end Go.Abs

namespace Go.Abs
open Go
def sortS : List Str := [[102, 111, 111, 100], [98, 114, 101, 97, 100], [99, 108, 111, 116, 104], [104, 97, 116, 115], [119, 111, 111, 100], [105, 114, 111, 110], [98, 101, 101, 114], [105, 110], [115, 101, 101]]
def callW : List Str := [[98, 97, 107, 101, 114], [98, 97, 107, 101, 114, 115], [98, 111, 110, 110, 101, 116, 115], [98, 114, 101, 119, 101, 114], [98, 114, 117, 115, 104, 101, 115], [98, 117, 116, 99, 104, 101, 114], [99, 97, 110, 100, 108, 101, 115], [99, 111, 111, 112, 101, 114], [99, 111, 111, 112, 101, 114, 115], [99, 117, 116, 108, 101, 114], [104, 97, 116, 116, 101, 114], [104, 111, 115, 105, 101, 114], [109, 101, 114, 99, 101, 114], [109, 105, 108, 108, 105, 110, 101, 114], [116, 97, 105, 108, 111, 114], [116, 97, 110, 110, 101, 114]]
theorem zOR {k : Nat} (h : k < 9) : o4 (sortS.getD k default) = true := by
 have : (List.range 9).all (fun k => o4 (sortS.getD k default)) = true := by decide
 exact List.all_eq_true.1 this k (List.mem_range.2 h)
theorem zOQ {j k : Nat} (hj : j < 9) (hk : k < 9) (e : sortS.getD j default = sortS.getD k default) : j = k := by
 have : (List.range 9).all (fun j => (List.range 9).all fun k => decide (sortS.getD j default = sortS.getD k default → j = k)) = true := by decide
 exact of_decide_eq_true (List.all_eq_true.1 (List.all_eq_true.1 this j (List.mem_range.2 hj)) k (List.mem_range.2 hk)) e
theorem zJY {k : Nat} (h : k < 16) : o4 (callW.getD k default) = true := by
 have : (List.range 16).all (fun k => o4 (callW.getD k default)) = true := by decide
 exact List.all_eq_true.1 this k (List.mem_range.2 h)
theorem zJX {j k : Nat} (hj : j < k) (hk : k < 16) : (callW.getD j default == callW.getD k default) = false := by
 have : (List.range 16).all (fun k => (List.range k).all fun j => !(callW.getD j default == callW.getD k default)) = true := by decide
 simpa using List.all_eq_true.1 (List.all_eq_true.1 this k (List.mem_range.2 hk)) j (List.mem_range.2 hj)
theorem zJW {j k : Nat} (hj : j < k) (hk : k < 16) : v7 (callW.getD k default) (callW.getD j default) = false := by
 have : (List.range 16).all (fun k => (List.range k).all fun j => !(v7 (callW.getD k default) (callW.getD j default))) = true := by decide
 simpa using List.all_eq_true.1 (List.all_eq_true.1 this k (List.mem_range.2 hk)) j (List.mem_range.2 hj)
theorem F0 {n lo hi : Int} (h1 : lo ≤ n) (h2 : n ≤ hi) : btw n lo hi = true := by unfold btw; simp [h1, h2]
theorem zBT {f : Nat → Int} : ∀ {n k : Nat}, (∀ j, k ≤ j → j < k + n → f j = 0) → u4 f n k = 0
 | 0, _, _ => rfl
 | n + 1, k, h => by
  rw [u4, if_pos (h k (Nat.le_refl _) (by omega))]
  exact zBT fun j h1 h2 => h j (by omega) (by omega)
structure ClK (ns : List Nat) (k : Nat) (c : Cl) : Prop where
 nm : c.name = sortS.getD (ns.getD k 0) default
 un : -1 ≤ c.under ∧ c.under < k
structure HdK (ws : List Nat) (c n k : Nat) (h : Hd) : Prop where
 wd : h.word = callW.getD (ws.getD k 0) default
 cls : -1 ≤ h.cls ∧ h.cls < c
 see : -1 ≤ h.see ∧ h.see < n ∧ h.see ≠ k
 als : ∀ j, j < h.also.length → 0 ≤ h.also.getD j 0 ∧ h.also.getD j 0 < n ∧ h.also.getD j 0 ≠ k ∧ (0 < j → h.also.getD (j - 1) 0 < h.also.getD j 0)
 len : h.also.length ≤ n
 kd : W7 h = 0
theorem zLG {ns : List Nat} (h : ns.Nodup) {j k : Nat} (hj : j < ns.length) (hk : k < ns.length) (e : ns.getD j 0 = ns.getD k 0) : j = k := by
 simp only [List.getD, List.getElem?_eq_getElem hj, List.getElem?_eq_getElem hk, Option.getD_some] at e
 rcases Nat.lt_trichotomy j k with hlt | heq | hgt
 ·exact absurd e (List.pairwise_iff_getElem.1 h j k hj hk hlt)
 ·exact heq
 ·exact absurd e.symm (List.pairwise_iff_getElem.1 h k j hk hj hgt)
theorem zCm {ws : List Nat} (h : ws.Pairwise (· < ·)) {j k : Nat} (hj : j < k) (hk : k < ws.length) : ws.getD j 0 < ws.getD k 0 := by
 have hj' : j < ws.length := by omega
 simp only [List.getD, List.getElem?_eq_getElem hj', List.getElem?_eq_getElem hk, Option.getD_some]
 exact List.pairwise_iff_getElem.1 h j k hj' hk hj
theorem J9 {ws : List Nat} {m : Nat} (h : ∀ x, x ∈ ws → x < m) {k : Nat} (hk : k < ws.length) : ws.getD k 0 < m := by
 simp only [List.getD, List.getElem?_eq_getElem hk, Option.getD_some]
 exact h _ (List.getElem_mem hk)
theorem zHn {α : Type} [Inhabited α] {l : List α} {i : Nat} {p : α → Bool} (h : ∀ j, j < i → j < l.length → p (l.getD j default) = false) : (l.take i).any p = false := by
 rw [List.any_eq_false]
 intro x hx
 obtain ⟨j, hj, rfl⟩ := List.getElem_of_mem hx
 simp only [List.length_take] at hj
 have := h j (by omega) (by omega)
 simp only [List.getD, List.getElem?_eq_getElem (show j < l.length by omega), Option.getD_some] at this
 simp [this]
theorem zMk {l : List Cl} {ns : List Nat} (hn : ns.Nodup) (h9 : ∀ x, x ∈ ns → x < 9) (hl : l.length ≤ ns.length) (h : ∀ k, k < l.length → ClK ns k (l.getD k default)) : u4 (X0 l) l.length 0 = 0 := by
 refine zBT fun i _ hi => ?_
 have hi : i < l.length := by omega
 have c := h i hi
 have w : o4 (l.getD i default).name = true := by rw [c.nm]; exact zOR (J9 h9 (by omega))
 unfold X0
 rw [if_neg (by rw [w]; decide), if_neg, if_neg, if_neg]
 ·have := c.un; omega
 ·have := c.un
  rw [F0 (by omega) (by omega)]; decide
 ·rw [zHn (fun j hj hjl => ?_)]; · decide
  have cj := h j hjl
  unfold zUm
  rw [cj.nm, c.nm, beq_eq_false_iff_ne]
  intro e
  have := zOQ (J9 h9 (show j < ns.length by omega)) (J9 h9 (show i < ns.length by omega)) e
  have := zLG hn (by omega) (by omega) this
  omega
theorem zMl {t : Trd} {ws : List Nat} (hw : ws.Pairwise (· < ·)) (h16 : ∀ x, x ∈ ws → x < 16) (hl : t.hds.length = ws.length) (h : ∀ k, k < t.hds.length → HdK ws t.cls.length t.hds.length k (t.hds.getD k default)) : u4 (O7 t) t.hds.length 0 = 0 := by
 refine zBT fun i _ hi => ?_
 have hi : i < t.hds.length := by omega
 have c := h i hi
 have w : o4 (t.hds.getD i default).word = true := by rw [c.wd]; exact zJY (J9 h16 (by omega))
 have ha : u4 (U3 t.hds.length i (t.hds.getD i default).also) (t.hds.getD i default).also.length 0 = 0 := by
  refine zBT fun j _ hj => ?_
  have a := c.als j (by omega)
  unfold U3
  rw [if_neg, if_neg a.2.2.1, if_neg]
  ·rintro ⟨h0, h1⟩
   have := a.2.2.2 h0; omega
  ·rw [F0 (by omega) (by omega)]; decide
 unfold O7
 simp only
 rw [if_neg (by rw [w]; decide), if_neg, if_neg, if_neg, if_neg c.see.2.2, if_neg (by rw [ha]; simp), c.kd]
 ·have := c.cls; have := c.see
  rw [F0 (by omega) (by omega), F0 (by omega) (by omega)]; decide
 ·rintro ⟨h0, h1⟩
  have d := h (i - 1) (by omega)
  rw [c.wd, d.wd, zJW (zCm hw (by omega) (by omega)) (J9 h16 (by omega))] at h1
  cases h1
 ·rw [zHn (fun j hj hjl => ?_)]; · decide
  have d := h j hjl
  unfold zUq
  rw [d.wd, c.wd]
  exact zJX (zCm hw hj (by omega)) (J9 h16 (by omega))
theorem zMm {t : Trd} {ns ws : List Nat} (h1 : t.cls.length ≤ 6) (h2 : t.hds.length ≤ 6) (hn : ns.Nodup) (h9 : ∀ x, x ∈ ns → x < 9) (hl : t.cls.length ≤ ns.length) (hc : ∀ k, k < t.cls.length → ClK ns k (t.cls.getD k default))
  (hw : ws.Pairwise (· < ·)) (h16 : ∀ x, x ∈ ws → x < 16) (hwl : t.hds.length = ws.length) (hh : ∀ k, k < t.hds.length → HdK ws t.cls.length t.hds.length k (t.hds.getD k default)) : P8 t = 0 := by
 unfold P8
 rw [if_neg (by omega), if_neg (by rw [zMk hn h9 hl hc]; simp), zMl hw h16 hwl hh]
end Go.Abs

namespace Go.Abs
open Go Go.Proofs Tryz
attribute [local irreducible] q9 Hold y2
variable [Cur]
theorem zHS : zUL prog 62 [] [] (.own 0 1 0 9) [.row 1 (sortS.map sV)] := by
 unfold sortS
 simp only [List.map]
 refine z9 func62 rfl (fun E hE => ?_); simp only [go_sem, ntmps62]
 refine wk1 trivial ?_
 refine ⟨[_], [some 0], [], ⟨rfl, trivial⟩, ?_⟩
 simp only [go_sem, *]
theorem zBv : zUL prog 64 [] [] (.own 0 1 0 16) [.row 1 (callW.map sV)] := by
 unfold callW
 simp only [List.map]
 refine z9 func64 rfl (fun E hE => ?_); simp only [go_sem, ntmps64]
 refine wk1 trivial ?_
 refine ⟨[_], [some 0], [], ⟨rfl, trivial⟩, ?_⟩
 simp only [go_sem, *]
omit [Cur] in
theorem zOP {k : Nat} (h : k < 9) : (sortS.map sV).getD k AV.any = sV (sortS.getD k default) := by
 have hl : k < sortS.length := h
 simp [List.getD, hl]
omit [Cur] in
theorem zJV {k : Nat} (h : k < 16) : (callW.map sV).getD k AV.any = sV (callW.getD k default) := by
 have hl : k < callW.length := h
 simp [List.getD, hl]
end Go.Abs

namespace Go.Abs
open Go Go.Proofs Tryz
variable [Cur]
def ClR (ns : List Nat) (i : Nat) (s s' : List Cl × Dice) : Prop :=
 ∃ u : Int, zUL prog 20 [.ptr 0 0, iV (-1), iV ((i : Int) - 1)] [y3 s.2] (iV u) [y3 s'.2] ∧ s'.1 = s.1 ++ [⟨sortS.getD (ns.getD i 0) default, u⟩]
theorem zFN {α : Type} [Inhabited α] {l : List α} {x : α} {k : Nat} : (l ++ [x]).getD k default = if k < l.length then l.getD k default else if k = l.length then x else default := by
 by_cases h : k < l.length
 ·rw [if_pos h]; simp [List.getD, List.getElem?_append_left h]
 ·rw [if_neg h]
  by_cases h2 : k = l.length
  ·rw [if_pos h2, h2]; simp [List.getD]
  ·rw [if_neg h2]; simp [List.getD, List.getElem?_eq_none (show (l ++ [x]).length ≤ k by simp; omega)]
theorem zJi (ns : List Nat) (d : Dice) (hd : DOk d) (n : Nat) (hn : n ≤ 1000) : ∃ q : Nat → List Cl × Dice, q 0 = ([], d) ∧ (∀ i, i < n → ClR ns i (q i) (q (i + 1))) ∧ ∀ i, i ≤ n → (q i).1.length = i ∧ (∀ k, k < i → ClK ns k ((q i).1.getD k default)) ∧ DOk (q i).2 :=
 zA0 (S := List Cl × Dice) n ([], d) (ClR ns) (fun i s => s.1.length = i ∧ (∀ k, k < i → ClK ns k (s.1.getD k default)) ∧ DOk s.2) ⟨rfl, fun k hk => by omega, hd⟩ (fun i s hi ⟨h1, h2, h3⟩ => by
  obtain ⟨u, d1, sf, hu, hd1⟩ := O5 s.2 (-1) ((i : Int) - 1) h3 (by omega) (by omega)
  refine ⟨(s.1 ++ [⟨sortS.getD (ns.getD i 0) default, u⟩], d1), ⟨u, sf, rfl⟩, by simp [h1], fun k hk => ?_, hd1⟩
  show ClK ns k ((s.1 ++ [_]).getD k default)
  rw [zFN, h1]
  by_cases e : k < i
  ·rw [if_pos e]; exact h2 k e
  ·rw [if_neg e, if_pos (show k = i by omega), show k = i by omega]
   exact ⟨rfl, by show -1 ≤ u ∧ u < (i : Int); omega⟩)
def zB5 (i k : Nat) (s s' : List Nat × Dice) : Prop := (k = i ∧ s' = s) ∨ (k ≠ i ∧ ∃ (b : Bool) (d' : Dice), zUL prog 26 [.ptr 0 0, iV 4] [y3 s.2] (bV b) [y3 d'] ∧ s' = (if b = true then s.1 ++ [k] else s.1, d'))
structure AlK (i k : Nat) (l : List Nat) : Prop where
 up : l.Pairwise (· < ·)
 lt : ∀ x, x ∈ l → x < k ∧ x ≠ i
 len : l.length ≤ k
theorem zIW (i n : Nat) (d : Dice) (hd : DOk d) : ∃ q : Nat → List Nat × Dice, q 0 = ([], d) ∧ (∀ k, k < n → zB5 i k (q k) (q (k + 1))) ∧ ∀ k, k ≤ n → AlK i k (q k).1 ∧ DOk (q k).2 :=
 zA0 (S := List Nat × Dice) n ([], d) (zB5 i) (fun k s => AlK i k s.1 ∧ DOk s.2) ⟨⟨.nil, fun x hx => (by cases hx), Nat.zero_le _⟩, hd⟩ (fun k s hk ⟨h1, h2⟩ => by
  by_cases e : k = i
  ·exact ⟨s, .inl ⟨e, rfl⟩, ⟨h1.up, fun x hx => ⟨by have := (h1.lt x hx).1; omega, (h1.lt x hx).2⟩, by have := h1.len; omega⟩, h2⟩
  ·obtain ⟨b, d', so, hd'⟩ := E0 s.2 4 h2 (by omega)
   refine ⟨(if b = true then s.1 ++ [k] else s.1, d'), .inr ⟨e, b, d', so, rfl⟩, ?_, hd'⟩
   cases b
   ·exact ⟨h1.up, fun x hx => ⟨by have := (h1.lt x hx).1; omega, (h1.lt x hx).2⟩, by have := h1.len; simp; omega⟩
   ·refine ⟨?_, fun x hx => ?_, by have := h1.len; simp; omega⟩
    ·show (s.1 ++ [k]).Pairwise (· < ·)
     rw [List.pairwise_append]
     exact ⟨h1.up, by simp, fun a ha b hb => by rw [List.mem_singleton.1 hb]; exact (h1.lt a ha).1⟩
    ·have hx : x ∈ s.1 ++ [k] := hx
     rcases List.mem_append.1 hx with hx | hx
     ·exact ⟨by have := (h1.lt x hx).1; omega, (h1.lt x hx).2⟩
     ·rw [List.mem_singleton.1 hx]; exact ⟨by omega, e⟩)
abbrev R9 (l : List Nat) : List Int := l.map fun k : Nat => (k : Int)
theorem zFn {l : List Nat} {j : Nat} (h : j < l.length) : (R9 l).getD j 0 = (l.getD j 0 : Nat) := by
 simp [R9, List.getD, h]
def zCB (w : Str) (n i k0 : Nat) (d : Dice) (s s' : List Hd × Dice) : Prop :=
 ∃ q : Nat → List Nat × Dice, q 0 = ([], d) ∧ (∀ k, k < n → zB5 i k (q k) (q (k + 1))) ∧ (∀ k, k ≤ n → (q k).1.length ≤ k) ∧
  (((q n).1.length = 0 ∧ s' = (s.1 ++ [⟨w, k0, -1, []⟩], (q n).2)) ∨
   (0 < (q n).1.length ∧ ∃ (b : Bool) (d' : Dice), zUL prog 26 [.ptr 0 0, iV 4] [y3 (q n).2] (bV b) [y3 d'] ∧ s' = (s.1 ++ [⟨w, if b = true then -1 else (k0 : Int), -1, R9 (q n).1⟩], d')))
def zBE (ws : List Nat) (c n i : Nat) (s s' : List Hd × Dice) : Prop :=
  ∃ (k0 : Nat) (d1 : Dice), zUL prog 27 [.ptr 0 0, iV ((c : Int) - 1)] [y3 s.2] (iV k0) [y3 d1] ∧
    ((n ≤ 1 ∧ zCB (callW.getD (ws.getD i 0) default) n i k0 d1 s s') ∨ (1 < n ∧ ∃ (b : Bool) (d2 : Dice), zUL prog 26 [.ptr 0 0, iV 3] [y3 d1] (bV b) [y3 d2] ∧
      ((b = true ∧ ∃ (r : Nat) (d3 : Dice), r + 2 ≤ n ∧ zUL prog 27 [.ptr 0 0, iV ((n : Int) - 2)] [y3 d2] (iV r) [y3 d3] ∧ s' = (s.1 ++ [⟨callW.getD (ws.getD i 0) default, -1, (((i + 1 + r) % n : Nat) : Int), []⟩], d3)) ∨
       (b = false ∧ zCB (callW.getD (ws.getD i 0) default) n i k0 d2 s s'))))
theorem zMQ {w : Str} {see : Int} (h : see ≠ -1) : W7 ⟨w, -1, see, []⟩ = 0 := by
 unfold W7
 refine if_neg ?_
 rintro (⟨_, h2 | h2⟩ | ⟨h1, _, _⟩)
 ·exact h2 rfl
 ·exact absurd h2 (by simp)
 ·exact h h1
theorem zFv {w : Str} {cls : Int} {also : List Int} (h : cls ≠ -1) : W7 ⟨w, cls, -1, also⟩ = 0 := by
 unfold W7
 refine if_neg ?_
 rintro (⟨h1, _⟩ | ⟨_, h2, _⟩)
 ·exact h1 rfl
 ·exact h h2
theorem zMP {w : Str} {also : List Int} (h : 0 < also.length) : W7 ⟨w, -1, -1, also⟩ = 0 := by
 unfold W7
 refine if_neg ?_
 rintro (⟨h1, _⟩ | ⟨_, _, h3⟩)
 ·exact h1 rfl
 ·have h3 : also.length = 0 := h3
  omega
theorem zHm (ws : List Nat) (c n i k0 : Nat) (hk : k0 < c) (d : Dice) (hd : DOk d) (s : List Hd × Dice) : ∃ s', zCB (callW.getD (ws.getD i 0) default) n i k0 d s s' ∧ DOk s'.2 ∧ ∃ h, s'.1 = s.1 ++ [h] ∧ HdK ws c n i h := by
 obtain ⟨q, q0, qR, qG⟩ := zIW i n d hd
 obtain ⟨ha, hd2⟩ := qG n (Nat.le_refl _)
 by_cases hz : (q n).1.length = 0
 ·refine ⟨(s.1 ++ [⟨callW.getD (ws.getD i 0) default, k0, -1, []⟩], (q n).2), ⟨q, q0, qR, fun k hk => (qG k hk).1.len, .inl ⟨hz, rfl⟩⟩, hd2, _, rfl, rfl, ⟨by show -1 ≤ (k0 : Int); omega, by show (k0 : Int) < c; omega⟩, ⟨by show (-1 : Int) ≤ -1; omega, by show (-1 : Int) < n; omega, by show (-1 : Int) ≠ i; omega⟩, fun j hj => (by cases hj), by simp, ?_⟩
  exact zFv (by omega)
 ·obtain ⟨b, d', so, hd'⟩ := E0 (q n).2 4 hd2 (by omega)
  refine ⟨(s.1 ++ [⟨callW.getD (ws.getD i 0) default, if b = true then -1 else (k0 : Int), -1, R9 (q n).1⟩], d'), ⟨q, q0, qR, fun k hk => (qG k hk).1.len, .inr ⟨by omega, b, d', so, rfl⟩⟩, hd', _, rfl, rfl, ⟨by cases b <;> simp <;> (try omega), by cases b <;> simp <;> (try omega)⟩, ⟨by show (-1 : Int) ≤ -1; omega, by show (-1 : Int) < n; omega, by show (-1 : Int) ≠ i; omega⟩, fun j hj => ?_, by have := ha.len; simpa using this, ?_⟩
  ·have hj : j < (q n).1.length := by simpa using hj
   have hm := ha.lt _ (show (q n).1.getD j 0 ∈ (q n).1 by simp [List.getD, hj])
   show 0 ≤ (R9 (q n).1).getD j 0 ∧ (R9 (q n).1).getD j 0 < n ∧ (R9 (q n).1).getD j 0 ≠ i ∧ (0 < j → (R9 (q n).1).getD (j - 1) 0 < (R9 (q n).1).getD j 0)
   rw [zFn hj]
   refine ⟨by omega, by omega, by omega, fun h0 => ?_⟩
   rw [zFn (l := (q n).1) (j := j - 1) (by omega)]
   have := zCm ha.up (show j - 1 < j by omega) hj
   omega
  ·cases b
   ·exact zFv (by show (k0 : Int) ≠ -1; omega)
   ·exact zMP (by simp; omega)
theorem zOD {n i r : Nat} (hi : i < n) (hr : r + 2 ≤ n) : (i + 1 + r) % n < n ∧ (i + 1 + r) % n ≠ i := by
 refine ⟨Nat.mod_lt _ (by omega), ?_⟩
 by_cases h : i + 1 + r < n
 ·rw [Nat.mod_eq_of_lt h]; omega
 ·rw [Nat.mod_eq_sub_mod (by omega), Nat.mod_eq_of_lt (by omega)]; omega
theorem zLf (ws : List Nat) (c n : Nat) (hc : 1 ≤ c ∧ c ≤ 1000) (hn : n ≤ 1000) (d : Dice) (hd : DOk d) : ∃ q : Nat → List Hd × Dice, q 0 = ([], d) ∧ (∀ i, i < n → zBE ws c n i (q i) (q (i + 1))) ∧ ∀ i, i ≤ n → (q i).1.length = i ∧ (∀ k, k < i → HdK ws c n k ((q i).1.getD k default)) ∧ DOk (q i).2 :=
 zA0 (S := List Hd × Dice) n ([], d) (zBE ws c n) (fun i s => s.1.length = i ∧ (∀ k, k < i → HdK ws c n k (s.1.getD k default)) ∧ DOk s.2) ⟨rfl, fun k hk => by omega, hd⟩ (fun i s hi ⟨h1, h2, h3⟩ => by
  have key : ∀ s' : List Hd × Dice, zBE ws c n i s s' → DOk s'.2 → (∃ h, s'.1 = s.1 ++ [h] ∧ HdK ws c n i h) → ∃ s', zBE ws c n i s s' ∧ s'.1.length = i + 1 ∧ (∀ k, k < i + 1 → HdK ws c n k (s'.1.getD k default)) ∧ DOk s'.2 := fun s' hR hd' ⟨h, e, hk⟩ => by
   refine ⟨s', hR, by rw [e]; simp [h1], fun k hk2 => ?_, hd'⟩
   rw [e, zFN, h1]
   by_cases e2 : k < i
   ·rw [if_pos e2]; exact h2 k e2
   ·rw [if_neg e2, if_pos (show k = i by omega), show k = i by omega]
    exact hk
  obtain ⟨k0, d1, st, hk, _, hd1⟩ := E1 s.2 ((c : Int) - 1) h3 (by omega)
  have hk := hk (by omega)
  by_cases hn1 : n ≤ 1
  ·obtain ⟨s', ht, hd', hx⟩ := zHm ws c n i k0 (by omega) d1 hd1 s
   exact key s' ⟨k0, d1, st, .inl ⟨hn1, ht⟩⟩ hd' hx
  ·obtain ⟨b, d2, so, hd2⟩ := E0 d1 3 hd1 (by omega)
   cases b
   ·obtain ⟨s', ht, hd', hx⟩ := zHm ws c n i k0 (by omega) d2 hd2 s
    exact key s' ⟨k0, d1, st, .inr ⟨by omega, false, d2, so, .inr ⟨rfl, ht⟩⟩⟩ hd' hx
   ·obtain ⟨r, d3, s3, hr, _, hd3⟩ := E1 d2 ((n : Int) - 2) hd2 (by omega)
    have hr := hr (by omega)
    have hs := zOD hi (show r + 2 ≤ n by omega)
    refine key (s.1 ++ [⟨callW.getD (ws.getD i 0) default, -1, (((i + 1 + r) % n : Nat) : Int), []⟩], d3) ⟨k0, d1, st, .inr ⟨by omega, true, d2, so, .inl ⟨rfl, r, d3, by omega, s3, rfl⟩⟩⟩ hd3 ⟨_, rfl, rfl, ⟨by show (-1 : Int) ≤ -1; omega, by show (-1 : Int) < c; omega⟩, ⟨?_, ?_, ?_⟩, fun j hj => (by cases hj), by simp, ?_⟩
    ·show (-1 : Int) ≤ (((i + 1 + r) % n : Nat) : Int); omega
    ·show (((i + 1 + r) % n : Nat) : Int) < n; omega
    ·show (((i + 1 + r) % n : Nat) : Int) ≠ i; omega
    ·exact zMQ (by omega))
end Go.Abs

namespace Go.Abs
open Go Go.Proofs Tryz
attribute [local irreducible] q9 Hold y2
variable [Cur]
abbrev zUp : AV := .raw (.slice none 0 0)
theorem zKD (d : Dice) (h : DOk d) (c m : Nat) (hc : 1 ≤ c ∧ c ≤ 6) (hm : m ≤ 6) : ∃ (t : Trd) (d' : Dice), zUL prog 22 [.ptr 0 0, iV c, iV m] [y3 d] (.agg [.own 1 2 0 t.cls.length, .own 2 4 0 t.hds.length]) [y3 d', .row 2 (t.cls.map Cl.enc), .row 4 (t.hds.map Hd.enc)] ∧
  P8 t = 0 ∧ (∀ h, h ∈ t.hds → h.also.length ≤ 4294967296) ∧ (1 ≤ t.cls.length ∧ t.cls.length ≤ 6) ∧ DOk d' := by
 obtain ⟨ns, d1, so, hp, hd1⟩ := zEo d 9 (by omega) h
 obtain ⟨n0, d2, sf, hn0, hd2⟩ := O5 d1 1 c hd1 (by omega) (by omega)
 obtain ⟨n, rfl⟩ : ∃ n : Nat, n0 = n := ⟨_, (Int.toNat_of_nonneg (by omega)).symm⟩
 obtain ⟨q, q0, qR, qG⟩ := zJi ns d2 hd2 n (by omega)
 obtain ⟨qn1, qn2, hd3⟩ := qG n (Nat.le_refl _)
 obtain ⟨m1, d4, st, hm1, _, hd4⟩ := E1 (q n).2 m hd3 (by omega)
 have hm1 := hm1 (by omega)
 obtain ⟨ws, d5, sp, hw1, hw2, hw3, hd5⟩ := zKA d4 16 m1 (by omega) (by omega) hd4
 obtain ⟨g, g0, gR, gG⟩ := zLf ws n ws.length (by omega) (by omega) d5 hd5
 obtain ⟨gn1, gn2, hd6⟩ := gG ws.length (Nat.le_refl _)
 refine ⟨⟨(q n).1, (g ws.length).1⟩, (g ws.length).2, ?_, zMm (ns := ns) (ws := ws) (by show (q n).1.length ≤ 6; omega) (by show (g ws.length).1.length ≤ 6; omega) (hp.nodup_iff.2 List.nodup_range) (fun x hx => List.mem_range.1 (hp.mem_iff.1 hx)) (by show (q n).1.length ≤ ns.length; rw [hp.length_eq, List.length_range]; omega) (fun k hk => qn2 k (by have hk : k < (q n).1.length := hk; omega)) hw1 hw2 gn1 (fun k hk => ?_), fun h hh => ?_, ?_, hd6⟩
 rotate_left 1
 ·have hk : k < (g ws.length).1.length := hk
  have := gn2 k (by omega)
  rw [qn1]
  show HdK ws n (g ws.length).1.length k _
  rw [gn1]; exact this
 ·obtain ⟨k, hk, rfl⟩ := List.getElem_of_mem hh
  have hk : k < (g ws.length).1.length := hk
  have := (gn2 k (by omega)).len
  simp only [List.getD, List.getElem?_eq_getElem hk, Option.getD_some] at this
  show ((g ws.length).1[k]).also.length ≤ _
  omega
 ·show 1 ≤ (q n).1.length ∧ (q n).1.length ≤ 6; omega
 have hql : ∀ i, i ≤ n → (q i).1.length = i := fun i hi => (qG i hi).1
 have hgl : ∀ i, i ≤ ws.length → (g i).1.length = i := fun i hi => (gG i hi).1
 have hnl : ns.length = 9 := by rw [hp.length_eq]; simp
 have hn9 : ∀ i, i < 9 → ns.getD i 0 < 9 := fun i hi => J9 (fun x hx => List.mem_range.1 (hp.mem_iff.1 hx)) (by omega)
 have hw16 : ∀ i, i < ws.length → ws.getD i 0 < 16 := fun i hi => J9 hw2 hi
 have hwl : ws.length ≤ 6 := by omega
 have hn6 : 1 ≤ n ∧ n ≤ 6 := by omega
 clear qG gG hp hw1 hw2 hw3 gn2 qn2 hd1 hd2 hd3 hd4 hd5 hd6 hm1 hn0 h gn1 qn1
 have h9 : ((9 : Nat) : Int) = 9 := rfl
 have h16 : ((16 : Nat) : Int) = 16 := rfl
 have hsl : sortS.length = 9 := rfl
 have hcl : callW.length = 16 := rfl
 rw [h9] at so
 rw [h16] at sp
 refine z9 func22 rfl (fun E hE => ?_); simp only [go_sem, ntmps22]
 refine wk1 (cc (own [0] (so)) (cc (own [0] (sf)) zHS)) ?_
 clear so sf
 refine x8 rfl (n) (fun i => NoT i) 132 (fun i => [(9, iV ((n - i : Nat) : Int)), (8, .own 3 1 0 9), (7, .ptr 2 0), (6, .ptr 1 0), (0, .ptr 0 0), (2, iV m)]) (fun i => [y3 (q i).2, .box [zUp, zUp], .box [.own 4 2 0 i, zUp], .row 1 (ns.map pnV), .row 2 ((q i).1.map Cl.enc)]) [some 0, some 1, some 2, some 4, none] [] (by trivial) ?_; intro i hi hP
 rcases Nat.lt_or_ge i n with hi2 | hi2
 ·obtain ⟨u, su, hu⟩ := qR i hi2
  have hqi := hql i hi
  obtain ⟨l, da, hq1⟩ : ∃ l da, q i = (l, da) := ⟨_, _, rfl⟩
  obtain ⟨l', db, hq2⟩ : ∃ l' db, q (i + 1) = (l', db) := ⟨_, _, rfl⟩
  rw [hq1] at hqi su hu ⊢
  rw [hq2] at su hu
  simp only at hqi su hu ⊢
  have hk9 := hn9 i (by omega)
  have g1 : (ns.map pnV).getD i AV.any = pnV (ns.getD i 0) := by simp [List.getD, show i < ns.length by omega]
  have g2 := zOP hk9
  generalize sortS.getD (ns.getD i 0) default = nm at *
  generalize ns.getD i 0 = kk at *
  have hd1 : decide (((n - i : Nat) : Int) > 0) = true := by simp; omega
  have hd2 : decide (0 < n - i) = true := by simp; omega
  have hw1 : IntKind.i64.wrap ((i : Int) - 1) = (i : Int) - 1 := wrap_i64 (by omega) (by omega)
  have hw2 : IntKind.i64.wrap (((n - i : Nat) : Int) - 1) = ((n - (i + 1) : Nat) : Int) := by rw [wrap_i64 (by omega) (by omega)]; omega
  clear qR hql gR hgl hn9 hw16 st sp q0 g0
  refine wk1 (cc (own [0] (su)) zHS) ?_
  clear hd1 hd2
  exact y8 (i' := i + 1) [some 0, some 1, some 2, some 3, some 7] [] (by trivial)
 ·obtain rfl : i = n := by omega
  have e0 : i - i = 0 := Nat.sub_self _
  simp only [e0]
  clear qR q0 hn9
  refine wk1 (cc (own [0] (st)) (cc (own [0] (sp)) zBv)) ?_
  clear st sp
  have hqn := hql i (Nat.le_refl _)
  clear hql hP hi hi2 e0
  obtain ⟨n, hnn⟩ : ∃ n, n = i := ⟨_, rfl⟩
  subst hnn
  refine x8 rfl (ws.length) (fun i => NoT i) 132 (fun i => [(12, iV i), (11, iV ws.length), (10, .own 3 1 0 ws.length), (7, .ptr 2 0), (6, .ptr 1 0), (0, .ptr 0 0)]) (fun i => [y3 (g i).2, .box [zUp, zUp], .box [.own 4 2 0 n, .own 5 4 0 i], .row 1 (ws.map pnV), .row 2 ((q n).1.map Cl.enc), .row 4 ((g i).1.map Hd.enc)]) [some 0, some 1, some 2, some 6, some 4, none] [] (by trivial) ?_; intro i hi hP
  rcases Nat.lt_or_ge i ws.length with hi2 | hi2
  ·obtain ⟨k0, da, sT, hR⟩ := gR i hi2
   have hgi := hgl i hi
   obtain ⟨l, dl, hg1⟩ : ∃ l dl, g i = (l, dl) := ⟨_, _, rfl⟩
   obtain ⟨l', db, hg2⟩ : ∃ l' db, g (i + 1) = (l', db) := ⟨_, _, rfl⟩
   rw [hg1] at hgi sT hR ⊢
   rw [hg2] at hR
   simp only at hgi sT ⊢
   have hk16 := hw16 i hi2
   have g1 : (ws.map pnV).getD i AV.any = pnV (ws.getD i 0) := by simp [List.getD, hi2]
   have g2 := zJV hk16
   generalize callW.getD (ws.getD i 0) default = w at *
   generalize ws.getD i 0 = kk at *
   have hd1 : decide ((i : Int) < (ws.length : Int)) = true := by simp; omega
   have hd2 : decide (i < ws.length) = true := by simp; omega
   have hw1 : IntKind.i64.wrap ((n : Int) - 1) = (n : Int) - 1 := wrap_i64 (by omega) (by omega)
   clear gR hgl hw16 g0
   rcases hR with ⟨hn1, hR⟩ | ⟨hn1, b, d2', s3, ⟨hb, r, d3', hr, s4, hs⟩ | ⟨hb, hR⟩⟩
   ·have hd7 : decide ((ws.length : Int) > 1) = false := by simp; omega
    have hd8 : decide (1 < ws.length) = false := by simp; omega
    refine wk1 (cc (own [0] (sT)) zBv) ?_
    clear hd7 hd8 sT g1 g2
    obtain ⟨al, al0, alR, alL, hend⟩ := hR
    refine x8 rfl (ws.length) (fun k => NoT k) 132 (fun k => [(14, iV k), (13, .ptr 6 0), (12, iV i), (11, iV ws.length), (10, .own 3 1 0 ws.length), (7, .ptr 2 0), (6, .ptr 1 0), (0, .ptr 0 0)]) (fun k => [y3 (al k).2, .box [zUp, zUp], .box [.own 4 2 0 n, .own 5 4 0 i], .row 1 (ws.map pnV), .row 2 ((q n).1.map Cl.enc), .row 4 (l.map Hd.enc), .box [sV w, iV k0, iV (-1), .own 7 1 0 (al k).1.length], .row 1 ((al k).1.map pnV)]) [some 0, some 1, some 2, some 3, some 4, some 5, some 7, none] [] (by trivial) ?_; intro k hk hP
    clear al0 hd1 hd2
    rcases Nat.lt_or_ge k ws.length with hk2 | hk2
    ·have hkr := alR k hk2
     have hkl := alL k hk
     have hd3 : decide ((k : Int) < (ws.length : Int)) = true := by simp; omega
     have hd4 : decide (k < ws.length) = true := by simp; omega
     clear alR alL hend
     obtain ⟨x, dx, hx⟩ : ∃ x dx, al k = (x, dx) := ⟨_, _, rfl⟩
     obtain ⟨y, dy, hy⟩ : ∃ y dy, al (k + 1) = (y, dy) := ⟨_, _, rfl⟩
     rw [hx] at hkr hkl ⊢
     rw [hy] at hkr
     simp only at hkr hkl ⊢
     rcases hkr with ⟨he, hs⟩ | ⟨he, b4, d4', s4, hs⟩
     ·have hb1 : ((k : Int) != (i : Int)) = false := by simp; omega
      replace hs := Prod.mk.inj hs
      obtain ⟨e1, e2⟩ := hs
      subst e1 e2
      clear he
      refine wk1 trivial ?_
      clear hd3 hd4 hb1
      exact y8 (i' := k + 1) [some 0, some 1, some 2, some 3, some 4, some 5, some 6, some 7] [] (by trivial)
     ·have hb1 : ((k : Int) != (i : Int)) = true := by simp; omega
      replace hs := Prod.mk.inj hs
      obtain ⟨e1, e2⟩ := hs
      subst e2
      cases b4
      ·replace e1 : y = x := e1
       subst e1
       clear he
       refine wk1 (own [0] (s4)) ?_
       clear hd3 hd4 hb1
       exact y8 (i' := k + 1) [some 0, some 1, some 2, some 3, some 4, some 5, some 6, some 7] [] (by trivial)
      ·replace e1 : y = x ++ [k] := e1
       subst e1
       clear he
       refine wk1 (own [0] (s4)) ?_
       clear hd3 hd4 hb1
       exact y8 (i' := k + 1) [some 0, some 1, some 2, some 3, some 4, some 5, some 6, some 9] [] (by trivial)
    ·have he : k = ws.length := by omega
     subst he
     have hd3 : decide ((ws.length : Int) < (ws.length : Int)) = false := by simp
     have hd4 : decide (ws.length < ws.length) = false := by simp
     clear alR alL
     obtain ⟨x, dx, hx⟩ : ∃ x dx, al ws.length = (x, dx) := ⟨_, _, rfl⟩
     rw [hx] at hend ⊢
     simp only at hend ⊢
     have hmi : (R9 x).map iV = x.map pnV := by rw [List.map_map]; rfl
     refine X5 (N := 132) (env := [(14, iV ws.length), (13, .ptr 6 0), (12, iV i), (11, iV ws.length), (10, .own 3 1 0 ws.length), (7, .ptr 2 0), (6, .ptr 1 0), (0, .ptr 0 0)]) (As := [y3 dx, .box [zUp, zUp], .box [.own 4 2 0 n, .own 5 4 0 i], .row 1 (ws.map pnV), .row 2 ((q n).1.map Cl.enc), .row 4 (l.map Hd.enc), .box [sV w, iV k0, iV (-1), .list (x.map pnV)]]) [some 0, some 1, some 2, some 3, some 4, some 5, some 6] [7] (by (simp only [Weak, go_sem, List.map_append, List.map_set, *] <;> (try simp (disch := omega) only [u6]) <;> (try simp) <;> (try omega))) ?_
     rcases hend with ⟨hz, hs⟩ | ⟨hz, b5, d5', s5, hs⟩
     ·have hd5 : decide ((x.length : Int) > 0) = false := by rw [hz]; rfl
      have hd6 : decide (0 < x.length) = false := by rw [hz]; rfl
      have hx0 : x = [] := List.eq_nil_of_length_eq_zero hz
      subst hx0
      replace hs := Prod.mk.inj hs
      obtain ⟨e1, e2⟩ := hs
      subst e1 e2
      clear hmi hz
      refine wk1 trivial ?_
      clear hd3 hd4 hd5 hd6
      exact y8 (i' := i + 1) [some 0, some 1, some 2, some 3, some 4, some 8] [] (by trivial)
     ·have hd5 : decide ((x.length : Int) > 0) = true := decide_eq_true (by omega)
      have hd6 : decide (0 < x.length) = true := decide_eq_true hz
      replace hs := Prod.mk.inj hs
      obtain ⟨e1, e2⟩ := hs
      subst e2
      cases b5
      ·simp only [Bool.false_eq_true, if_false] at e1
       subst e1
       refine wk1 (own [0] (s5)) ?_
       clear hd3 hd4 hd5 hd6
       exact y8 (i' := i + 1) [some 0, some 1, some 2, some 3, some 4, some 8] [] (by trivial)
      ·simp only [if_true] at e1
       subst e1
       refine wk1 (own [0] (s5)) ?_
       clear hd3 hd4 hd5 hd6
       exact y8 (i' := i + 1) [some 0, some 1, some 2, some 3, some 4, some 8] [] (by trivial)
   ·subst hb
    have hd7 : decide ((ws.length : Int) > 1) = true := by simp; omega
    have hd8 : decide (1 < ws.length) = true := by simp; omega
    have hw3 : IntKind.i64.wrap ((ws.length : Int) - 2) = (ws.length : Int) - 2 := wrap_i64 (by omega) (by omega)
    have hw4 : IntKind.i64.wrap ((i : Int) + 1) = (i : Int) + 1 := wrap_i64 (by omega) (by omega)
    have hw5 : IntKind.i64.wrap ((i : Int) + 1 + (r : Int)) = (i : Int) + 1 + (r : Int) := wrap_i64 (by omega) (by omega)
    have hrem : ((i : Int) + 1 + (r : Int)).tmod (ws.length : Int) = (((i + 1 + r) % ws.length : Nat) : Int) := by
     rw [Int.tmod_eq_emod_of_nonneg (by omega), show (i : Int) + 1 + (r : Int) = ((i + 1 + r : Nat) : Int) by omega]
     rfl
    replace hs := Prod.mk.inj hs
    obtain ⟨e1, e2⟩ := hs
    subst e1 e2
    generalize (i + 1 + r) % ws.length = see at *
    repeat' (first | ((with_reducible refine M0 [0, 1, 0, 0, 1, 0, 0, 1, 0, 1, 1, 1, 1, 1, 1] ?_)) | (refine Qr rfl ?_; try intro _ hK; try simp only [go_sem, *]) | (refine Qi rfl rfl rfl rfl ?_ ?_ <;> (intro hb; (try intro _ hK); have hc := hb; try simp only [go_sem] at hc; simp only [go_sem, *])) | refine Qh rfl ?_ | refine Qd rfl (by kernel_rfl) ?_ | (refine Qc rfl rfl ?_ ?_ <;> (intro hb; have hc := hb; try simp only [go_sem] at hc)) | refine z8 rfl ?_ | (refine Qb ?_ ?_; focus kernel_rfl) | (refine u9 [0] (sT) ?_; simp only [go_sem, *]) | (refine i3 (zBv) ?_; simp only [go_sem, *]) | ((with_reducible apply And.intro); focus omega) | (refine z7 hK ?_; clear hK; simp only [go_sem, *]) | simp only [z6, z5, go_sem, *])
    all_goals try contradiction
    refine ⟨?_⟩
    refine X5 (N := 132) (env := [(13, .ptr 6 0), (12, iV i), (11, iV ws.length), (10, .own 3 1 0 ws.length), (7, .ptr 2 0), (6, .ptr 1 0), (0, .ptr 0 0)]) (As := [y3 da, .box [zUp, zUp], .box [.own 4 2 0 n, .own 5 4 0 i], .row 1 (ws.map pnV), .row 2 ((q n).1.map Cl.enc), .row 4 (l.map Hd.enc), .box [sV w, iV k0, iV (-1), .list []]]) [some 0, some 1, some 2, some 3, some 4, some 5, some 7] [] (by (simp only [Weak, go_sem, List.map_append, List.map_set, *] <;> (try simp (disch := omega) only [u6]) <;> (try simp) <;> (try omega))) ?_
    clear sT
    refine wk1 (cc (own [0] (s3)) (own [0] (s4))) ?_
    exact y8 (i' := i + 1) [some 0, some 1, some 2, some 3, some 4, some 8] [] (by trivial)
   ·subst hb
    have hd7 : decide ((ws.length : Int) > 1) = true := by simp; omega
    have hd8 : decide (1 < ws.length) = true := by simp; omega
    refine wk1 (cc (own [0] (sT)) (cc (own [0] (s3)) zBv)) ?_
    clear hd7 hd8 sT s3 g1 g2
    obtain ⟨al, al0, alR, alL, hend⟩ := hR
    refine x8 rfl (ws.length) (fun k => NoT k) 132 (fun k => [(14, iV k), (13, .ptr 6 0), (12, iV i), (11, iV ws.length), (10, .own 3 1 0 ws.length), (7, .ptr 2 0), (6, .ptr 1 0), (0, .ptr 0 0)]) (fun k => [y3 (al k).2, .box [zUp, zUp], .box [.own 4 2 0 n, .own 5 4 0 i], .row 1 (ws.map pnV), .row 2 ((q n).1.map Cl.enc), .row 4 (l.map Hd.enc), .box [sV w, iV k0, iV (-1), .own 7 1 0 (al k).1.length], .row 1 ((al k).1.map pnV)]) [some 0, some 1, some 2, some 3, some 4, some 5, some 7, none] [] (by trivial) ?_; intro k hk hP
    clear al0 hd1 hd2
    rcases Nat.lt_or_ge k ws.length with hk2 | hk2
    ·have hkr := alR k hk2
     have hkl := alL k hk
     have hd3 : decide ((k : Int) < (ws.length : Int)) = true := by simp; omega
     have hd4 : decide (k < ws.length) = true := by simp; omega
     clear alR alL hend
     obtain ⟨x, dx, hx⟩ : ∃ x dx, al k = (x, dx) := ⟨_, _, rfl⟩
     obtain ⟨y, dy, hy⟩ : ∃ y dy, al (k + 1) = (y, dy) := ⟨_, _, rfl⟩
     rw [hx] at hkr hkl ⊢
     rw [hy] at hkr
     simp only at hkr hkl ⊢
     rcases hkr with ⟨he, hs⟩ | ⟨he, b4, d4', s4, hs⟩
     ·have hb1 : ((k : Int) != (i : Int)) = false := by simp; omega
      replace hs := Prod.mk.inj hs
      obtain ⟨e1, e2⟩ := hs
      subst e1 e2
      clear he
      refine wk1 trivial ?_
      clear hd3 hd4 hb1
      exact y8 (i' := k + 1) [some 0, some 1, some 2, some 3, some 4, some 5, some 6, some 7] [] (by trivial)
     ·have hb1 : ((k : Int) != (i : Int)) = true := by simp; omega
      replace hs := Prod.mk.inj hs
      obtain ⟨e1, e2⟩ := hs
      subst e2
      cases b4
      ·replace e1 : y = x := e1
       subst e1
       clear he
       refine wk1 (own [0] (s4)) ?_
       clear hd3 hd4 hb1
       exact y8 (i' := k + 1) [some 0, some 1, some 2, some 3, some 4, some 5, some 6, some 7] [] (by trivial)
      ·replace e1 : y = x ++ [k] := e1
       subst e1
       clear he
       refine wk1 (own [0] (s4)) ?_
       clear hd3 hd4 hb1
       exact y8 (i' := k + 1) [some 0, some 1, some 2, some 3, some 4, some 5, some 6, some 9] [] (by trivial)
    ·have he : k = ws.length := by omega
     subst he
     have hd3 : decide ((ws.length : Int) < (ws.length : Int)) = false := by simp
     have hd4 : decide (ws.length < ws.length) = false := by simp
     clear alR alL
     obtain ⟨x, dx, hx⟩ : ∃ x dx, al ws.length = (x, dx) := ⟨_, _, rfl⟩
     rw [hx] at hend ⊢
     simp only at hend ⊢
     have hmi : (R9 x).map iV = x.map pnV := by rw [List.map_map]; rfl
     refine X5 (N := 132) (env := [(14, iV ws.length), (13, .ptr 6 0), (12, iV i), (11, iV ws.length), (10, .own 3 1 0 ws.length), (7, .ptr 2 0), (6, .ptr 1 0), (0, .ptr 0 0)]) (As := [y3 dx, .box [zUp, zUp], .box [.own 4 2 0 n, .own 5 4 0 i], .row 1 (ws.map pnV), .row 2 ((q n).1.map Cl.enc), .row 4 (l.map Hd.enc), .box [sV w, iV k0, iV (-1), .list (x.map pnV)]]) [some 0, some 1, some 2, some 3, some 4, some 5, some 6] [7] (by (simp only [Weak, go_sem, List.map_append, List.map_set, *] <;> (try simp (disch := omega) only [u6]) <;> (try simp) <;> (try omega))) ?_
     rcases hend with ⟨hz, hs⟩ | ⟨hz, b5, d5', s5, hs⟩
     ·have hd5 : decide ((x.length : Int) > 0) = false := by rw [hz]; rfl
      have hd6 : decide (0 < x.length) = false := by rw [hz]; rfl
      have hx0 : x = [] := List.eq_nil_of_length_eq_zero hz
      subst hx0
      replace hs := Prod.mk.inj hs
      obtain ⟨e1, e2⟩ := hs
      subst e1 e2
      clear hmi hz
      refine wk1 trivial ?_
      clear hd3 hd4 hd5 hd6
      exact y8 (i' := i + 1) [some 0, some 1, some 2, some 3, some 4, some 8] [] (by trivial)
     ·have hd5 : decide ((x.length : Int) > 0) = true := decide_eq_true (by omega)
      have hd6 : decide (0 < x.length) = true := decide_eq_true hz
      replace hs := Prod.mk.inj hs
      obtain ⟨e1, e2⟩ := hs
      subst e2
      cases b5
      ·simp only [Bool.false_eq_true, if_false] at e1
       subst e1
       refine wk1 (own [0] (s5)) ?_
       clear hd3 hd4 hd5 hd6
       exact y8 (i' := i + 1) [some 0, some 1, some 2, some 3, some 4, some 8] [] (by trivial)
      ·simp only [if_true] at e1
       subst e1
       refine wk1 (own [0] (s5)) ?_
       clear hd3 hd4 hd5 hd6
       exact y8 (i' := i + 1) [some 0, some 1, some 2, some 3, some 4, some 8] [] (by trivial)
  ·obtain rfl : i = ws.length := by omega
   have hd1 : decide ((ws.length : Int) < (ws.length : Int)) = false := by simp
   have hd2 : decide (ws.length < ws.length) = false := by simp
   clear gR hgl hw16 g0
   refine wk1 trivial ?_
   refine ⟨[.agg [.own 4 2 0 n, .own 5 4 0 ws.length]], [some 0, some 4, some 5], [], ⟨(by simp only [W0, go_sem]), trivial⟩, ?_⟩
   simp only [go_sem, *]
end Go.Abs

namespace Go.Abs
open Go Go.Proofs Tryz
attribute [local irreducible] q9 Hold y2
variable [Cur]
structure PerM (tr : Trd) (st : Int) (p : Per) : Prop where
 st : 0 ≤ p.street ∧ p.street < st
 no : 1 ≤ p.number ∧ p.number ≤ 40
 hd : p.head = -1 ∨ (0 ≤ p.head ∧ p.head < tr.hds.length ∧ 0 ≤ (tr.hds.getD p.head.toNat default).cls)
def Q7 (l : List Hd) (i : Nat) : List Nat := (List.range i).filter fun k => decide (0 ≤ (l.getD k default).cls)
theorem zFg (l : List Hd) (i : Nat) : (Q7 l i).length ≤ i := by
 unfold Q7
 have := List.length_filter_le (fun k => decide (0 ≤ (l.getD k default).cls)) (List.range i)
 simpa using this
theorem zLe (l : List Hd) (i : Nat) : Q7 l (i + 1) = Q7 l i ++ if 0 ≤ (l.getD i default).cls then [i] else [] := by
 unfold Q7
 rw [List.range_succ, List.filter_append, List.filter_cons, List.filter_nil]
 by_cases h : 0 ≤ (l.getD i default).cls <;> simp [h]
def zWD (H : List Nat) (d : Dice) (hd : Int) (d' : Dice) : Prop :=
 (H.length = 0 ∧ hd = -1 ∧ d' = d) ∨ (0 < H.length ∧ ∃ (b : Bool) (d7 : Dice), zUL prog 26 [.ptr 0 0, iV 4] [y3 d] (bV b) [y3 d7] ∧
  ((b = true ∧ hd = -1 ∧ d' = d7) ∨ (b = false ∧ ∃ r : Nat, r < H.length ∧ zUL prog 27 [.ptr 0 0, iV ((H.length : Int) - 1)] [y3 d7] (iV r) [y3 d'] ∧ hd = (H.getD r 0 : Nat))))
theorem zNP (tr : Trd) (hh : tr.hds.length ≤ 1000) (d : Dice) (hd : DOk d) : ∃ (n : Int) (d' : Dice), zWD (Q7 tr.hds tr.hds.length) d n d' ∧ DOk d' ∧ (n = -1 ∨ (0 ≤ n ∧ n < tr.hds.length ∧ 0 ≤ (tr.hds.getD n.toNat default).cls)) := by
 have hHl := zFg tr.hds tr.hds.length
 by_cases hz : (Q7 tr.hds tr.hds.length).length = 0
 ·exact ⟨-1, d, .inl ⟨hz, rfl, rfl⟩, hd, .inl rfl⟩
 ·obtain ⟨b, d7, so, hd7⟩ := E0 d 4 hd (by omega)
  cases b
  ·obtain ⟨r, d8, st, hr, _, hd8⟩ := E1 d7 (((Q7 tr.hds tr.hds.length).length : Int) - 1) hd7 (by omega)
   have hr := hr (by omega)
   have hrl : r < (Q7 tr.hds tr.hds.length).length := by omega
   refine ⟨((Q7 tr.hds tr.hds.length).getD r 0 : Nat), d8, .inr ⟨by omega, false, d7, so, .inr ⟨rfl, r, hrl, st, rfl⟩⟩, hd8, .inr ?_⟩
   have hm : (Q7 tr.hds tr.hds.length).getD r 0 ∈ Q7 tr.hds tr.hds.length := by simp [List.getD, hrl]
   generalize (Q7 tr.hds tr.hds.length).getD r 0 = x at hm
   unfold Q7 at hm
   obtain ⟨h1, h2⟩ := List.mem_filter.1 hm
   have h1 := List.mem_range.1 h1
   exact ⟨by omega, by omega, by simpa using h2⟩
  ·exact ⟨-1, d7, .inr ⟨by omega, true, d7, so, .inl ⟨rfl, rfl, rfl⟩⟩, hd7, .inl rfl⟩
theorem zKB (d : Dice) (hd0 : DOk d) (tr : Trd) (st wd rw_ : Int) (hst : 1 ≤ st ∧ st ≤ 3) (hh : tr.hds.length ≤ 1000) (nm : Str) (R P : List AV) (nr np : Nat) : ∃ (p : Per) (d' : Dice),
  zUL prog 25 [.ptr 0 0, .agg [iV st, iV wd, iV rw_, u1 tr.cls, u3 tr.hds, .own 1 2 0 nr, .own 2 5 0 np], sV nm] [y3 d, .row 2 R, .row 5 P] p.enc [y3 d', .row 2 R, .row 5 P] ∧ PerM tr st p ∧ p.name = nm ∧ DOk d' := by
 obtain ⟨s0, d1, c1, hs0, _, hd1⟩ := E1 d (st - 1) hd0 (by omega)
 have hs0 := hs0 (by omega)
 obtain ⟨x1, d2, c2, hx1, hd2⟩ := O5 d1 1 3 hd1 (by omega) (by omega)
 obtain ⟨x2, d3, c3, hx2, hd3⟩ := O5 d2 1 3 hd2 (by omega) (by omega)
 obtain ⟨x3, d4, c4, hx3, hd4⟩ := O5 d3 1 40 hd3 (by omega) (by omega)
 obtain ⟨no, d5, c5, hno, hd5⟩ := zCa d4 [x1, x2, x3] hd4 (by simp) (by simp)
 obtain ⟨bo, d6, c6, hd6⟩ := E0 d5 4 hd5 (by omega)
 obtain ⟨he, d8, hE8, hd8, hhe⟩ := zNP tr hh d6 hd6
 refine ⟨⟨nm, s0, no, he, bo⟩, d8, ?_, ⟨by show 0 ≤ (s0 : Int) ∧ (s0 : Int) < st; omega, by
  show 1 ≤ no ∧ no ≤ 40
  simp only [List.mem_cons, List.not_mem_nil, or_false] at hno
  rcases hno with rfl | rfl | rfl <;> omega, hhe⟩, rfl, hd8⟩
 clear hd0 hd1 hd2 hd3 hd4 hd5 hd6 hd8 hhe hno hx1 hx2 hx3
 obtain ⟨cls, hds⟩ := tr
 simp only at hE8 hh ⊢
 have hw1 : IntKind.i64.wrap (st - 1) = st - 1 := wrap_i64 (by omega) (by omega)
 have hsc := zLe hds
 have hhl := zFg hds
 have hh0 : Q7 hds 0 = [] := rfl
 refine z9 func25 rfl (fun E hE => ?_); simp only [go_sem, ntmps25]
 repeat' (first | (refine Qr rfl ?_; try intro _ hK; try simp only [go_sem, *]) | (refine Qi rfl rfl rfl rfl ?_ ?_ <;> (intro hb; (try intro _ hK); have hc := hb; try simp only [go_sem] at hc; simp only [go_sem, *])) | refine Qh rfl ?_ | (refine Qc rfl rfl ?_ ?_ <;> (intro hb; have hc := hb; try simp only [go_sem] at hc)) | refine z8 rfl ?_ | (with_reducible (show (∀ _ : AV, _ → _) ∧ _); refine wel ?_) | (refine x7 [0] [] (c1) (by simp) ?_ ?_ (by simp) (.inl rfl) ?_ ?_ ?_; (iterate 2 (focus (simp only [go_sem, *]; done))); (iterate 2 (focus (first | (simp; done) | (simp [go_sem]; done)))); simp only [go_sem, *]) | (refine x7 [0] [] (c2) (by simp) ?_ ?_ (by simp) (.inl rfl) ?_ ?_ ?_; (iterate 2 (focus (simp only [go_sem, *]; done))); (iterate 2 (focus (first | (simp; done) | (simp [go_sem]; done)))); simp only [go_sem, *]) | (refine x7 [0] [] (c3) (by simp) ?_ ?_ (by simp) (.inl rfl) ?_ ?_ ?_; (iterate 2 (focus (simp only [go_sem, *]; done))); (iterate 2 (focus (first | (simp; done) | (simp [go_sem]; done)))); simp only [go_sem, *]) | (refine x7 [0] [] (c4) (by simp) ?_ ?_ (by simp) (.inl rfl) ?_ ?_ ?_; (iterate 2 (focus (simp only [go_sem, *]; done))); (iterate 2 (focus (first | (simp; done) | (simp [go_sem]; done)))); simp only [go_sem, *]) | ((with_reducible apply And.intro); focus omega) | (refine z7 hK ?_; clear hK; simp only [go_sem, *]) | simp only [z6, z5, go_sem, *])
 all_goals try contradiction
 have hm3 : AV.list ([x1, x2, x3].map iV) = .list [iV x1, iV x2, iV x3] := rfl
 rw [hm3] at c5
 clear hm3
 refine M5 [0] [5] c5 rfl (by simp only [go_sem]) (by simp) ?_ ?_ (by simp [go_sem]) (by simp [go_sem]) ?_
 ·simp only [go_sem, *]
 ·simp only [go_sem, *]
 simp only [go_sem, w5, *]
 repeat' (first | (refine Qr rfl ?_; try intro _ hK; try simp only [go_sem, *]) | (refine Qi rfl rfl rfl rfl ?_ ?_ <;> (intro hb; (try intro _ hK); have hc := hb; try simp only [go_sem] at hc; simp only [go_sem, *])) | refine Qh rfl ?_ | (refine Qc rfl rfl ?_ ?_ <;> (intro hb; have hc := hb; try simp only [go_sem] at hc)) | refine z8 rfl ?_ | (with_reducible (show (∀ _ : AV, _ → _) ∧ _); refine wel ?_) | (refine u9 [0] (c6) ?_; simp only [go_sem, *]) | ((with_reducible apply And.intro); focus omega) | (refine z7 hK ?_; clear hK; simp only [go_sem, *]) | simp only [z6, z5, go_sem, *])
 all_goals try contradiction
 clear c1 c2 c3 c4 c5 c6
 refine x8 rfl (hds.length) (fun i => NoT i) 66 (fun i => [(9, iV i), (8, .own 6 1 0 (Q7 hds i).length), (7, .ptr 5 0), (6, .ptr 4 0), (4, .ptr 3 0), (0, .ptr 0 0)]) (fun i => [y3 d6, .row 2 R, .row 5 P, .box [iV st, iV wd, iV rw_, u1 cls, u3 hds, .own 1 2 0 nr, .own 2 5 0 np], .box [.any, .any, .any, .any, .any], .box [sV nm, iV s0, iV no, iV (-1), bV bo], .row 1 ((Q7 hds i).map pnV)]) [some 0, some 1, some 2, some 3, some 4, some 6, none] [] (by trivial) ?_; intro i hi hP
 clear hh0
 rcases Nat.lt_or_ge i hds.length with hi2 | hi2
 ·have hs1 := hsc i
  have hl1 := hhl i
  have hd1 : decide ((i : Int) < (hds.length : Int)) = true := by simp; omega
  have hd2 : decide (i < hds.length) = true := by simp; omega
  clear hsc hhl hE8
  by_cases hq : 0 ≤ (hds.getD i default).cls
  ·have hd3 : decide ((hds.getD i default).cls ≥ 0) = true := decide_eq_true hq
   have hd4 : decide (0 ≤ (hds.getD i default).cls) = true := decide_eq_true hq
   rw [if_pos hq] at hs1
   refine we1 trivial ?_
   clear hd1 hd2 hd3 hd4
   exact y8 (i' := i + 1) [some 0, some 1, some 2, some 3, some 4, some 5, some 8] [] (by trivial)
  ·have hd3 : decide ((hds.getD i default).cls ≥ 0) = false := decide_eq_false hq
   have hd4 : decide (0 ≤ (hds.getD i default).cls) = false := decide_eq_false hq
   rw [if_neg hq, List.append_nil] at hs1
   refine we1 trivial ?_
   clear hd1 hd2 hd3 hd4
   exact y8 (i' := i + 1) [some 0, some 1, some 2, some 3, some 4, some 5, some 6] [] (by trivial)
 ·obtain rfl : i = hds.length := by omega
  have hd1 : decide ((hds.length : Int) < (hds.length : Int)) = false := by simp
  have hd2 : decide (hds.length < hds.length) = false := by simp
  have hl1 := hhl hds.length
  clear hsc hhl
  generalize Q7 hds hds.length = H at *
  rcases hE8 with ⟨hz, e1, e2⟩ | ⟨hz, b, d7, s7, ⟨hb, e1, e2⟩ | ⟨hb, r, hr, s8, e1⟩⟩
  ·have hd5 : decide ((H.length : Int) > 0) = false := by rw [hz]; rfl
   have hd6 : decide (0 < H.length) = false := by rw [hz]; rfl
   subst e1 e2
   refine we1 trivial ?_
   refine ⟨[Per.enc ⟨nm, s0, no, -1, bo⟩], [some 0, some 1, some 2], [], ⟨(by simp only [W0, go_sem]), trivial⟩, ?_⟩
   simp only [go_sem, *]
  ·have hd5 : decide ((H.length : Int) > 0) = true := decide_eq_true (by omega)
   have hd6 : decide (0 < H.length) = true := decide_eq_true hz
   subst e1 e2 hb
   refine we1 (own [0] (s7)) ?_
   refine ⟨[Per.enc ⟨nm, s0, no, -1, bo⟩], [some 0, some 1, some 2], [], ⟨(by simp only [W0, go_sem]), trivial⟩, ?_⟩
   simp only [go_sem, *]
  ·have hd5 : decide ((H.length : Int) > 0) = true := decide_eq_true (by omega)
   have hd6 : decide (0 < H.length) = true := decide_eq_true hz
   have hw2 : IntKind.i64.wrap ((H.length : Int) - 1) = (H.length : Int) - 1 := wrap_i64 (by omega) (by omega)
   have hg : (H.map pnV).getD r AV.any = pnV (H.getD r 0) := by simp [List.getD, hr]
   subst e1 hb
   generalize H.getD r 0 = x at *
   refine we1 (cc (own [0] (s7)) (own [0] (s8))) ?_
   refine ⟨[Per.enc ⟨nm, s0, no, x, bo⟩], [some 0, some 1, some 2], [], ⟨(by simp only [W0, go_sem]), trivial⟩, ?_⟩
   simp only [go_sem, *]
end Go.Abs

namespace Go.Abs
open Go Go.Proofs Tryz
variable [Cur]
def V3 (r : List Rule) (i : Nat) : List Rule := (r.take i).filter fun x => !decide (x.src = x.dst)
theorem zGn (r : List Rule) (i : Nat) : (V3 r i).length ≤ i := by
 unfold V3
 have := List.length_filter_le (fun x : Rule => !decide (x.src = x.dst)) (r.take i)
 simp only [List.length_take] at this
 omega
theorem zNn (r : List Rule) (i : Nat) (hi : i < r.length) : V3 r (i + 1) = V3 r i ++ if (r.getD i default).src = (r.getD i default).dst then [] else [r.getD i default] := by
 unfold V3
 have e : r.take (i + 1) = r.take i ++ [r.getD i default] := by
  rw [List.take_succ_eq_append_getElem hi]
  simp [List.getD, hi]
 rw [e, List.filter_append, List.filter_cons, List.filter_nil]
 by_cases h : (r.getD i default).src = (r.getD i default).dst <;> simp [h]
theorem zNm {r : List Rule} {i : Nat} {x : Rule} (h : x ∈ V3 r i) : x ∈ r := List.mem_of_mem_take (List.mem_filter.1 h).1
theorem zDW {r : List Rule} (h : p8 r = 0) : r.length ≤ 4 ∧ ∀ x, x ∈ r → x.ok = true := by
 unfold p8 at h
 split at h
 ·omega
 split at h
 ·exact ⟨by omega, fun x hx => List.all_eq_true.1 (by assumption) x hx⟩
 ·omega
theorem zNl {r : List Rule} {i : Nat} (h : p8 r = 0) : p8 (V3 r i) = 0 := by
 obtain ⟨h1, h2⟩ := zDW h
 unfold p8
 have hl : (V3 r i).length ≤ r.length := by
  unfold V3
  have := List.length_filter_le (fun x : Rule => !decide (x.src = x.dst)) (r.take i)
  simp only [List.length_take] at this
  omega
 rw [if_neg (by omega), if_pos]
 exact List.all_eq_true.2 fun x hx => h2 x (zNm hx)
theorem zNk {x : Rule} (h : x.ok = true) : x.src.length ≤ 2 ∧ x.dst.length ≤ 2 := by
 unfold Rule.ok x6 at h
 simp only [Bool.and_eq_true, decide_eq_true_eq] at h
 omega
theorem zRP {r : List Rule} (hr : p8 r = 0) {a b : Str} (va : ValidN a) (vb : ValidN b) : zBA r a b = 0 := by
 unfold zBA
 rcases zJe hr va vb with h | h
 ·rw [h.1]; rfl
 ·rw [h.1]; rfl
def zVj (tr : Trd) (st wd rw_ : Int) (R : List Rule) (ns : List Str) (i : Nat) (s s' : List Per × Dice) : Prop :=
 ∃ (p : Per) (d1 : Dice), zUL prog 25 [.ptr 0 0, .agg [iV st, iV wd, iV rw_, u1 tr.cls, u3 tr.hds, .own 1 2 0 R.length, .own 2 5 0 i], sV (ns.getD i default)] [y3 s.2, .row 2 (R.map Rule.enc), .row 5 (s.1.map Per.enc)] p.enc [y3 d1, .row 2 (R.map Rule.enc), .row 5 (s.1.map Per.enc)] ∧
  ((i = 0 ∧ s' = (s.1 ++ [p], d1)) ∨ (0 < i ∧ ∃ (b : Bool) (d2 : Dice), zUL prog 26 [.ptr 0 0, iV 4] [y3 d1] (bV b) [y3 d2] ∧
   ((b = false ∧ s' = (s.1 ++ [p], d2)) ∨ (b = true ∧ ∃ (k : Nat) (d3 : Dice), k < i ∧ zUL prog 27 [.ptr 0 0, iV ((i : Int) - 1)] [y3 d2] (iV k) [y3 d3] ∧
    ∃ (b2 : Bool) (d4 : Dice), zUL prog 26 [.ptr 0 0, iV 2] [y3 d3] (bV b2) [y3 d4] ∧ s' = (s.1 ++ [if b2 = true then ⟨ns.getD i default, (s.1.getD k default).street, (s.1.getD k default).number, (s.1.getD k default).head, (s.1.getD k default).bold⟩ else s.1.getD k default], d4)))))
theorem zNO (tr : Trd) (st wd rw_ : Int) (hst : 1 ≤ st ∧ st ≤ 3) (hh : tr.hds.length ≤ 1000) (R : List Rule) (ns : List Str) (hv : ∀ s, s ∈ ns → ValidN s) (d : Dice) (hd : DOk d) (n : Nat) (hn : n ≤ ns.length) (h1000 : n ≤ 1000) :
  ∃ q : Nat → List Per × Dice, q 0 = ([], d) ∧ (∀ i, i < n → zVj tr st wd rw_ R ns i (q i) (q (i + 1))) ∧ ∀ i, i ≤ n → (q i).1.length = i ∧ (∀ p, p ∈ (q i).1 → PerM tr st p ∧ ValidN p.name) ∧ DOk (q i).2 :=
 zA0 (S := List Per × Dice) n ([], d) (zVj tr st wd rw_ R ns) (fun i s => s.1.length = i ∧ (∀ p, p ∈ s.1 → PerM tr st p ∧ ValidN p.name) ∧ DOk s.2) ⟨rfl, fun p hp => (by cases hp), hd⟩ (fun i s hi ⟨h1, h2, h3⟩ => by
  have hx : ns.getD i default ∈ ns := u5 (by omega)
  obtain ⟨p, d1, sp, pm, pn, hd1⟩ := zKB s.2 h3 tr st wd rw_ hst hh (ns.getD i default) (R.map Rule.enc) (s.1.map Per.enc) R.length i
  have key : ∀ (p' : Per) (d' : Dice), zVj tr st wd rw_ R ns i s (s.1 ++ [p'], d') → PerM tr st p' ∧ ValidN p'.name → DOk d' → ∃ s', zVj tr st wd rw_ R ns i s s' ∧ s'.1.length = i + 1 ∧ (∀ p, p ∈ s'.1 → PerM tr st p ∧ ValidN p.name) ∧ DOk s'.2 := fun p' d' hR hp' hd' =>
   ⟨_, hR, by simp [h1], fun x hx => by
    have hx : x ∈ s.1 ++ [p'] := hx
    rcases List.mem_append.1 hx with hx | hx
    ·exact h2 x hx
    ·rw [List.mem_singleton.1 hx]; exact hp', hd'⟩
  have hp : PerM tr st p ∧ ValidN p.name := ⟨pm, by rw [pn]; exact hv _ hx⟩
  by_cases h0 : i = 0
  ·exact key p d1 ⟨p, d1, sp, .inl ⟨h0, rfl⟩⟩ hp hd1
  ·obtain ⟨b, d2, so, hd2⟩ := E0 d1 4 hd1 (by omega)
   cases b
   ·exact key p d2 ⟨p, d1, sp, .inr ⟨by omega, false, d2, so, .inl ⟨rfl, rfl⟩⟩⟩ hp hd2
   ·obtain ⟨k, d3, s3, hk, _, hd3⟩ := E1 d2 ((i : Int) - 1) hd2 (by omega)
    have hk := hk (by omega)
    obtain ⟨b2, d4, s4, hd4⟩ := E0 d3 2 hd3 (by omega)
    have hm : s.1.getD k default ∈ s.1 := u5 (by omega)
    have hmm := h2 _ hm
    refine key _ d4 ⟨p, d1, sp, .inr ⟨by omega, true, d2, so, .inr ⟨rfl, k, d3, by omega, s3, b2, d4, s4, rfl⟩⟩⟩ ?_ hd4
    cases b2
    ·exact hmm
    ·exact ⟨⟨hmm.1.st, hmm.1.no, hmm.1.hd⟩, hv _ hx⟩)
structure VolM (v : Vol) : Prop where
 st : 1 ≤ v.streets ∧ v.streets ≤ 2
 wd : 1 ≤ v.width ∧ v.width ≤ 13
 rw_ : 3 ≤ v.rows ∧ v.rows ≤ 8
 tr : P8 v.tr = 0
 also : ∀ h, h ∈ v.tr.hds → h.also.length ≤ 4294967296
 rl : p8 v.rules = 0
 pl : v.people.length ≤ 6
 pe : ∀ p, p ∈ v.people → PerM v.tr v.streets p ∧ ValidN p.name
theorem zH4 : ValidN [97] := by
 rw [← checkN_zero]; decide
theorem PerM.err {v : Vol} (m : VolM v) {p : Per} (hp : PerM v.tr v.streets p) (hv : ValidN p.name) : N3 v p = 0 := by
 unfold N3
 have h1 := hp.st
 have h2 := hp.no
 have h3 := hp.hd
 rw [if_neg (by rw [checkN_zero.2 hv]; simp), if_neg (by rw [F0 (by omega) (by omega)]; simp), if_neg (by rw [F0 (by omega) (by omega)]; simp), if_neg (by rw [F0 (by omega) (by omega)]; simp), if_neg]
 rintro ⟨h4, h5⟩
 rcases h3 with h3 | ⟨_, _, h3⟩ <;> omega
theorem VolM.ok {v : Vol} (m : VolM v) : VolOK v where
 st := by have := m.st; omega
 wd := m.wd
 rw := m.rw_
 tr := m.tr
 also := m.also
 rl := by have := (zDW m.rl).1; omega
 rs := fun x hx => by have := zNk ((zDW m.rl).2 x hx); omega
 ve := zRP m.rl zH4 zH4
 pl := m.pl
 pe := fun p hp => PerM.err m (m.pe p hp).1 (m.pe p hp).2
end Go.Abs

namespace Go.Abs
open Go Go.Proofs Tryz
attribute [local irreducible] q9 Hold y2
variable [Cur]
theorem zKE (d : Dice) (h : DOk d) : ∃ (v : Vol) (d' : Dice), zUL prog 6 [.ptr 0 0, iV 6] [y3 d] (.agg [iV v.streets, iV v.width, iV v.rows, u1 v.tr.cls, u3 v.tr.hds, .own 1 2 0 v.rules.length, .own 2 5 0 v.people.length])
  [y3 d', .row 2 (v.rules.map Rule.enc), .row 5 (v.people.map Per.enc)] ∧ VolM v ∧ DOk d' := by
 obtain ⟨st, d1, c1, hst, hd1⟩ := O5 d 1 2 h (by omega) (by omega)
 obtain ⟨w1, d2, c2, hw1, hd2⟩ := O5 d1 3 8 hd1 (by omega) (by omega)
 obtain ⟨w2, d3, c3, hw2, hd3⟩ := O5 d2 5 13 hd2 (by omega) (by omega)
 obtain ⟨w3, d4, c4, hw3, hd4⟩ := O5 d3 1 13 hd3 (by omega) (by omega)
 obtain ⟨wd, d5, c5, hwd, hd5⟩ := zCa d4 [w1, w2, w3] hd4 (by simp) (by simp)
 obtain ⟨r1, d6, c6, hr1, hd6⟩ := O5 d5 3 8 hd5 (by omega) (by omega)
 obtain ⟨rw_, d7, c7, hrw, hd7⟩ := zCa d6 [3, 4, 5, r1] hd6 (by simp) (by simp)
 obtain ⟨tr, d8, c8, htr, hal, htc, hd8⟩ := zKD d7 hd7 3 4 (by omega) (by omega)
 obtain ⟨ru, d9, c9, hru, hrl, hd9⟩ := zKC d8 2 hd8 (by omega)
 obtain ⟨ns, d10, c10, hns, hnl, hd10⟩ := zJ8 d9 6 5 hd9 (by omega) (by omega)
 obtain ⟨q, q0, qR, qG⟩ := zNO tr st wd rw_ (by omega) (by have := zA9 htr; omega) (V3 ru ru.length) ns hns d10 hd10 ns.length (Nat.le_refl _) (by omega)
 obtain ⟨qn1, qn2, hd11⟩ := qG ns.length (Nat.le_refl _)
 refine ⟨⟨st, wd, rw_, tr, V3 ru ru.length, (q ns.length).1⟩, (q ns.length).2, ?_, ⟨hst, ?_, ?_, htr, hal, zNl hru, by show (q ns.length).1.length ≤ 6; omega, qn2⟩, hd11⟩
 rotate_left 1
 ·show 1 ≤ wd ∧ wd ≤ 13
  simp only [List.mem_cons, List.not_mem_nil, or_false] at hwd
  rcases hwd with rfl | rfl | rfl <;> omega
 ·show 3 ≤ rw_ ∧ rw_ ≤ 8
  simp only [List.mem_cons, List.not_mem_nil, or_false] at hrw
  rcases hrw with rfl | rfl | rfl | rfl <;> omega
 have hql : ∀ i, i ≤ ns.length → (q i).1.length = i := fun i hi => (qG i hi).1
 have hn6 : ns.length ≤ 6 := by omega
 have hr2 : ru.length ≤ 2 := by omega
 clear qG qn1 qn2 hd1 hd2 hd3 hd4 hd5 hd6 hd7 hd8 hd9 hd10 hd11 hwd hrw hst hw1 hw2 hw3 hr1 hal htc hru hns hnl hrl
 have hm3 : AV.list ([w1, w2, w3].map iV) = .list [iV w1, iV w2, iV w3] := rfl
 have hm4 : AV.list ([3, 4, 5, r1].map iV) = .list [iV 3, iV 4, iV 5, iV r1] := rfl
 rw [hm3] at c5
 rw [hm4] at c7
 clear hm3 hm4
 have h3 : ((3 : Nat) : Int) = 3 := rfl
 have h4 : ((4 : Nat) : Int) = 4 := rfl
 rw [h3, h4] at c8
 obtain ⟨cls, hds⟩ := tr
 simp only at *
 refine z9 func6 rfl (fun E hE => ?_); simp only [go_sem, ntmps6]
 repeat' (first | (refine Qr rfl ?_; try intro _ hK; try simp only [go_sem, *]) | (refine Qi rfl rfl rfl rfl ?_ ?_ <;> (intro hb; (try intro _ hK); have hc := hb; try simp only [go_sem] at hc; simp only [go_sem, *])) | refine Qh rfl ?_ | refine Qd rfl (by kernel_rfl) ?_ | (refine Qc rfl rfl ?_ ?_ <;> (intro hb; have hc := hb; try simp only [go_sem] at hc)) | refine z8 rfl ?_ | (with_reducible (show (∀ _ : AV, _ → _) ∧ _); refine wel ?_) | (refine Qb ?_ ?_; focus kernel_rfl) | (refine x7 [0] [] (c1) (by simp) ?_ ?_ (by simp) (.inl rfl) ?_ ?_ ?_; (iterate 2 (focus (simp only [go_sem, *]; done))); (iterate 2 (focus (first | (simp; done) | (simp [go_sem]; done)))); simp only [go_sem, *]) | (refine x7 [0] [] (c2) (by simp) ?_ ?_ (by simp) (.inl rfl) ?_ ?_ ?_; (iterate 2 (focus (simp only [go_sem, *]; done))); (iterate 2 (focus (first | (simp; done) | (simp [go_sem]; done)))); simp only [go_sem, *]) | (refine x7 [0] [] (c3) (by simp) ?_ ?_ (by simp) (.inl rfl) ?_ ?_ ?_; (iterate 2 (focus (simp only [go_sem, *]; done))); (iterate 2 (focus (first | (simp; done) | (simp [go_sem]; done)))); simp only [go_sem, *]) | (refine x7 [0] [] (c4) (by simp) ?_ ?_ (by simp) (.inl rfl) ?_ ?_ ?_; (iterate 2 (focus (simp only [go_sem, *]; done))); (iterate 2 (focus (first | (simp; done) | (simp [go_sem]; done)))); simp only [go_sem, *]) | ((with_reducible apply And.intro); focus omega) | (refine z7 hK ?_; clear hK; simp only [go_sem, *]) | simp only [z6, z5, go_sem, *])
 all_goals try contradiction
 refine M5 [0] [2] c5 rfl (by simp only [go_sem]) (by simp) ?_ ?_ (by simp [go_sem]) (by simp [go_sem]) ?_
 ·simp only [go_sem, *]
 ·simp only [go_sem, *]
 simp only [go_sem, w5, *]
 repeat' (first | (refine Qr rfl ?_; try intro _ hK; try simp only [go_sem, *]) | (refine Qi rfl rfl rfl rfl ?_ ?_ <;> (intro hb; (try intro _ hK); have hc := hb; try simp only [go_sem] at hc; simp only [go_sem, *])) | refine Qh rfl ?_ | refine Qd rfl (by kernel_rfl) ?_ | (refine Qc rfl rfl ?_ ?_ <;> (intro hb; have hc := hb; try simp only [go_sem] at hc)) | refine z8 rfl ?_ | (with_reducible (show (∀ _ : AV, _ → _) ∧ _); refine wel ?_) | (refine Qb ?_ ?_; focus kernel_rfl) | (refine u9 [0] (c6) ?_; simp only [go_sem, *]) | ((with_reducible apply And.intro); focus omega) | (refine z7 hK ?_; clear hK; simp only [go_sem, *]) | simp only [z6, z5, go_sem, *])
 all_goals try contradiction
 refine M5 [0] [3] c7 rfl (by simp only [go_sem]) (by simp) ?_ ?_ (by simp [go_sem]) (by simp [go_sem]) ?_
 ·simp only [go_sem, *]
 ·simp only [go_sem, *]
 simp only [go_sem, w5, *]
 repeat' (first | (refine Qr rfl ?_; try intro _ hK; try simp only [go_sem, *]) | (refine Qi rfl rfl rfl rfl ?_ ?_ <;> (intro hb; (try intro _ hK); have hc := hb; try simp only [go_sem] at hc; simp only [go_sem, *])) | refine Qh rfl ?_ | refine Qd rfl (by kernel_rfl) ?_ | (refine Qc rfl rfl ?_ ?_ <;> (intro hb; have hc := hb; try simp only [go_sem] at hc)) | refine z8 rfl ?_ | (with_reducible (show (∀ _ : AV, _ → _) ∧ _); refine wel ?_) | (refine Qb ?_ ?_; focus kernel_rfl) | (refine u9 [0] (c8) ?_; simp only [go_sem, *]) | ((with_reducible apply And.intro); focus omega) | (refine z7 hK ?_; clear hK; simp only [go_sem, *]) | simp only [z6, z5, go_sem, *])
 all_goals try contradiction
 refine x7 [0] [] c8 (by simp) (by simp only [go_sem, *]) (by simp only [go_sem, *]) (by simp) (.inl rfl) (fun j hj => ?_) (by simp [go_sem]) ?_
 ·have hj : j < 2 := hj
  rcases j with _ | _ | j
  ·rfl
  ·rfl
  ·omega
 simp only [go_sem, *]
 clear c1 c2 c3 c4 c5 c6 c7 c8
 repeat' (first | (refine Qr rfl ?_; try intro _ hK; try simp only [go_sem, *]) | (refine Qi rfl rfl rfl rfl ?_ ?_ <;> (intro hb; (try intro _ hK); have hc := hb; try simp only [go_sem] at hc; simp only [go_sem, *])) | refine Qh rfl ?_ | refine Qd rfl (by kernel_rfl) ?_ | (refine Qc rfl rfl ?_ ?_ <;> (intro hb; have hc := hb; try simp only [go_sem] at hc)) | refine z8 rfl ?_ | (with_reducible (show (∀ _ : AV, _ → _) ∧ _); refine wel ?_) | (refine Qb ?_ ?_; focus kernel_rfl) | (refine u9 [0] (c9) ?_; simp only [go_sem, *]) | ((with_reducible apply And.intro); focus omega) | (refine z7 hK ?_; clear hK; simp only [go_sem, *]) | simp only [z6, z5, go_sem, *])
 all_goals try contradiction
 have hr0 : V3 ru 0 = [] := rfl
 clear c9
 refine x8 rfl (ru.length) (fun i => NoT i) 102 (fun i => [(7, iV i), (6, .own 3 2 0 ru.length), (5, .ptr 2 0), (4, .ptr 1 0), (0, .ptr 0 0), (1, iV 6)]) (fun i => [y3 d9, .box [.any, .any, .any, .any, .any, .any, .any], .box [iV st, iV wd, iV rw_, u1 cls, u3 hds, .own 4 2 0 (V3 ru i).length, zUp], .row 2 (ru.map Rule.enc), .row 2 ((V3 ru i).map Rule.enc)]) [some 0, some 1, some 6, some 7, none] [4, 5] (by trivial) ?_; intro i hi hP
 clear hr0
 rcases Nat.lt_or_ge i ru.length with hi2 | hi2
 ·have hs1 := zNn ru i hi2
  have hl1 := zGn ru i
  have hd1 : decide ((i : Int) < (ru.length : Int)) = true := by simp; omega
  have hd2 : decide (i < ru.length) = true := by simp; omega
  have hg : (ru.map Rule.enc).getD i AV.any = Rule.enc (ru.getD i default) := by simp [List.getD, hi2]
  clear c10 qR q0 hql
  generalize ru.getD i default = x at *
  obtain ⟨xs, xd⟩ := x
  simp only at hs1
  by_cases hq : xs = xd
  ·have hb1 : (xs == xd) = true := by simp [hq]
   rw [if_pos hq, List.append_nil] at hs1
   clear hq
   refine we1 trivial ?_
   clear hd1 hd2 hg hb1
   exact y8 (i' := i + 1) [some 0, some 1, some 2, some 3, some 4] [] (by trivial)
  ·have hb1 : (xs == xd) = false := by simp [hq]
   rw [if_neg hq] at hs1
   clear hq
   refine we1 trivial ?_
   clear hd1 hd2 hg hb1
   exact y8 (i' := i + 1) [some 0, some 1, some 2, some 3, some 6] [] (by trivial)
 ·obtain rfl : i = ru.length := by omega
  have hd1 : decide ((ru.length : Int) < (ru.length : Int)) = false := by simp
  have hd2 : decide (ru.length < ru.length) = false := by simp
  have hRl := zGn ru ru.length
  clear hP hi2 hi
  generalize V3 ru ru.length = R at *
  refine we1 (own [0] (c10)) ?_
  clear c10 hd1 hd2
  refine x8 rfl (ns.length) (fun i => NoT i) 102 (fun i => [(9, iV i), (8, .own 4 1 0 ns.length), (5, .ptr 2 0), (4, .ptr 1 0), (0, .ptr 0 0)]) (fun i => [y3 (q i).2, .box [.any, .any, .any, .any, .any, .any, .any], .box [iV st, iV wd, iV rw_, u1 cls, u3 hds, .own 3 2 0 R.length, .own 5 5 0 i], .row 2 (R.map Rule.enc), .row 1 (ns.map sV), .row 5 ((q i).1.map Per.enc)]) [some 0, some 1, some 2, some 4, some 5, none] [] (by trivial) ?_; intro i hi hP
  clear q0
  rcases Nat.lt_or_ge i ns.length with hi2 | hi2
  ·obtain ⟨p, da, sp, hR⟩ := qR i hi2
   have hqi := hql i hi
   obtain ⟨l, dl, hg1⟩ : ∃ l dl, q i = (l, dl) := ⟨_, _, rfl⟩
   obtain ⟨l', db, hg2⟩ : ∃ l' db, q (i + 1) = (l', db) := ⟨_, _, rfl⟩
   rw [hg1] at hqi sp hR ⊢
   rw [hg2] at hR
   simp only at hqi sp hR ⊢
   have hd1 : decide ((i : Int) < (ns.length : Int)) = true := by simp; omega
   have hd2 : decide (i < ns.length) = true := by simp; omega
   have hg : (ns.map sV).getD i AV.any = sV (ns.getD i default) := by simp [List.getD, hi2]
   generalize ns.getD i default = nm at *
   clear qR hql
   rcases hR with ⟨h0, hs⟩ | ⟨h0, b, d2', s4, ⟨hb, hs⟩ | ⟨hb, k, d3', hk, s5, b2, d4', s6, hs⟩⟩
   ·subst h0
    replace hs := Prod.mk.inj hs
    obtain ⟨e1, e2⟩ := hs
    subst e1 e2
    have hw01 : IntKind.i64.wrap 1 = 1 := rfl
    have hl0 : l = [] := List.eq_nil_of_length_eq_zero hqi
    subst hl0
    clear hqi
    refine we1 (own [0, 3, 5] (sp)) ?_
    clear hd1 hd2 hg
    exact y8 (i' := 0 + 1) [some 0, some 1, some 2, some 3, some 4, some 8] [] (by trivial)
   ·replace hs := Prod.mk.inj hs
    obtain ⟨e1, e2⟩ := hs
    subst e1 e2 hb
    have hd3 : decide ((i : Int) > 0) = true := decide_eq_true (by omega)
    have hd4 : decide (0 < i) = true := decide_eq_true h0
    refine we1 (cc (own [0, 3, 5] (sp)) (own [0] (s4))) ?_
    clear hd1 hd2 hd3 hd4 hg
    exact y8 (i' := i + 1) [some 0, some 1, some 2, some 3, some 4, some 8] [] (by trivial)
   ·replace hs := Prod.mk.inj hs
    obtain ⟨e1, e2⟩ := hs
    subst e2 hb
    have hd3 : decide ((i : Int) > 0) = true := decide_eq_true (by omega)
    have hd4 : decide (0 < i) = true := decide_eq_true h0
    have hw1 : IntKind.i64.wrap ((i : Int) - 1) = (i : Int) - 1 := wrap_i64 (by omega) (by omega)
    have hgk : (l.map Per.enc).getD k AV.any = Per.enc (l.getD k default) := by simp [List.getD, show k < l.length by omega]
    generalize l.getD k default = y at *
    cases b2
    ·simp only [Bool.false_eq_true, if_false] at e1
     subst e1
     repeat' (first | (refine Qr rfl ?_; try intro _ hK; try simp only [go_sem, *]) | (refine Qi rfl rfl rfl rfl ?_ ?_ <;> (intro hb; (try intro _ hK); have hc := hb; try simp only [go_sem] at hc; simp only [go_sem, *])) | refine Qh rfl ?_ | refine Qd rfl (by kernel_rfl) ?_ | (refine Qc rfl rfl ?_ ?_ <;> (intro hb; have hc := hb; try simp only [go_sem] at hc)) | refine z8 rfl ?_ | (with_reducible (show (∀ _ : AV, _ → _) ∧ _); refine wel ?_) | (refine Qb ?_ ?_; focus kernel_rfl) | (refine x7 [0, 3, 5] [] (sp) (by simp) ?_ ?_ (by simp) (.inl rfl) ?_ ?_ ?_; (iterate 2 (focus (simp only [go_sem, *]; done))); (iterate 2 (focus (first | (simp; done) | (simp [go_sem]; done)))); simp only [go_sem, *]) | (refine x7 [0] [] (s4) (by simp) ?_ ?_ (by simp) (.inl rfl) ?_ ?_ ?_; (iterate 2 (focus (simp only [go_sem, *]; done))); (iterate 2 (focus (first | (simp; done) | (simp [go_sem]; done)))); simp only [go_sem, *]) | (refine x7 [0] [] (s5) (by simp) ?_ ?_ (by simp) (.inl rfl) ?_ ?_ ?_; (iterate 2 (focus (simp only [go_sem, *]; done))); (iterate 2 (focus (first | (simp; done) | (simp [go_sem]; done)))); simp only [go_sem, *]) | (refine x7 [0] [] (s6) (by simp) ?_ ?_ (by simp) (.inl rfl) ?_ ?_ ?_; (iterate 2 (focus (simp only [go_sem, *]; done))); (iterate 2 (focus (first | (simp; done) | (simp [go_sem]; done)))); simp only [go_sem, *]) | ((with_reducible apply And.intro); focus omega) | (refine z7 hK ?_; clear hK; simp only [go_sem, *]) | simp only [z6, z5, go_sem, *])
     all_goals try contradiction
     clear hd1 hd2 hd3 hd4 hg hgk
     exact y8 (i' := i + 1) [some 0, some 1, some 2, some 3, some 4, some 8] [] (by trivial)
    ·simp only [if_true] at e1
     subst e1
     repeat' (first | (refine Qr rfl ?_; try intro _ hK; try simp only [go_sem, *]) | (refine Qi rfl rfl rfl rfl ?_ ?_ <;> (intro hb; (try intro _ hK); have hc := hb; try simp only [go_sem] at hc; simp only [go_sem, *])) | refine Qh rfl ?_ | refine Qd rfl (by kernel_rfl) ?_ | (refine Qc rfl rfl ?_ ?_ <;> (intro hb; have hc := hb; try simp only [go_sem] at hc)) | refine z8 rfl ?_ | (with_reducible (show (∀ _ : AV, _ → _) ∧ _); refine wel ?_) | (refine Qb ?_ ?_; focus kernel_rfl) | (refine x7 [0, 3, 5] [] (sp) (by simp) ?_ ?_ (by simp) (.inl rfl) ?_ ?_ ?_; (iterate 2 (focus (simp only [go_sem, *]; done))); (iterate 2 (focus (first | (simp; done) | (simp [go_sem]; done)))); simp only [go_sem, *]) | (refine x7 [0] [] (s4) (by simp) ?_ ?_ (by simp) (.inl rfl) ?_ ?_ ?_; (iterate 2 (focus (simp only [go_sem, *]; done))); (iterate 2 (focus (first | (simp; done) | (simp [go_sem]; done)))); simp only [go_sem, *]) | (refine x7 [0] [] (s5) (by simp) ?_ ?_ (by simp) (.inl rfl) ?_ ?_ ?_; (iterate 2 (focus (simp only [go_sem, *]; done))); (iterate 2 (focus (first | (simp; done) | (simp [go_sem]; done)))); simp only [go_sem, *]) | (refine x7 [0] [] (s6) (by simp) ?_ ?_ (by simp) (.inl rfl) ?_ ?_ ?_; (iterate 2 (focus (simp only [go_sem, *]; done))); (iterate 2 (focus (first | (simp; done) | (simp [go_sem]; done)))); simp only [go_sem, *]) | ((with_reducible apply And.intro); focus omega) | (refine z7 hK ?_; clear hK; simp only [go_sem, *]) | simp only [z6, z5, go_sem, *])
     all_goals try contradiction
     clear hd1 hd2 hd3 hd4 hg hgk
     exact y8 (i' := i + 1) [some 0, some 1, some 2, some 3, some 4, some 8] [] (by trivial)
  ·obtain rfl : i = ns.length := by omega
   have hd1 : decide ((ns.length : Int) < (ns.length : Int)) = false := by simp
   have hd2 : decide (ns.length < ns.length) = false := by simp
   have hqi := hql ns.length hi
   clear qR hql
   refine we1 trivial ?_
   refine ⟨[.agg [iV st, iV wd, iV rw_, u1 cls, u3 hds, .own 3 2 0 R.length, .own 5 5 0 ns.length]], [some 0, some 3, some 5], [], ⟨(by simp only [W0, go_sem]), trivial⟩, ?_⟩
   simp only [go_sem, *]
end Go.Abs

namespace Go.Abs
open Go Go.Proofs Tryz
attribute [local irreducible] q9 Hold y2
attribute [local instance] T0
def TkF {α : Type} (f : α → Str) (l : List α) (i : Nat) (xs : List Str) : Prop := xs = (l.take i).map f ∧ xs.length = i ∧ i ≤ l.length
section
variable {α : Type} {f : α → Str} {l : List α} {i : Nat} {xs : List Str}
theorem TkF.zero : TkF f l 0 [] := ⟨by simp, rfl, Nat.zero_le _⟩
theorem TkF.step [Inhabited α] (h : TkF f l i xs) (hi : i < l.length) : TkF f l (i + 1) (xs ++ [f (l.getD i default)]) := by
 obtain ⟨rfl, h2, h3⟩ := h
 refine ⟨?_, by simp; omega, hi⟩
 rw [List.take_add_one, List.map_append]
 simp [List.getD, hi]
theorem TkF.done (h : TkF f l l.length xs) : xs = l.map f := by
 rw [h.1, List.take_length]
end
theorem zM4 {l : List Nat} (h : l.Nodup) {i : Nat} (hi : i < l.length) : l.getD i default ∉ l.take i := by
 intro hm
 obtain ⟨j, hj, e⟩ := List.getElem_of_mem hm
 have hj2 : j < i := by rw [List.length_take] at hj; omega
 rw [List.getElem_take] at e
 have e2 : l.getD i default = l[i] := by simp [List.getD, hi]
 rw [e2] at e
 exact List.pairwise_iff_getElem.1 h j i (by omega) hi hj2 e
theorem zWB {c : UInt8} (h : c ≠ 32) : ¬ (c.toNat : Int) = 32 := fun e => h (UInt8.toNat_inj.1 (show c.toNat = (32 : UInt8).toNat by have : (32 : UInt8).toNat = 32 := rfl; omega))
theorem zHH {s : Str} (v : ValidN s) : zUL prog 10 [sV s] [] (.tup [sV (zUN s), iV 0]) [] := by
 have := zOy s
 rwa [checkN_zero.2 v, if_pos rfl] at this
theorem zUC (nums : List Int) (h : nums.length ≤ 4294967296) : zUL prog 3 [E2 nums] [] (bV true) [] := by
 obtain ⟨d, c1, hd⟩ := zJ9 nums h
 obtain ⟨v, d', c2, m, hd'⟩ := zKE d hd
 have ok := m.ok
 have so := zHJ v ok
 have hOl := zGY v.people
 have hOt := fun i (hi : i < v.people.length) => zNE v.people hi
 have hOn := zNF v.people
 have hOs := zNG ok
 rw [hOl] at so
 obtain ⟨hv, h6⟩ := zD6 ok
 have hLl : (v.people.map Per.name).length = v.people.length := by simp
 have hLn : ∀ i, i < v.people.length → (v.people.map Per.name).getD i default = (v.people.getD i default).name := fun i hi => by simp [List.getD, hi]
 have hcol := fun i hi => zH6 ok (i := i) hi
 have hrow := fun i => zNi v i
 have sE0 := fun i hi q => zHE v i ok hi q
 have sE1 := fun i hi q => zOm v i ok hi q
 have sF := fun i : Nat => zDj (v.people.map Per.name) i v.width (by omega)
 have hfl := fun i hi => zFE ok (i := i) hi
 have hpl := ok.pl
 have sw := zPU
 have hS : (V9 v.people).map (fun i => (v.people.getD i default).name) = (V9 v.people).map fun i => (v.people.map Per.name).getD i default :=
  List.map_congr_left fun i hi => (hLn i (List.mem_range.1 ((zAC v.people).mem_iff.1 hi))).symm
 rw [hS] at hOs
 have sW := zPC ((V9 v.people).map fun i => (v.people.map Per.name).getD i default) (zDA (fun s hs => by
  obtain ⟨i, hi, rfl⟩ := List.mem_map.1 hs
  exact hv _ (u5 (by rw [hLl]; exact List.mem_range.1 ((zAC v.people).mem_iff.1 hi)))) (by simp only [List.length_map]; omega))
 rw [zRh hOs] at sW
 have hw0 : Z6 [] = .list [] := rfl
 rw [hw0] at sW
 clear hS hOs hw0 hd hd' m ok
 obtain ⟨st, wd, rw1, ⟨cls, hds⟩, rules, people⟩ := v
 simp only [Vol.enc, Trd.enc] at *
 have hO : T4 o9 zUa people = V9 people := rfl
 rw [hO] at so
 clear hO
 generalize V9 people = O at *
 generalize hL : people.map Per.name = L at *
 have hOk : List.take people.length (List.map pnV O) = List.map pnV O := List.take_of_length_le (by simp; omega)
 have hLk : List.take people.length (List.map sV L) = List.map sV L := List.take_of_length_le (by simp; omega)
 refine z9 func3 rfl (fun E hE => ?_); simp only [go_sem, ntmps3]
 repeat' (first | ((with_reducible refine M0 [0, 1, 1, 1] ?_)) | (refine Qr rfl ?_; try intro _ hK; try simp only [go_sem, *]) | (refine Qi rfl rfl rfl rfl ?_ ?_ <;> (intro hb; (try intro _ hK); have hc := hb; try simp only [go_sem] at hc; simp only [go_sem, *])) | refine Qh rfl ?_ | refine Qd rfl (by kernel_rfl) ?_ | (refine Qc rfl rfl ?_ ?_ <;> (intro hb; have hc := hb; try simp only [go_sem] at hc)) | refine z8 rfl ?_ | (with_reducible (show (∀ _ : AV, _ → _) ∧ _); refine wel ?_) | (refine Qb ?_ ?_; focus kernel_rfl) | (refine i3 (c1) ?_; simp only [go_sem, *]) | (refine u9 [0] (c2) ?_; simp only [go_sem, *]) | ((with_reducible apply And.intro); focus omega) | (refine z7 hK ?_; clear hK; simp only [go_sem, *]) | simp only [z6, z5, go_sem, *])
 all_goals try contradiction
 clear c1 c2
 refine ⟨?_⟩
 refine X5 (N := 258) (env := [(4, .ptr 0 0)]) (As := [.box [iV st, iV wd, iV rw1, u1 cls, u3 hds, x4 rules, f5 people]]) [some 3] [1, 2] (by (simp only [Weak, go_sem, List.map_append, List.map_set, *] <;> (try simp (disch := omega) only [u6]) <;> (try simp) <;> (try omega))) ?_
 refine we1 so ?_
 clear so
 refine Q8 rfl (people.length) (fun i (xs : List Str) => TkF Per.name people i xs) 258 (fun i xs => [(8, iV i), (7, .own 1 1 0 xs.length), (5, .list (O.map pnV)), (4, .ptr 0 0)]) (fun i xs => [.box [iV st, iV wd, iV rw1, u1 cls, u3 hds, x4 rules, f5 people], .row 1 (xs.map sV)]) [some 0, none] [1] ([]) (by exact .zero) ?_; intro i xs hi hP
 rcases Nat.lt_or_ge i people.length with hi2 | hi2
 ·have hd1 : decide ((i : Int) < (people.length : Int)) = true := by simp; omega
  have hd2 : decide (i < people.length) = true := by simp; omega
  have hst := hP.step hi2
  have hxl := hP.2.1
  have hxb : xs.length ≤ 6 := by omega
  clear hxl hcol hrow sE0 sE1 sF sw sW hOt hOn hfl hLn
  generalize hpe : people.getD i default = p at *
  obtain ⟨pn, ps, pu, ph, pb⟩ := p
  refine we1 trivial ?_
  clear hd1 hd2
  exact r7 (i' := i + 1) [some 0, some 3] [] (xs ++ [pn]) (by exact hst)
 ·obtain rfl : i = people.length := by omega
  have hd1 : decide ((people.length : Int) < (people.length : Int)) = false := by simp
  have hd2 : decide (people.length < people.length) = false := by simp
  have hx : L = xs := (hP.done.trans hL).symm
  subst hx
  clear hP hL hLn hi hi2
  refine we1 trivial ?_
  clear hd1 hd2
  refine x8 rfl (people.length) (fun i => NoT i) 258 (fun i => [(9, iV i), (7, .list (L.map sV)), (5, .list (O.map pnV)), (4, .ptr 0 0)]) (fun i => [.box [iV st, iV wd, iV rw1, u1 cls, u3 hds, x4 rules, f5 people]]) [some 0] [1] (by trivial) ?_; intro i hi hP
  rcases Nat.lt_or_ge i people.length with hi2 | hi2
  ·have hd1 : decide ((i : Int) < (people.length : Int)) = true := by simp; omega
   have hd2 : decide (i < people.length) = true := by simp; omega
   have hx := hOt i hi2
   have hni := zM4 hOn (show i < O.length by omega)
   have sx := zHQ (O.getD i default) (O.take i) (by rw [List.length_take]; omega)
   rw [List.map_take] at sx
   have hid : ¬ 0 ≤ zUf (O.getD i default) (O.take i) := fun h => hni (idxN_ge.1 h)
   generalize zUf (O.getD i default) (O.take i) = ix at *
   have hd3 : decide (ix ≥ 0) = false := by simp; omega
   have hd4 : decide (0 ≤ ix) = false := by simp; omega
   have hd5 : decide (((O.getD i default : Nat) : Int) < 0) = false := decide_eq_false (by omega)
   have hd6 : decide (((O.getD i default : Nat) : Int) ≥ (people.length : Int)) = false := decide_eq_false (by omega)
   have hd7 : decide (people.length ≤ O.getD i default) = false := decide_eq_false (by omega)
   clear hcol hrow sE0 sE1 sF sw sW hOt hOn hfl hni hid hv
   generalize hxe : O.getD i default = x at *
   refine we1 sx ?_
   clear hd1 hd2 hd3 hd4 hd5 hd6 hd7
   exact y8 (i' := i + 1) [some 0] [] (by trivial)
  ·obtain rfl : i = people.length := by omega
   have hd1 : decide ((people.length : Int) < (people.length : Int)) = false := by simp
   have hd2 : decide (people.length < people.length) = false := by simp
   clear hP hi hi2
   refine we1 trivial ?_
   clear hd1 hd2
   refine Q8 rfl (people.length) (fun i (xs : List Str) => TkF (fun k => L.getD k default) O i xs) 258 (fun i xs => [(11, iV i), (10, .own 1 1 0 xs.length), (7, .list (L.map sV)), (5, .list (O.map pnV)), (4, .ptr 0 0)]) (fun i xs => [.box [iV st, iV wd, iV rw1, u1 cls, u3 hds, x4 rules, f5 people], .row 1 (xs.map sV)]) [some 0, none] [] ([]) (by exact .zero) ?_; intro i xs hi hP
   rcases Nat.lt_or_ge i people.length with hi2 | hi2
   ·have hd1 : decide ((i : Int) < (people.length : Int)) = true := by simp; omega
    have hd2 : decide (i < people.length) = true := by simp; omega
    have hx := hOt i hi2
    have hst : TkF (fun k => L.getD k default) O (i + 1) (xs ++ [L.getD (O.getD i default) default]) := hP.step (by omega)
    have hxl := hP.2.1
    have hxb : xs.length ≤ 6 := by omega
    clear hxl hcol hrow sE0 sE1 sF sw sW hOt hOn hfl hv hP
    generalize hxe : O.getD i default = x at *
    generalize hye : L.getD x default = y at *
    refine we1 trivial ?_
    clear hd1 hd2
    exact r7 (i' := i + 1) [some 0, some 3] [] (xs ++ [y]) (by exact hst)
   ·obtain rfl : i = people.length := by omega
    have hd1 : decide ((people.length : Int) < (people.length : Int)) = false := by simp
    have hd2 : decide (people.length < people.length) = false := by simp
    rw [← hOl] at hP
    have hxe := hP.done
    rw [← hxe] at sW
    have hxl : xs.length = people.length := hP.2.1.trans hOl
    have hXk : List.take people.length (List.map sV xs) = List.map sV xs := List.take_of_length_le (by simp; omega)
    clear hP hi hi2 hxe hOt hOn
    repeat' (first | ((with_reducible refine M0 [0, 0, 1, 1, 1, 1, 1, 1, 1, 1, 1, 1] ?_)) | (refine Qr rfl ?_; try intro _ hK; try simp only [go_sem, *]) | (refine Qi rfl rfl rfl rfl ?_ ?_ <;> (intro hb; (try intro _ hK); have hc := hb; try simp only [go_sem] at hc; simp only [go_sem, *])) | refine Qh rfl ?_ | refine Qd rfl (by kernel_rfl) ?_ | (refine Qc rfl rfl ?_ ?_ <;> (intro hb; have hc := hb; try simp only [go_sem] at hc)) | refine z8 rfl ?_ | (with_reducible (show (∀ _ : AV, _ → _) ∧ _); refine wel ?_) | (refine Qb ?_ ?_; focus kernel_rfl) | ((with_reducible apply And.intro); focus omega) | (refine z7 hK ?_; clear hK; simp only [go_sem, *]) | simp only [z6, z5, go_sem, *])
    all_goals try contradiction
    clear hd1 hd2
    refine ⟨?_⟩
    refine X5 (N := 258) (env := [(10, .list (xs.map sV)), (7, .list (L.map sV)), (4, .ptr 0 0)]) (As := [.box [iV st, iV wd, iV rw1, u1 cls, u3 hds, x4 rules, f5 people]]) [some 0] [1] (by (simp only [Weak, go_sem, List.map_append, List.map_set, *] <;> (try simp (disch := omega) only [u6]) <;> (try simp) <;> (try omega))) ?_
    clear hxl hXk
    simp only [y4] at sW
    refine we1 sW ?_
    clear sW
    refine x8 rfl (people.length) (fun i => NoT i) 258 (fun i => [(14, iV i), (7, .list (L.map sV)), (4, .ptr 0 0)]) (fun i => [.box [iV st, iV wd, iV rw1, u1 cls, u3 hds, x4 rules, f5 people]]) [some 0] [] (by trivial) ?_; intro i hi hP
    rcases Nat.lt_or_ge i people.length with hi2 | hi2
    ·have hd1 : decide ((i : Int) < (people.length : Int)) = true := by simp; omega
     have hd2 : decide (i < people.length) = true := by simp; omega
     have hc := hcol i hi2
     have sE0 := sE0 i hi2
     have sE1 := sE1 i hi2
     have sF := sF i
     have hfl := hfl i hi2
     have sK := zHH (hv _ (u5 (l := L) (i := i) (by omega)))
     have sKs := fun j (hj : j < people.length) => zHH (hv _ (u5 (l := L) (i := j) (by omega)))
     obtain ⟨t, rest, e, ht, hr⟩ := hrow i
     rw [e] at sE0
     clear hcol hrow hv hP sw e
     generalize X2 L i wd = er at *
     generalize zUk L i wd = s at *
     obtain ⟨ow, how⟩ : ∃ f : Nat → Str, f = fun j => zUN (L.getD j default) := ⟨_, rfl⟩
     have howe : ∀ j, zUN (L.getD j default) = ow j := fun j => by rw [how]
     simp only [howe] at hc sK sKs
     clear how
     cases hc with
     | none =>
      have sE := sE1 rfl
      clear sE0 sE1 sKs hfl howe
      refine we1 (cc sK (cc sE sF)) ?_
      clear hd1 hd2
      exact y8 (i' := i + 1) [some 0] [] (by trivial)
     | key hle hsp =>
      have sE := sE0 rfl
      obtain ⟨hn1, hn2, hn3⟩ := zGm (ow i) t hsp
      have hRl : (ow i).length < (ow i ++ [32] ++ t).length ∧ (ow i ++ [32] ++ t).length ≤ 1000 := by simp only [List.length_append, List.length_singleton]; omega
      clear sE0 sE1 sKs hsp sF howe
      simp only [y4, List.map_cons] at sE
      generalize ow i ++ [32] ++ t = R at *
      generalize ow i = s at *
      have hr0 : (((rest.length : Nat) : Int) + 1 == 0) = false := by simp; omega
      repeat' (first | ((with_reducible refine M0 [0, 1, 1, 1, 1, 1, 1, 0, 0, 1, 0, 0, 1, 0, 1, 1, 1, 1, 1, 1, 1, 1, 1, 1, 1] ?_)) | (refine Qr rfl ?_; try intro _ hK; try simp only [go_sem, *]) | (refine Qi rfl rfl rfl rfl ?_ ?_ <;> (intro hb; (try intro _ hK); have hc := hb; try simp only [go_sem] at hc; simp only [go_sem, *])) | refine Qh rfl ?_ | refine Qd rfl (by kernel_rfl) ?_ | (refine Qc rfl rfl ?_ ?_ <;> (intro hb; have hc := hb; try simp only [go_sem] at hc)) | refine z8 rfl ?_ | (with_reducible (show (∀ _ : AV, _ → _) ∧ _); refine wel ?_) | (refine Qb ?_ ?_; focus kernel_rfl) | (refine u0 (sK) ?_ ?_; (focus (simp only [go_sem, *]; done)); simp only [go_sem, *]) | (refine u0 (sE) ?_ ?_; (focus (simp only [go_sem, *]; done)); simp only [go_sem, *]) | ((with_reducible apply And.intro); focus omega) | (refine z7 hK ?_; clear hK; simp only [go_sem, *]) | simp only [z6, z5, go_sem, *])
      all_goals try contradiction
      clear hd1 hd2 hr0
      refine ⟨?_⟩
      refine X5 (N := 258) (env := [(21, sV R), (15, sV s), (14, iV i), (7, .list (L.map sV)), (4, .ptr 0 0)]) (As := [.box [iV st, iV wd, iV rw1, u1 cls, u3 hds, x4 rules, f5 people]]) [some 0] [] (by (simp only [Weak, go_sem, List.map_append, List.map_set, *] <;> (try simp (disch := omega) only [u6]) <;> (try simp) <;> (try omega))) ?_
      refine we1 trivial ?_
      refine x8 rfl (s.length) (fun n => NoT n) 258 (fun n => [(22, iV n), (21, sV R), (15, sV s), (14, iV i), (7, .list (L.map sV)), (4, .ptr 0 0)]) (fun n => [.box [iV st, iV wd, iV rw1, u1 cls, u3 hds, x4 rules, f5 people]]) [some 0] [] (by trivial) ?_; intro n hn hP
      rcases Nat.lt_or_ge n s.length with hn | hn
      ·have hd1 : decide ((n : Int) < (R.length : Int)) = true := by simp; omega
       have hd2 : decide (n < R.length) = true := by simp; omega
       have hq := zWB (hn1 n hn)
       clear hn1 hn2 hn3
       refine we1 trivial ?_
       clear hd1 hd2 hq
       exact y8 (i' := n + 1) [some 0] [] (by trivial)
      ·obtain rfl : n = s.length := by omega
       have hd1 : decide ((s.length : Int) < (R.length : Int)) = true := by simp; omega
       have hd2 : decide (s.length < R.length) = true := by simp; omega
       have hq : ((R.getD s.length 0).toNat : Int) = 32 := by rw [hn2]; rfl
       have hd3 : decide ((s.length : Int) > wd) = false := by simp; omega
       have hd4 : decide (wd < (s.length : Int)) = false := by simp; omega
       clear hn1 hn2
       refine we1 trivial ?_
       clear hd1 hd2 hd3 hd4 hq hn3
       exact y8 (i' := i + 1) [some 0] [] (by trivial)
     | cut _ hI =>
      have sE := sE0 rfl
      obtain ⟨hn1, hn2, hn3⟩ := zGm s t hI.sp
      have hsl := hI.len
      have hRl : s.length < (s ++ [32] ++ t).length ∧ (s ++ [32] ++ t).length ≤ 1000 := by simp only [List.length_append, List.length_singleton]; omega
      have sS := zO3 s L hI.err
      have hne : (s == ow i) = false := by simpa using hI.ne
      have hWl := hI.le
      have hW : ¬ zUl i (zU2 s L) 0 < 0 := by
       have := (zCu i (zU2 s L) 0).2 hI.who
       omega
      have sx := zHP (zU2 s L) i (by omega)
      have hall := hI.all
      simp only [howe] at hall
      clear sE0 sE1 sF hI howe
      simp only [y4, List.map_cons] at sE sS
      generalize s ++ [32] ++ t = R at *
      generalize zU2 s L = W at *
      generalize zUl i W 0 = ix at *
      have hr0 : (((rest.length : Nat) : Int) + 1 == 0) = false := by simp; omega
      repeat' (first | ((with_reducible refine M0 [0, 1, 1, 1, 1, 1, 1, 0, 0, 1, 0, 0, 1, 0, 1, 1, 1, 1, 1, 1, 1, 1, 1, 1, 1] ?_)) | (refine Qr rfl ?_; try intro _ hK; try simp only [go_sem, *]) | (refine Qi rfl rfl rfl rfl ?_ ?_ <;> (intro hb; (try intro _ hK); have hc := hb; try simp only [go_sem] at hc; simp only [go_sem, *])) | refine Qh rfl ?_ | refine Qd rfl (by kernel_rfl) ?_ | (refine Qc rfl rfl ?_ ?_ <;> (intro hb; have hc := hb; try simp only [go_sem] at hc)) | refine z8 rfl ?_ | (with_reducible (show (∀ _ : AV, _ → _) ∧ _); refine wel ?_) | (refine Qb ?_ ?_; focus kernel_rfl) | (refine u0 (sK) ?_ ?_; (focus (simp only [go_sem, *]; done)); simp only [go_sem, *]) | (refine u0 (sE) ?_ ?_; (focus (simp only [go_sem, *]; done)); simp only [go_sem, *]) | ((with_reducible apply And.intro); focus omega) | (refine z7 hK ?_; clear hK; simp only [go_sem, *]) | simp only [z6, z5, go_sem, *])
      all_goals try contradiction
      clear hd1 hd2 hr0
      refine ⟨?_⟩
      refine X5 (N := 258) (env := [(21, sV R), (15, sV (ow i)), (14, iV i), (7, .list (L.map sV)), (4, .ptr 0 0)]) (As := [.box [iV st, iV wd, iV rw1, u1 cls, u3 hds, x4 rules, f5 people]]) [some 0] [] (by (simp only [Weak, go_sem, List.map_append, List.map_set, *] <;> (try simp (disch := omega) only [u6]) <;> (try simp) <;> (try omega))) ?_
      refine we1 trivial ?_
      refine x8 rfl (s.length) (fun n => NoT n) 258 (fun n => [(22, iV n), (21, sV R), (15, sV (ow i)), (14, iV i), (7, .list (L.map sV)), (4, .ptr 0 0)]) (fun n => [.box [iV st, iV wd, iV rw1, u1 cls, u3 hds, x4 rules, f5 people]]) [some 0] [] (by trivial) ?_; intro n hn hP
      rcases Nat.lt_or_ge n s.length with hn | hn
      ·have hd1 : decide ((n : Int) < (R.length : Int)) = true := by simp; omega
       have hd2 : decide (n < R.length) = true := by simp; omega
       have hq := zWB (hn1 n hn)
       clear hn1 hn2 hn3 hall sS sx
       refine we1 trivial ?_
       clear hd1 hd2 hq
       exact y8 (i' := n + 1) [some 0] [] (by trivial)
      ·obtain rfl : n = s.length := by omega
       have hd1 : decide ((s.length : Int) < (R.length : Int)) = true := by simp; omega
       have hd2 : decide (s.length < R.length) = true := by simp; omega
       have hq : ((R.getD s.length 0).toNat : Int) = 32 := by rw [hn2]; rfl
       have hd3 : decide ((s.length : Int) > wd) = false := by simp; omega
       have hd4 : decide (wd < (s.length : Int)) = false := by simp; omega
       have hd5 : decide (ix < 0) = false := by simp; omega
       have hd6 : decide ((W.length : Int) > (people.length : Int)) = false := by simp; omega
       have hd7 : decide (people.length < W.length) = false := by simp; omega
       clear hn1 hn2
       repeat' (first | (refine Qr rfl ?_; try intro _ hK; try simp only [go_sem, *]) | (refine Qi rfl rfl rfl rfl ?_ ?_ <;> (intro hb; (try intro _ hK); have hc := hb; try simp only [go_sem] at hc; simp only [go_sem, *])) | refine Qh rfl ?_ | refine Qd rfl (by kernel_rfl) ?_ | (refine Qc rfl rfl ?_ ?_ <;> (intro hb; have hc := hb; try simp only [go_sem] at hc)) | refine z8 rfl ?_ | (with_reducible (show (∀ _ : AV, _ → _) ∧ _); refine wel ?_) | (refine Qb ?_ ?_; focus kernel_rfl) | (refine i3 (sS) ?_; simp only [go_sem, *]) | ((with_reducible apply And.intro); focus omega) | (refine z7 hK ?_; clear hK; simp only [go_sem, *]) | simp only [z6, z5, go_sem, *])
       all_goals try contradiction
       (refine U5 [1] (sx) (by simp only [go_sem, *]) (.raw _) ?_; simp only [go_sem, *])
       repeat' (first | (refine Qr rfl ?_; try intro _ hK; try simp only [go_sem, *]) | (refine Qi rfl rfl rfl rfl ?_ ?_ <;> (intro hb; (try intro _ hK); have hc := hb; try simp only [go_sem] at hc; simp only [go_sem, *])) | refine Qh rfl ?_ | refine Qd rfl (by kernel_rfl) ?_ | (refine Qc rfl rfl ?_ ?_ <;> (intro hb; have hc := hb; try simp only [go_sem] at hc)) | refine z8 rfl ?_ | (with_reducible (show (∀ _ : AV, _ → _) ∧ _); refine wel ?_) | (refine Qb ?_ ?_; focus kernel_rfl) | ((with_reducible apply And.intro); focus omega) | (refine z7 hK ?_; clear hK; simp only [go_sem, *]) | simp only [z6, z5, go_sem, *])
       all_goals try contradiction
       clear hd1 hd2 hd3 hd4 hd5 hd6 hd7 hq hn3 hne sS sx sK sE
       refine x8 rfl (W.length) (fun k => NoT k) 258 (fun k => [(25, iV k), (23, .list (W.map iV)), (15, sV (ow i)), (14, iV i), (7, .list (L.map sV)), (4, .ptr 0 0)]) (fun k => [.box [iV st, iV wd, iV rw1, u1 cls, u3 hds, x4 rules, f5 people]]) [some 0] [1] (by trivial) ?_; intro k hk hP
       rcases Nat.lt_or_ge k W.length with hk | hk
       ·have hd1 : decide ((k : Int) < (W.length : Int)) = true := by simp; omega
        have hd2 : decide (k < W.length) = true := by simp; omega
        obtain ⟨j, hz, hj, hjk⟩ := hall _ (u5 hk)
        have sj := sKs j (by omega)
        rw [hjk] at sj
        have hd3 : decide ((j : Int) < 0) = false := by simp
        have hd4 : decide ((j : Int) ≥ (people.length : Int)) = false := by simp; omega
        have hd5 : decide (people.length ≤ j) = false := by simp; omega
        have hg : (L.map sV).getD j AV.any = sV (L.getD j default) := by simp [List.getD, show j < L.length by omega]
        clear hall sKs hjk
        generalize ow i = o at *
        refine we1 sj ?_
        clear hd1 hd2 hd3 hd4 hd5
        exact y8 (i' := k + 1) [some 0] [] (by trivial)
       ·obtain rfl : k = W.length := by omega
        have hd1 : decide ((W.length : Int) < (W.length : Int)) = false := by simp
        have hd2 : decide (W.length < W.length) = false := by simp
        clear hall sKs
        refine we1 trivial ?_
        clear hd1 hd2
        exact y8 (i' := i + 1) [some 0] [] (by trivial)
    ·obtain rfl : i = people.length := by omega
     have hd1 : decide ((people.length : Int) < (people.length : Int)) = false := by simp
     have hd2 : decide (people.length < people.length) = false := by simp
     clear hcol hrow sE0 sE1 sF hfl hv hP
     refine we1 sw ?_
     (refine ⟨[_], [], [], ⟨rfl, trivial⟩, ?_⟩; simp only [go_sem, *])
end Go.Abs

