/-
  WHAT THE PROOF STANDS ON, PART 3: contracts of the program's functions and the logic that they are proved in. No condition.
-/
import Derived.Maps.Keyed
import Derived.DeepKeys3
import Derived.Test.YtmhleaopjcfjnaaGreatQ2
set_option maxRecDepth 100000
set_option maxHeartbeats 4000000
set_option linter.unusedVariables false
set_option linter.unusedSimpArgs false
set_option linter.unusedSectionVars false
namespace Go.Abs
open Go Go.Proofs Tryz
attribute [go_sem] bne_eq_false_iff_eq Bool.not_eq_true' Bool.not_eq_false'
@[go_sem] theorem zKm (n : Nat) : ((0 : Int) < (n : Int)) = (0 < n) := by simp
@[go_sem] theorem zKh (n : Nat) : ((n : Int) ≤ 0) = (n ≤ 0) := by simp
@[go_sem] theorem zGd (a b : Plate) : (a.number == b.number && a.letter == b.letter) = decide (a = b) := by
 rw [Bool.eq_iff_iff]; simp [Plate.eq_iff]
@[go_sem] theorem zKG (a b : House) : (a.street == b.street && a.plate.number == b.plate.number && a.plate.letter == b.plate.letter) = decide (a = b) := by
 rw [Bool.eq_iff_iff]; simp [House.eq_iff, and_assoc]
theorem Change.eq_iff (a b : Change) : a = b ↔ a.kind = b.kind ∧ a.street = b.street ∧ a.other = b.other ∧ a.src = b.src ∧ a.dst = b.dst := by cases a; cases b; simp
@[go_sem] theorem zJV (a b : Change) : (a.kind == b.kind && a.street == b.street && a.other == b.other && a.src.number == b.src.number && a.src.letter == b.src.letter && a.dst.number == b.dst.number && a.dst.letter == b.dst.letter) = decide (a = b) := by
 rw [Bool.eq_iff_iff]; simp [Change.eq_iff, Plate.eq_iff, and_assoc]
theorem zD5 {P : Program} {f : FuncId} {avs : List AV} {H : Nat → AObj} {nx : Nat} {K : Cont} {r : AV} (sp : zLp P f avs [] r []) (h : XpL H [] [] avs avs) (hk : K (r.ren (v7 [] nx)) [] []) : x8 P f avs H nx K :=
 y9 [] [] sp (by simp) h trivial (by simp) (.inl rfl) (fun j hj => by simp at hj) (fun A hA => by simp at hA) hk
theorem B6 (ex : List Nat) {P : Program} {f : FuncId} {avs : List AV} {H : Nat → AObj} {nx : Nat} {K : Cont} {args : List AV} {r : AV} (sp : zLp P f args [] r []) (h : XpL H [] ex args avs) (hs : Scal r) (hk : K (r.ren (v7 [] nx)) ex []) : x8 P f avs H nx K :=
 y9 [] ex sp (by simp) h trivial (by simp) (.inr ⟨hs, fun A hA => by simp at hA⟩) (fun j hj => by simp at hj) (fun A hA => by simp at hA) (by simpa [i4, r6, zLy] using hk)
section
variable {P : Program} {E : Env} {Q : Exit → AS → Prop} {σ : AS} {p : List Nat} {b : Code}
theorem Qd {id : Nat} {ops : List Oper} (h : sub p b = .region id ops.toArray true) (he : L7 ops = true) (hx : y6 prog ops (fun σ' ts => S1 ops ts = true ∧ Q .normal σ') ops σ []) : Hold prog E (sub p b) Q σ := zG0 h mixed he hx
theorem Qc {c : Operand} {t : Bool} (h : zB9 (sub p b) = some c) (ht : σ.ev c = .raw (.bool t)) (h1 : t = true → Hold P E (sub (0 :: p) b) Q σ) (h2 : t = false → Hold P E (sub (1 :: p) b) Q σ) : Hold P E (sub p b) Q σ := zCs h ⟨t, ht, h1, h2⟩
theorem y4 {f : FuncId} {avs : List AV} {H : Nat → AObj} {nx : Nat} {K : Cont} {r : AV} (sp : zLp P f avs [] r []) (hk : K (r.ren (v7 [] nx)) [] []) (h : XpL H [] [] avs avs := by simp only [go_sem, *]; done) : x8 P f avs H nx K := zD5 sp h hk
theorem s8 {f : FuncId} {avs : List AV} {H : Nat → AObj} {nx : Nat} {K : Cont} {r : AV} {out : List AObj} (sp : zLp P f avs [] r out) (hk : K (r.ren (v7 [] nx)) (i4 [] nx out) (r6 [] nx out)) (h : XpL H [] [] avs avs := by simp only [go_sem, *]; done)
  (hu : ∀ j, j < out.length → H (nx + j) = .unb := by first | (simp; done) | (simp [go_sem]; done)) (h7 : ∀ A, A ∈ out → A ≠ .unb := by first | (simp; done) | (simp [go_sem]; done)) : x8 P f avs H nx K :=
 y9 [] [] sp (by simp) h trivial (by simp) (.inl rfl) (fun j hj => hu j (by simpa using hj)) h7 (by simpa using hk)
theorem Y6 {f : FuncId} {avs : List AV} {H : Nat → AObj} {nx : Nat} {K : Cont} (ids : List Nat) {args : List AV} {fp : List AObj} {r : AV} {out : List AObj} (sp : zLp P f args fp r out) (hk : K (r.ren (v7 ids nx)) (ids ++ [] ++ i4 ids nx out) (r6 ids nx out))
  (h1 : ids.Nodup := by simp) (h2 : XpL H (ids.map some) [] args avs := by simp only [go_sem, *]; done) (h3 : fpsF H (ids.map some) [] fp ids := by simp only [go_sem, *]; done)
  (h6 : ∀ j, j < out.length - ids.length → H (nx + j) = .unb := by first | (simp; done) | (simp [go_sem]; done)) (h7 : ∀ A, A ∈ out → A ≠ .unb := by first | (simp; done) | (simp [go_sem]; done)) : x8 P f avs H nx K :=
 y9 ids [] sp h1 h2 h3 (by simp) (.inl rfl) h6 h7 hk
theorem u3 (h : F2 (sub p b) = true) (L : Nat) (R : Nat → Prop) (N : Nat) (env : Nat → List (Nat × AV)) (As : Nat → List AObj) (m : List (Option Nat)) (ex : List Nat) (hp : R 0)
  (hx : ∀ i, i ≤ L → R i → Hold P E (sub (0 :: p) b) (z6 (fun σ' => ∃ n', n' < L - i ∧ ∃ m ex zN zenv zAs, Weak E.n m ex σ' zN zenv zAs ∧ ∃ i, n' = L - i ∧ i ≤ L ∧ R i ∧ zN = N ∧ zenv = env i ∧ zAs = As i) Q) ⟨N, env i, zLy 0 (As i)⟩)
  (hW : Weak E.n m ex σ N (env 0) (As 0) := by (simp only [Weak, go_sem, List.map_append, List.map_set, *] <;> (try simp (disch := omega) only [t8]) <;> (try simp) <;> (try omega))) : Hold P E (sub p b) Q σ := by
 refine X7 h (fun zn zN zenv zAs => ∃ i, zn = L - i ∧ i ≤ L ∧ R i ∧ zN = N ∧ zenv = env i ∧ zAs = As i) L ⟨m, ex, _, _, _, hW, 0, rfl, Nat.zero_le _, hp, rfl, rfl, rfl⟩ ?_
 rintro _ _ _ _ ⟨i, rfl, hi, hP, rfl, rfl, rfl⟩
 exact hx i hi hP
theorem u2 {L B i' N : Nat} {R : Nat → Prop} {env : Nat → List (Nat × AV)} {As : Nat → List AObj} {n : Nat} {σ' : AS} (m : List (Option Nat)) (ex : List Nat) (hp : R i') (h1 : L - i' < B := by omega) (h2 : i' ≤ L := by omega)
  (hW : Weak n m ex σ' N (env i') (As i') := by (simp only [Weak, go_sem, List.map_append, List.map_set, *] <;> (try simp (disch := omega) only [t8]) <;> (try simp) <;> (try omega))) :
  ∃ n', n' < B ∧ ∃ m ex zN zenv zAs, Weak n m ex σ' zN zenv zAs ∧ ∃ i, n' = L - i ∧ i ≤ L ∧ R i ∧ zN = N ∧ zenv = env i ∧ zAs = As i := ⟨_, h1, m, ex, _, _, _, hW, i', rfl, h2, hp, rfl, rfl, rfl⟩
theorem u4 {α : Type} (h : F2 (sub p b) = true) (L : Nat) (R : Nat → α → Prop) (N : Nat) (env : Nat → α → List (Nat × AV)) (As : Nat → α → List AObj) (m : List (Option Nat)) (ex : List Nat) (w : α) (hp : R 0 w)
  (hx : ∀ i v, i ≤ L → R i v → Hold P E (sub (0 :: p) b) (z6 (fun σ' => ∃ n', n' < L - i ∧ ∃ m ex zN zenv zAs, Weak E.n m ex σ' zN zenv zAs ∧ ∃ i v, n' = L - i ∧ i ≤ L ∧ R i v ∧ zN = N ∧ zenv = env i v ∧ zAs = As i v) Q) ⟨N, env i v, zLy 0 (As i v)⟩)
  (hW : Weak E.n m ex σ N (env 0 w) (As 0 w) := by (simp only [Weak, go_sem, List.map_append, List.map_set, *] <;> (try simp (disch := omega) only [t8]) <;> (try simp) <;> (try omega))) : Hold P E (sub p b) Q σ := by
 refine X7 h (fun zn zN zenv zAs => ∃ i v, zn = L - i ∧ i ≤ L ∧ R i v ∧ zN = N ∧ zenv = env i v ∧ zAs = As i v) L ⟨m, ex, _, _, _, hW, 0, w, rfl, Nat.zero_le _, hp, rfl, rfl, rfl⟩ ?_
 rintro _ _ _ _ ⟨i, v, rfl, hi, hP, rfl, rfl, rfl⟩
 exact hx i v hi hP
theorem w6 {α : Type} {L B i' N : Nat} {R : Nat → α → Prop} {env : Nat → α → List (Nat × AV)} {As : Nat → α → List AObj} {n : Nat} {σ' : AS} (m : List (Option Nat)) (ex : List Nat) (w : α) (hp : R i' w) (h1 : L - i' < B := by omega) (h2 : i' ≤ L := by omega)
  (hW : Weak n m ex σ' N (env i' w) (As i' w) := by (simp only [Weak, go_sem, List.map_append, List.map_set, *] <;> (try simp (disch := omega) only [t8]) <;> (try simp) <;> (try omega))) :
  ∃ n', n' < B ∧ ∃ m ex zN zenv zAs, Weak n m ex σ' zN zenv zAs ∧ ∃ i v, n' = L - i ∧ i ≤ L ∧ R i v ∧ zN = N ∧ zenv = env i v ∧ zAs = As i v := ⟨_, h1, m, ex, _, _, _, hW, i', w, rfl, h2, hp, rfl, rfl, rfl⟩
theorem O6 {α β : Type} (h : F2 (sub p b) = true) (L : Nat) (R : Nat → α → β → Prop) (N : Nat) (env : Nat → α → β → List (Nat × AV)) (As : Nat → α → β → List AObj) (m : List (Option Nat)) (ex : List Nat) (w : α) (x : β) (hp : R 0 w x)
  (hx : ∀ i v u, i ≤ L → R i v u → Hold P E (sub (0 :: p) b) (z6 (fun σ' => ∃ n', n' < L - i ∧ ∃ m ex zN zenv zAs, Weak E.n m ex σ' zN zenv zAs ∧ ∃ i v u, n' = L - i ∧ i ≤ L ∧ R i v u ∧ zN = N ∧ zenv = env i v u ∧ zAs = As i v u) Q) ⟨N, env i v u, zLy 0 (As i v u)⟩)
  (hW : Weak E.n m ex σ N (env 0 w x) (As 0 w x) := by (simp only [Weak, go_sem, List.map_append, List.map_set, *] <;> (try simp (disch := omega) only [t8]) <;> (try simp) <;> (try omega))) : Hold P E (sub p b) Q σ := by
 refine X7 h (fun zn zN zenv zAs => ∃ i v u, zn = L - i ∧ i ≤ L ∧ R i v u ∧ zN = N ∧ zenv = env i v u ∧ zAs = As i v u) L ⟨m, ex, _, _, _, hW, 0, w, x, rfl, Nat.zero_le _, hp, rfl, rfl, rfl⟩ ?_
 rintro _ _ _ _ ⟨i, v, u, rfl, hi, hP, rfl, rfl, rfl⟩
 exact hx i v u hi hP
theorem Z2 {α β : Type} {L B i' N : Nat} {R : Nat → α → β → Prop} {env : Nat → α → β → List (Nat × AV)} {As : Nat → α → β → List AObj} {n : Nat} {σ' : AS} (m : List (Option Nat)) (ex : List Nat) (w : α) (x : β) (hp : R i' w x) (h1 : L - i' < B := by omega) (h2 : i' ≤ L := by omega)
  (hW : Weak n m ex σ' N (env i' w x) (As i' w x) := by (simp only [Weak, go_sem, List.map_append, List.map_set, *] <;> (try simp (disch := omega) only [t8]) <;> (try simp) <;> (try omega))) :
  ∃ n', n' < B ∧ ∃ m ex zN zenv zAs, Weak n m ex σ' zN zenv zAs ∧ ∃ i v u, n' = L - i ∧ i ≤ L ∧ R i v u ∧ zN = N ∧ zenv = env i v u ∧ zAs = As i v u := ⟨_, h1, m, ex, _, _, _, hW, i', w, x, rfl, h2, hp, rfl, rfl, rfl⟩
end
structure Hid (p : Prop) : Prop where
 out : p
structure Own (ids : List Nat) (p : Prop) : Prop where
 out : p
structure Frz (p : Prop) : Prop where
 out : p
theorem own (ids : List Nat) {p : Prop} (h : p) : Own ids p := ⟨h⟩
theorem frz {p : Prop} (h : p) : Frz p := ⟨h⟩
theorem T0 {a b : Bool} (h : a = true ↔ b = true) : Value.bool a = Value.bool b := by rw [Bool.eq_iff_iff.2 h]
theorem zAN {k : IntKind} {a b : Int} (h : a = b) : Value.int k a = Value.int k b := by rw [h]
end Go.Abs

namespace Go.Abs
open Go Go.Proofs Tryz
attribute [local irreducible] y6 Hold x8
theorem r8 (n a b : Int) : zLp prog 128 [iV n, iV a, iV b] [] (bV (zLr n a b)) [] := by
 refine q8 func128 rfl (fun E hE => ?_); simp only [go_sem, ntmps128]
 repeat' (first | (refine Qr rfl ?_; try intro _ hK; try simp only [go_sem, *]) | (refine Qi rfl rfl rfl rfl ?_ ?_ <;> (intro hb; (try intro _ hK); have hc := hb; try simp only [go_sem] at hc; simp only [go_sem, *])) | refine Qh rfl ?_ | (refine Qc rfl rfl ?_ ?_ <;> (intro hb; have hc := hb; try simp only [go_sem] at hc)) | refine q6 rfl ?_ | ((with_reducible apply And.intro); focus omega) | (refine z8 hK ?_; clear hK; simp only [go_sem, *]) | simp only [z6, z7, go_sem, *])
 all_goals (refine ⟨[_], [], [], ⟨rfl, trivial⟩, ?_⟩; simp only [go_sem, *])
 all_goals (refine T0 ?_; simp [zLr] at *; omega)
theorem zIC (n a b : Int) : zLp prog 114 [iV n, iV a, iV b] [] (bV (zLr n a b)) [] := by
 refine q8 func114 rfl (fun E hE => ?_); simp only [go_sem, ntmps114]
 repeat' (first | (refine Qr rfl ?_; try intro _ hK; try simp only [go_sem, *]) | (refine Qi rfl rfl rfl rfl ?_ ?_ <;> (intro hb; (try intro _ hK); have hc := hb; try simp only [go_sem] at hc; simp only [go_sem, *])) | refine Qh rfl ?_ | (refine Qc rfl rfl ?_ ?_ <;> (intro hb; have hc := hb; try simp only [go_sem] at hc)) | refine q6 rfl ?_ | ((with_reducible apply And.intro); focus omega) | (refine z8 hK ?_; clear hK; simp only [go_sem, *]) | simp only [z6, z7, go_sem, *])
 all_goals (refine ⟨[_], [], [], ⟨rfl, trivial⟩, ?_⟩; simp only [go_sem, *])
 all_goals (refine T0 ?_; simp [zLr] at *; omega)
theorem zC9 (x : Plate) : zLp prog 92 [x.enc] [] (bV x.ok) [] := by
 refine q8 func92 rfl (fun E hE => ?_); simp only [go_sem, ntmps92]
 repeat' (first | (refine Qr rfl ?_; try intro _ hK; try simp only [go_sem, *]) | (refine Qi rfl rfl rfl rfl ?_ ?_ <;> (intro hb; (try intro _ hK); have hc := hb; try simp only [go_sem] at hc; simp only [go_sem, *])) | refine Qh rfl ?_ | (refine Qc rfl rfl ?_ ?_ <;> (intro hb; have hc := hb; try simp only [go_sem] at hc)) | refine q6 rfl ?_ | (refine y4 (r8 _ _ _) ?_; simp only [go_sem, *]) | ((with_reducible apply And.intro); focus omega) | (refine z8 hK ?_; clear hK; simp only [go_sem, *]) | simp only [z6, z7, go_sem, *])
 all_goals (refine ⟨[_], [], [], ⟨rfl, trivial⟩, ?_⟩; simp only [go_sem, *])
 all_goals simp_all [Plate.ok]
theorem zLU (x : Plate) : zLp prog 59 [x.enc] [] (bV x.ok) [] := by
 refine q8 func59 rfl (fun E hE => ?_); simp only [go_sem, ntmps59]
 repeat' (first | (refine Qr rfl ?_; try intro _ hK; try simp only [go_sem, *]) | (refine Qi rfl rfl rfl rfl ?_ ?_ <;> (intro hb; (try intro _ hK); have hc := hb; try simp only [go_sem] at hc; simp only [go_sem, *])) | refine Qh rfl ?_ | (refine Qc rfl rfl ?_ ?_ <;> (intro hb; have hc := hb; try simp only [go_sem] at hc)) | refine q6 rfl ?_ | (refine y4 (zIC _ _ _) ?_; simp only [go_sem, *]) | ((with_reducible apply And.intro); focus omega) | (refine z8 hK ?_; clear hK; simp only [go_sem, *]) | simp only [z6, z7, go_sem, *])
 all_goals (refine ⟨[_], [], [], ⟨rfl, trivial⟩, ?_⟩; simp only [go_sem, *])
 all_goals simp_all [Plate.ok]
theorem zHs (n : Int) : zLp prog 155 [iV n] [] (bV false) [] := by
 refine q8 func155 rfl (fun E hE => ?_); simp only [go_sem, ntmps155]
 repeat' (first | (refine Qr rfl ?_; try intro _ hK; try simp only [go_sem, *]) | refine Qh rfl ?_ | (refine Qc rfl rfl ?_ ?_ <;> (intro hb; have hc := hb; try simp only [go_sem] at hc)) | refine q6 rfl ?_ | ((with_reducible apply And.intro); focus omega) | (refine z8 hK ?_; clear hK; simp only [go_sem, *]) | simp only [z6, z7, go_sem, *])
 all_goals (refine ⟨[_], [], [], ⟨rfl, trivial⟩, ?_⟩; simp only [go_sem, *])
 all_goals simp_all
theorem zCv (a b : Int) : zLp prog 130 [iV a, iV b] [] (iV (zML a b)) [] := by
 refine q8 func130 rfl (fun E hE => ?_); simp only [go_sem, ntmps130]
 repeat' (first | (refine Qr rfl ?_; try intro _ hK; try simp only [go_sem, *]) | refine Qh rfl ?_ | (refine Qc rfl rfl ?_ ?_ <;> (intro hb; have hc := hb; try simp only [go_sem] at hc)) | refine q6 rfl ?_ | (refine y4 (zHs _) ?_; simp only [go_sem, *]) | ((with_reducible apply And.intro); focus omega) | (refine z8 hK ?_; clear hK; simp only [go_sem, *]) | simp only [z6, z7, go_sem, *])
 all_goals (refine ⟨[_], [], [], ⟨rfl, trivial⟩, ?_⟩; simp only [go_sem, *])
 all_goals (refine zAN ?_; unfold zML; repeat' split)
 all_goals omega
theorem zHE (a b : Plate) : zLp prog 94 [a.enc, b.enc] [] (bV (a.lt b)) [] := by
 refine q8 func94 rfl (fun E hE => ?_); simp only [go_sem, ntmps94]
 repeat' (first | (refine Qr rfl ?_; try intro _ hK; try simp only [go_sem, *]) | (refine Qi rfl rfl rfl rfl ?_ ?_ <;> (intro hb; (try intro _ hK); have hc := hb; try simp only [go_sem] at hc; simp only [go_sem, *])) | refine Qh rfl ?_ | (refine Qc rfl rfl ?_ ?_ <;> (intro hb; have hc := hb; try simp only [go_sem] at hc)) | refine q6 rfl ?_ | ((with_reducible apply And.intro); focus omega) | (refine z8 hK ?_; clear hK; simp only [go_sem, *]) | simp only [z6, z7, go_sem, *])
 all_goals (refine ⟨[_], [], [], ⟨rfl, trivial⟩, ?_⟩; simp only [go_sem, *])
 all_goals (refine T0 ?_; rw [Plate.lt_iff]; simp at *; omega)
theorem zCz (a b : Plate) : zLp prog 87 [a.enc, b.enc] [] (bV (a.lt b)) [] := by
 refine q8 func87 rfl (fun E hE => ?_); simp only [go_sem, ntmps87]
 repeat' (first | (refine Qr rfl ?_; try intro _ hK; try simp only [go_sem, *]) | (refine Qi rfl rfl rfl rfl ?_ ?_ <;> (intro hb; (try intro _ hK); have hc := hb; try simp only [go_sem] at hc; simp only [go_sem, *])) | refine Qh rfl ?_ | (refine Qc rfl rfl ?_ ?_ <;> (intro hb; have hc := hb; try simp only [go_sem] at hc)) | refine q6 rfl ?_ | ((with_reducible apply And.intro); focus omega) | (refine z8 hK ?_; clear hK; simp only [go_sem, *]) | simp only [z6, z7, go_sem, *])
 all_goals (refine ⟨[_], [], [], ⟨rfl, trivial⟩, ?_⟩; simp only [go_sem, *])
 all_goals (refine T0 ?_; rw [Plate.lt_iff]; simp at *; omega)
theorem zHB (a b : House) : zLp prog 50 [a.enc, b.enc] [] (bV (a.lt b)) [] := by
 obtain ⟨a1, a2, a3⟩ := a
 obtain ⟨b1, b2, b3⟩ := b
 refine q8 func50 rfl (fun E hE => ?_); simp only [go_sem, ntmps50]
 repeat' (first | (refine Qr rfl ?_; try intro _ hK; try simp only [go_sem, *]) | (refine Qi rfl rfl rfl rfl ?_ ?_ <;> (intro hb; (try intro _ hK); have hc := hb; try simp only [go_sem] at hc; simp only [go_sem, *])) | refine Qh rfl ?_ | (refine Qc rfl rfl ?_ ?_ <;> (intro hb; have hc := hb; try simp only [go_sem] at hc)) | refine q6 rfl ?_ | (refine y4 (zHE ⟨_, _⟩ ⟨_, _⟩) ?_; simp only [go_sem, *]) | ((with_reducible apply And.intro); focus omega) | (refine z8 hK ?_; clear hK; simp only [go_sem, *]) | simp only [z6, z7, go_sem, *])
 all_goals (refine ⟨[_], [], [], ⟨rfl, trivial⟩, ?_⟩; simp only [go_sem, *])
 all_goals (refine T0 ?_; simp only [House.lt_iff, Plate.lt_iff]; simp at *; try omega)
theorem zAv (a : Plate) : zLp prog 195 [a.enc] [] (bV (a.number.tmod 2 != 0)) [] := by
 refine q8 func195 rfl (fun E hE => ?_); simp only [go_sem, ntmps195]
 repeat' (first | (refine Qr rfl ?_; try intro _ hK; try simp only [go_sem, *]) | refine Qh rfl ?_ | (refine Qc rfl rfl ?_ ?_ <;> (intro hb; have hc := hb; try simp only [go_sem] at hc)) | refine q6 rfl ?_ | ((with_reducible apply And.intro); focus omega) | (refine z8 hK ?_; clear hK; simp only [go_sem, *]) | simp only [z6, z7, go_sem, *])
 all_goals (refine ⟨[_], [], [], ⟨rfl, trivial⟩, ?_⟩; simp only [go_sem, *])
theorem zC2 (a : Plate) : zLp prog 196 [a.enc] [] (bV (a.number.tmod 2 == 0)) [] := by
 refine q8 func196 rfl (fun E hE => ?_); simp only [go_sem, ntmps196]
 repeat' (first | (refine Qr rfl ?_; try intro _ hK; try simp only [go_sem, *]) | refine Qh rfl ?_ | (refine Qc rfl rfl ?_ ?_ <;> (intro hb; have hc := hb; try simp only [go_sem] at hc)) | refine q6 rfl ?_ | ((with_reducible apply And.intro); focus omega) | (refine z8 hK ?_; clear hK; simp only [go_sem, *]) | simp only [z6, z7, go_sem, *])
 all_goals (refine ⟨[_], [], [], ⟨rfl, trivial⟩, ?_⟩; simp only [go_sem, *])
def orL : List Int → Int
 | [] => 0
 | x :: r => if x = 0 then orL r else x
theorem zCx (l : List Int) (hl : l.length ≤ 4294967296) : zLp prog 129 [.list (l.map iV)] [] (iV (orL l)) [] := by
 refine q8 func129 rfl (fun E hE => ?_); simp only [go_sem, ntmps129]
 repeat' (first | (refine Qr rfl ?_; try intro _ hK; try simp only [go_sem, *]) | refine Qh rfl ?_ | (refine Qc rfl rfl ?_ ?_ <;> (intro hb; have hc := hb; try simp only [go_sem] at hc)) | refine q6 rfl ?_ | ((with_reducible apply And.intro); focus omega) | (refine z8 hK ?_; clear hK; simp only [go_sem, *]) | simp only [z6, z7, go_sem, *])
 refine X7 rfl (fun n N env As => ∃ i : Nat, n = l.length - i ∧ i ≤ l.length ∧ orL (l.drop i) = orL l ∧ N = 18 ∧ env = [(8, iV i), (7, iV l.length), (6, .list (l.map iV)), (3, iV 0)] ∧ As = []) l.length ⟨[], [], _, _, _, ?_, 0, by simp, by simp, by simp, rfl, rfl, rfl⟩ ?_
 ·(simp only [Weak, go_sem, List.map_append, List.map_set, *] <;> (try simp (disch := omega) only [t8]) <;> (try simp) <;> (try omega))
 rintro _ _ _ _ ⟨i, rfl, hi, ho, rfl, rfl, rfl⟩
 repeat' (first | (refine Qr rfl ?_; try intro _ hK; try simp only [go_sem, *]) | refine Qh rfl ?_ | (refine Qc rfl rfl ?_ ?_ <;> (intro hb; have hc := hb; try simp only [go_sem] at hc)) | refine q6 rfl ?_ | ((with_reducible apply And.intro); focus omega) | (refine z8 hK ?_; clear hK; simp only [go_sem, *]) | simp only [z6, z7, go_sem, *])
 ·(refine ⟨[_], [], [], ⟨rfl, trivial⟩, ?_⟩; simp only [go_sem, *])
  rw [← ho, u0 ‹_›, orL, if_neg ‹_›]
 ·refine ⟨_, ?_, [], [], _, _, _, ?_, i + 1, rfl, ?_, ?_, rfl, rfl, rfl⟩
  ·omega
  ·(simp only [Weak, go_sem, List.map_append, List.map_set, *] <;> (try simp (disch := omega) only [t8]) <;> (try simp) <;> (try omega))
  ·omega
  ·rw [← ho, u0 (i := i) ‹_›, orL, if_pos ‹_›]
 ·(refine ⟨[_], [], [], ⟨rfl, trivial⟩, ?_⟩; simp only [go_sem, *])
  rw [← ho, u7 (by omega), orL]
theorem zCY (a b : Int) : orL [a, b] = orI a b := by
 simp only [orL, orI]; repeat' split
 all_goals omega
theorem U3 (a b : Plate) : zLp prog 93 [a.enc, b.enc] [] (iV (zL0 a b)) [] := by
 refine q8 func93 rfl (fun E hE => ?_); simp only [go_sem, ntmps93]
 repeat' (first | (refine Qr rfl ?_; try intro _ hK; try simp only [go_sem, *]) | refine Qh rfl ?_ | refine Qd rfl (by kernel_rfl) ?_ | (refine Qc rfl rfl ?_ ?_ <;> (intro hb; have hc := hb; try simp only [go_sem] at hc)) | refine q6 rfl ?_ | (refine Qb ?_ ?_; focus kernel_rfl) | (refine y4 (zCv _ _) ?_; simp only [go_sem, *]) | ((with_reducible apply And.intro); focus omega) | (refine z8 hK ?_; clear hK; simp only [go_sem, *]) | simp only [z6, z7, go_sem, *])
 (refine B6 [2] (zCx [zML a.number b.number, zML a.letter b.letter] (by simp)) (by simp only [go_sem, *]) (.raw _) ?_; simp only [go_sem, *])
 repeat' (first | (refine Qr rfl ?_; try intro _ hK; try simp only [go_sem, *]) | refine Qh rfl ?_ | refine Qd rfl (by kernel_rfl) ?_ | (refine Qc rfl rfl ?_ ?_ <;> (intro hb; have hc := hb; try simp only [go_sem] at hc)) | refine q6 rfl ?_ | (refine Qb ?_ ?_; focus kernel_rfl) | ((with_reducible apply And.intro); focus omega) | (refine z8 hK ?_; clear hK; simp only [go_sem, *]) | simp only [z6, z7, go_sem, *])
 (refine ⟨[_], [], [], ⟨rfl, trivial⟩, ?_⟩; simp only [go_sem, *])
 rw [zCY, zL0]
theorem zHe (a b : House) : zLp prog 136 [a.enc, b.enc] [] (iV (zME a b)) [] := by
 refine q8 func136 rfl (fun E hE => ?_); simp only [go_sem, ntmps136]
 repeat' (first | (refine Qr rfl ?_; try intro _ hK; try simp only [go_sem, *]) | refine Qh rfl ?_ | refine Qd rfl (by kernel_rfl) ?_ | (refine Qc rfl rfl ?_ ?_ <;> (intro hb; have hc := hb; try simp only [go_sem] at hc)) | refine q6 rfl ?_ | (refine Qb ?_ ?_; focus kernel_rfl) | ((first | refine y4 (zCv _ _) ?_ | refine y4 (U3 a.plate b.plate) ?_); simp only [go_sem, *]) | ((with_reducible apply And.intro); focus omega) | (refine z8 hK ?_; clear hK; simp only [go_sem, *]) | simp only [z6, z7, go_sem, *])
 (refine B6 [2] (zCx [zML a.street b.street, zL0 a.plate b.plate] (by simp)) (by simp only [go_sem, *]) (.raw _) ?_; simp only [go_sem, *])
 repeat' (first | (refine Qr rfl ?_; try intro _ hK; try simp only [go_sem, *]) | refine Qh rfl ?_ | refine Qd rfl (by kernel_rfl) ?_ | (refine Qc rfl rfl ?_ ?_ <;> (intro hb; have hc := hb; try simp only [go_sem] at hc)) | refine q6 rfl ?_ | (refine Qb ?_ ?_; focus kernel_rfl) | ((with_reducible apply And.intro); focus omega) | (refine z8 hK ?_; clear hK; simp only [go_sem, *]) | simp only [z6, z7, go_sem, *])
 (refine ⟨[_], [], [], ⟨rfl, trivial⟩, ?_⟩; simp only [go_sem, *])
 rw [zCY, zME]
theorem zCQ (n m : Int) (h : 0 < m) : n % m = if n.tmod m < 0 then n.tmod m + m else n.tmod m := by
 have h1 := Int.tmod_add_mul_tdiv n m
 have h2 := Int.tmod_lt_of_pos n h
 have h3 := Int.lt_tmod_of_pos n h
 have e : n % m = n.tmod m % m := by
  conv => lhs; rw [← h1]
  rw [Int.add_mul_emod_self_left]
 rw [e]
 split
 ·rw [← Int.emod_eq_of_lt (a := n.tmod m + m) (b := m) (by omega) (by omega), Int.add_emod_right]
 ·exact Int.emod_eq_of_lt (by omega) h2
theorem zCw (n m : Int) (h : 0 < m) (hm : m ≤ 4294967296) : zLp prog 65 [iV n, iV m] [] (iV (n % m)) [] := by
 have h2 := Int.tmod_lt_of_pos n h
 have h3 := Int.lt_tmod_of_pos n h
 refine q8 func65 rfl (fun E hE => ?_); simp only [go_sem, ntmps65]
 repeat' (first | (refine Qr rfl ?_; try intro _ hK; try simp only [go_sem, *]) | refine Qh rfl ?_ | (refine Qc rfl rfl ?_ ?_ <;> (intro hb; have hc := hb; try simp only [go_sem] at hc)) | refine q6 rfl ?_ | ((with_reducible apply And.intro); focus omega) | (refine z8 hK ?_; clear hK; simp only [go_sem, *]) | simp only [z6, z7, go_sem, *])
 ·(refine ⟨[_], [], [], ⟨rfl, trivial⟩, ?_⟩; simp only [go_sem, *])
  rw [zCQ n m h, if_pos (by assumption), wrap_i64 (by omega) (by omega)]
 ·(refine ⟨[_], [], [], ⟨rfl, trivial⟩, ?_⟩; simp only [go_sem, *])
  rw [zCQ n m h, if_neg (by omega)]
theorem zEC {l : List Plate} {k : Nat} (h : k < l.length) (o : Option Plate) (ho : o = if k = 0 then none else some (l.getD (k - 1) default)) :
  p4 o (l.drop k) = if (l.getD k default).ok = true then (if k = 0 ∨ (l.getD (k - 1) default).lt (l.getD k default) = true then p4 (some (l.getD k default)) (l.drop (k + 1)) else 5) else 1 := by
 rw [u0 h]
 subst ho
 by_cases hk : k = 0
 ·simp [hk, p4]
 ·simp [hk, p4]
def N8 (l : List Plate) (k : Nat) : Option Plate := if k = 0 then none else some (l.getD (k - 1) default)
theorem zCh (l : List Plate) (k : Nat) : N8 l (k + 1) = some (l.getD k default) := by simp [N8]
theorem zCm {p : zLo} {i : Nat} (h : i < p.length) : j3 (p.drop i) = if 8 < (p.getD i default).length then 6 else if p4 none (p.getD i default) = 0 then j3 (p.drop (i + 1)) else p4 none (p.getD i default) := by
 rw [u0 h, j3]
theorem Z5 (p : zLo) (h1 : p.length ≤ 4294967296) : zLp prog 27 [x7 p] [] (iV (check p)) [] := by
  have e0 : p.length = 0 → check p = 7 := fun h => by unfold check; rw [if_pos h]
  have e1 : ¬ p.length = 0 → 3 < p.length → check p = 6 := fun h h' => by unfold check; rw [if_neg h, if_pos h']
  have e2 : ¬ p.length = 0 → ¬ 3 < p.length → check p = j3 p := fun h h' => by unfold check; rw [if_neg h, if_neg h']
  refine q8 func27 rfl (fun E hE => ?_); simp only [go_sem, ntmps27]
  repeat' (first | (refine Qr rfl ?_; try intro _ hK; try simp only [go_sem, *]) | (refine Qi rfl rfl rfl rfl ?_ ?_ <;> (intro hb; (try intro _ hK); have hc := hb; try simp only [go_sem] at hc; simp only [go_sem, *])) | refine Qh rfl ?_ | refine Qd rfl (by kernel_rfl) ?_ | (refine Qc rfl rfl ?_ ?_ <;> (intro hb; have hc := hb; try simp only [go_sem] at hc)) | refine q6 rfl ?_ | (refine Qb ?_ ?_; focus kernel_rfl) | ((with_reducible apply And.intro); focus omega) | (refine z8 hK ?_; clear hK; simp only [go_sem, *]) | simp only [z6, z7, go_sem, *])
  · (refine ⟨[_], [], [], ⟨rfl, trivial⟩, ?_⟩; simp only [go_sem, *])
    rw [e0 (by omega)]
  · (refine ⟨[_], [], [], ⟨rfl, trivial⟩, ?_⟩; simp only [go_sem, *])
    rw [e1 (by omega) (by omega)]
  · have e3 := e2 (by omega) (by omega)
    clear e0 e1 e2
    refine u3 rfl (p.length) (fun i => j3 (p.drop i) = j3 p) 49 (fun i => [(18, iV i), (17, iV p.length), (16, .list (p.map y7))]) (fun i => []) [] [] (by simp) ?_; intro i hi hP
    repeat' (first | (refine Qr rfl ?_; try intro _ hK; try simp only [go_sem, *]) | (refine Qi rfl rfl rfl rfl ?_ ?_ <;> (intro hb; (try intro _ hK); have hc := hb; try simp only [go_sem] at hc; simp only [go_sem, *])) | refine Qh rfl ?_ | refine Qd rfl (by kernel_rfl) ?_ | (refine Qc rfl rfl ?_ ?_ <;> (intro hb; have hc := hb; try simp only [go_sem] at hc)) | refine q6 rfl ?_ | (refine Qb ?_ ?_; focus kernel_rfl) | ((with_reducible apply And.intro); focus omega) | (refine z8 hK ?_; clear hK; simp only [go_sem, *]) | simp only [z6, z7, go_sem, *])
    · (refine ⟨[_], [], [], ⟨rfl, trivial⟩, ?_⟩; simp only [go_sem, *])
      rw [← hP, zCm (by omega), if_pos (by omega)]
    · have hl : (p.getD i default).length ≤ 8 := by omega
      have hi' : i < p.length := by omega
      rw [zCm hi', if_neg (by omega)] at hP
      generalize hll : p.getD i default = l at *
      refine u3 rfl (l.length) (fun k => p4 (N8 l k) (l.drop k) = p4 none l) 49 (fun k => [(27, iV k), (26, iV l.length), (25, y7 l), (4, y7 l), (18, iV i), (17, iV p.length), (16, .list (p.map y7))]) (fun k => []) [] [] (by simp [N8]) ?_; intro k hk hK
      have hw : 0 < k → IntKind.i64.wrap ((k : Int) - 1) = ((k - 1 : Nat) : Int) := fun h => by rw [wrap_i64 (by omega) (by omega)]; omega
      have hk1 : k < l.length → k - 1 < l.length := fun h => by omega
      have hstep : ∀ h : k < l.length, _ := fun h => zEC h (N8 l k) rfl
      repeat' (first | (refine Qr rfl ?_; try intro _ hK; try simp only [go_sem, *]) | (refine Qi rfl rfl rfl rfl ?_ ?_ <;> (intro hb; (try intro _ hK); have hc := hb; try simp only [go_sem] at hc; simp only [go_sem, *])) | refine Qh rfl ?_ | refine Qd rfl (by kernel_rfl) ?_ | (refine Qc rfl rfl ?_ ?_ <;> (intro hb; have hc := hb; try simp only [go_sem] at hc)) | refine q6 rfl ?_ | (refine Qb ?_ ?_; focus kernel_rfl) | ((first | refine y4 (zC9 _) ?_ | refine y4 (U3 _ _) ?_); simp only [go_sem, *]) | ((with_reducible apply And.intro); focus omega) | (refine z8 hK ?_; clear hK; simp only [go_sem, *]) | simp only [z6, z7, go_sem, *])
      · (refine ⟨[_], [], [], ⟨rfl, trivial⟩, ?_⟩; simp only [go_sem, *])
        rw [hstep (by omega), if_neg (by simp_all)] at hK
        rw [← hK, if_neg (by omega)] at hP
        rw [← hP]
      · (refine ⟨[_], [], [], ⟨rfl, trivial⟩, ?_⟩; simp only [go_sem, *])
        have hlt : ¬ (l.getD (k - 1) default).lt (l.getD k default) = true := by rw [← L6]; omega
        rw [hstep (by omega), if_pos (by assumption), if_neg (by intro h; rcases h with h | h; · omega
                                                                 · exact hlt h)] at hK
        rw [← hK, if_neg (by omega)] at hP
        rw [← hP]
      · have hlt : (l.getD (k - 1) default).lt (l.getD k default) = true := by rw [← L6]; omega
        exact u2 (i' := k + 1) [] [] (by rw [← hK, hstep (by omega), if_pos (by assumption), if_pos (.inr hlt), zCh])
      · exact u2 (i' := k + 1) [] [] (by rw [← hK, hstep (by omega), if_pos (by assumption), if_pos (.inl (by omega)), zCh])
      · rw [u7 (by omega)] at hK
        have h0 : p4 none l = 0 := by rw [← hK]; cases N8 l k <;> rfl
        rw [if_pos h0] at hP
        exact u2 (i' := i + 1) [] [] (by exact hP)
    · (refine ⟨[_], [], [], ⟨rfl, trivial⟩, ?_⟩; simp only [go_sem, *])
      rw [← hP, u7 (by omega), j3]
end Go.Abs

namespace Go.Abs
open Go Go.Proofs Tryz
theorem zAQ : Maps.Keyed prog 57 := Maps.Keyed.of_law (deep_law (m := 4) (by omega) (by kernel_rfl) (by kernel_rfl) (by kernel_rfl))
structure House.Wf (h : House) : Prop where
 s : (Lit.int .i64 h.street).wf = true
 n : (Lit.int .i64 h.plate.number).wf = true
 l : (Lit.int .i64 h.plate.letter).wf = true
@[reducible] def House.key (h : House) : Value := .agg #[.int .i64 h.street, .int .i64 h.plate.number, .int .i64 h.plate.letter]
theorem zAT (d : Nat) (n : Int) (h : (Lit.int .i64 n).wf = true) : prog.keyLits (d + 1) 3 [.int .i64 n] = some [.int .i64 n] := by
 have hu : prog.underlying 3 = some (.int .i64) := by kernel_rfl
 unfold Program.keyLits
 rw [hu]; simp [h]
theorem zGC (d : Nat) (n m : Int) (h : (Lit.int .i64 n).wf = true) (h' : (Lit.int .i64 m).wf = true) : prog.keyLits (d + 2) 26 [.int .i64 n, .int .i64 m] = some [.int .i64 n, .int .i64 m] := by
 have hu : prog.underlying 26 = some (.struct (prog.fieldsOf 26)) := by kernel_rfl
 have hl : (prog.fieldsOf 26).toList = [(prog.fieldsOf 26).toList.getD 0 default, (prog.fieldsOf 26).toList.getD 1 default] := by kernel_rfl
 have t0 : ((prog.fieldsOf 26).toList.getD 0 default).type = 3 := by kernel_rfl
 have t1 : ((prog.fieldsOf 26).toList.getD 1 default).type = 3 := by kernel_rfl
 have o0 : ((prog.fieldsOf 26).toList.getD 0 default).offset = 0 := by kernel_rfl
 have o1 : ((prog.fieldsOf 26).toList.getD 1 default).offset = 1 := by kernel_rfl
 have c3 : prog.cellsOf 3 = 1 := by kernel_rfl
 have c26 : prog.cellsOf 26 = 2 := by kernel_rfl
 have hn : (prog.fieldsOf 26).all (·.name != "_") = true := by kernel_rfl
 unfold Program.keyLits
 rw [hu]
 simp only [hn, c26, List.length_cons, List.length_nil, and_self, if_true]
 rw [hl]
 generalize (prog.fieldsOf 26).toList.getD 0 default = f0 at *
 generalize (prog.fieldsOf 26).toList.getD 1 default = f1 at *
 simp [List.mapM_cons, t0, t1, o0, o1, c3, zAT d _ h, zAT d _ h']
theorem zGD (d : Nat) (a n m : Int) (h0 : (Lit.int .i64 a).wf = true) (h : (Lit.int .i64 n).wf = true) (h' : (Lit.int .i64 m).wf = true) : prog.keyLits (d + 3) 57 [.int .i64 a, .int .i64 n, .int .i64 m] = some [.int .i64 a, .int .i64 n, .int .i64 m] := by
 have hu : prog.underlying 57 = some (.struct (prog.fieldsOf 57)) := by kernel_rfl
 have hl : (prog.fieldsOf 57).toList = [(prog.fieldsOf 57).toList.getD 0 default, (prog.fieldsOf 57).toList.getD 1 default] := by kernel_rfl
 have t0 : ((prog.fieldsOf 57).toList.getD 0 default).type = 3 := by kernel_rfl
 have t1 : ((prog.fieldsOf 57).toList.getD 1 default).type = 26 := by kernel_rfl
 have o0 : ((prog.fieldsOf 57).toList.getD 0 default).offset = 0 := by kernel_rfl
 have o1 : ((prog.fieldsOf 57).toList.getD 1 default).offset = 1 := by kernel_rfl
 have c3 : prog.cellsOf 3 = 1 := by kernel_rfl
 have c26 : prog.cellsOf 26 = 2 := by kernel_rfl
 have c57 : prog.cellsOf 57 = 3 := by kernel_rfl
 have hn : (prog.fieldsOf 57).all (·.name != "_") = true := by kernel_rfl
 unfold Program.keyLits
 rw [hu]
 simp only [hn, c57, List.length_cons, List.length_nil, and_self, if_true]
 rw [hl]
 generalize (prog.fieldsOf 57).toList.getD 0 default = f0 at *
 generalize (prog.fieldsOf 57).toList.getD 1 default = f1 at *
 simp [List.mapM_cons, t0, t1, o0, o1, c3, c26, zAT (d + 1) _ h0, zGC d _ _ h h']
theorem O3 (h : House) (hw : h.Wf) : zMM prog 57 h.key := by
 have hu : prog.underlying 57 = some (.struct (prog.fieldsOf 57)) := by kernel_rfl
 have hk : prog.keyType 57 = true := by kernel_rfl
 have hs : ∃ d, prog.types.size + 1 = d + 3 := ⟨prog.types.size - 2, by kernel_rfl⟩
 have hf : h.key.formed prog 57 = true := by
  have : prog.cellsOf 57 = 3 := by kernel_rfl
  simp [House.key, Value.formed, hu, this]
 obtain ⟨d, hd⟩ := hs
 unfold zMM keyOf
 rw [hu]
 simp only [hk, hf, Bool.and_self, if_true, hd]
 rw [show h.key.cells.toList = [.int .i64 h.street, .int .i64 h.plate.number, .int .i64 h.plate.letter] from rfl, zGD d _ _ _ hw.s hw.n hw.l]
 exact ⟨_, rfl⟩
end Go.Abs

namespace Go.Abs
open Go Go.Proofs Tryz
theorem House.key_inj {a b : House} : a.key = b.key ↔ a = b := by
 rw [House.eq_iff]
 simp [House.key]
theorem T9 (h : House) : ∀ hs : List House, zL7 h.key (hs.map House.key) = if h ∈ hs then some (hs.idxOf h) else none
 | [] => by simp [zL7]
 | x :: r => by
  have ih := T9 h r
  rw [List.map_cons]
  unfold zL7
  by_cases e : x = h
  ·subst e; simp
  ·have e' : ¬ x.key = h.key := fun k => e (House.key_inj.1 k)
   rw [if_neg e', ih]
   by_cases hm : h ∈ r
   ·rw [if_pos hm, if_pos (by simp [hm])]
    have hb : (x == h) = false := by simpa using e
    simp [List.idxOf_cons, hb]
   ·rw [if_neg hm, if_neg (by simp only [List.mem_cons, not_or]; exact ⟨fun k => e k.symm, hm⟩)]; rfl
theorem zKF (hs : List House) (h : House) : zMS (hs.map House.key) h.key = decide (h ∈ hs) := by
 unfold zMS; rw [T9]; by_cases hm : h ∈ hs <;> simp [hm]
theorem zGE {hs : List House} {h : House} (F : House → AV) (z : AV) : Z1 (hs.map House.key) (hs.map F) h.key z = if h ∈ hs then F h else z := by
 unfold Z1; rw [T9]
 by_cases hm : h ∈ hs
 ·rw [if_pos hm, if_pos hm]
  have hlt := List.idxOf_lt_length_of_mem hm
  simp [hlt, List.getElem_idxOf]
 ·rw [if_neg hm, if_neg hm]
theorem zGi {hs : List House} {h : House} (hm : h ∈ hs) : zMU (hs.map House.key) h.key = hs.map House.key := by
 unfold zMU; rw [T9, if_pos hm]
theorem zGh {hs : List House} {h : House} (hm : h ∉ hs) : zMU (hs.map House.key) h.key = (hs ++ [h]).map House.key := by
 unfold zMU; rw [T9, if_neg hm]; simp
theorem zGj {hs : List House} {h : House} (xs : List AV) (v : AV) (hm : h ∉ hs) : zMV (hs.map House.key) xs h.key v = xs ++ [v] := by
 unfold zMV; rw [T9, if_neg hm]
theorem zGk {hs : List House} {h : House} (hn : hs.Nodup) (F : House → AV) (v : AV) (hm : h ∈ hs) : zMV (hs.map House.key) (hs.map F) h.key v = hs.map (fun k => if k = h then v else F k) := by
 unfold zMV; rw [T9, if_pos hm]
 apply List.ext_getElem (by simp)
 intro i h1 h2
 simp only [List.getElem_set, List.getElem_map]
 simp at h2
 have hlt := List.idxOf_lt_length_of_mem hm
 have hg : hs[hs.idxOf h] = h := by simp [List.getElem_idxOf]
 by_cases e : hs.idxOf h = i
 ·subst e; simp [hg]
 ·rw [if_neg e, if_neg]
  intro e2
  apply e
  have : hs[hs.idxOf h] = hs[i] := by rw [hg, e2]
  exact (X5 hn).1 this
theorem zAa : ∃ et, zMB prog 121 = some (57, et) ∧ zeroT prog et = some (.slice none 0 0) := by
 have h : ((zMB prog 121).map (·.1)) = some 57 := by kernel_rfl
 have h2 : ((zMB prog 121).bind fun x => zeroT prog x.2) = some (.slice none 0 0) := by kernel_rfl
 cases hm : zMB prog 121 with
 | none => rw [hm] at h; cases h
 | some x => rw [hm] at h h2; obtain ⟨k, e⟩ := x; simp at h; subst h; exact ⟨e, rfl, by simpa using h2⟩
theorem zAP (h : House) : zMa h.enc = some h.key := by simp [House.enc, zMa, j7, House.key]
theorem zDV {h : House} {hs : List House} {F : House → AV} {x : AV} {o : Nat} {H : Nat → AObj} {K : Cont} (ho : H o = .mapo (hs.map House.key) (hs.map F)) (hw : ∀ k, k ∈ hs → k.Wf) (hn : hs.Nodup) (hm : h ∈ hs)
  (hp : Pure (zLq H 3 x).1) (hc : (zLq H 3 x).2.contains o = false)
  (hk : K (.tup []) (o :: (zLq H 3 x).2) (v6 (zLq H 3 x).2 ++ [(o, .mapo (hs.map House.key) (hs.map fun k => if k = h then (zLq H 3 x).1 else F k))])) : j6 prog 121 (.mp o) h.enc x H K := by
 obtain ⟨et, h1, _⟩ := zAa
 unfold j6
 rw [h1, zAP]
 simp only [ho]
 refine ⟨zAQ, O3 h (hw h hm), fun q hq => ?_, hp, hc, ?_⟩
 ·obtain ⟨k, hk, rfl⟩ := List.mem_map.1 hq; exact O3 k (hw k hk)
 ·rw [zGi hm, zGk hn F _ hm]; exact hk
theorem zCV {h : House} {hs : List House} {xs : List AV} {x : AV} {o : Nat} {H : Nat → AObj} {K : Cont} (ho : H o = .mapo (hs.map House.key) xs) (hw : ∀ k, k ∈ hs → k.Wf) (hh : h.Wf) (hm : h ∉ hs)
  (hp : Pure (zLq H 3 x).1) (hc : (zLq H 3 x).2.contains o = false)
  (hk : K (.tup []) (o :: (zLq H 3 x).2) (v6 (zLq H 3 x).2 ++ [(o, .mapo ((hs ++ [h]).map House.key) (xs ++ [(zLq H 3 x).1]))])) : j6 prog 121 (.mp o) h.enc x H K := by
 obtain ⟨et, h1, _⟩ := zAa
 unfold j6
 rw [h1, zAP]
 simp only [ho]
 refine ⟨zAQ, O3 h hh, fun q hq => ?_, hp, hc, ?_⟩
 ·obtain ⟨k, hk, rfl⟩ := List.mem_map.1 hq; exact O3 k (hw k hk)
 ·rw [zGh hm, zGj xs _ hm]; exact hk
theorem zFH {H : Nat → AObj} {q n : Nat} {hl : List House} {rows : List AV} (h : H q = .row 3 rows) (hr : rows = hl.map House.enc) (hn : n = hl.length) : zLq H 3 (.own q 3 0 n) = (.list (hl.map House.enc), [q]) := by
 subst hr; subst hn
 simp [zLq, h, List.take_of_length_le]
theorem V7 {h : House} {hs : List House} {F : House → AV} {H : Nat → AObj} {K : Cont} (hw : ∀ k, k ∈ hs → k.Wf) (hh : h.Wf)
  (hk : K (if h ∈ hs then F h else .list []) [] []) : X2 prog 121 (.fmap (hs.map House.key) (hs.map F)) h.enc false H K := by
 obtain ⟨et, h1, h2⟩ := zAa
 unfold X2
 rw [h1, zAP]
 simp only [h2]
 refine ⟨zAQ, O3 h hh, by simp [Value.cells, Value.oneCell'], fun q hq => ?_, ?_⟩
 ·obtain ⟨k, hk, rfl⟩ := List.mem_map.1 hq; exact O3 k (hw k hk)
 ·rw [zGE]; simpa [zAV] using hk
def zLs (g : House → List House) (h : House) : AV := .list ((g h).map House.enc)
@[reducible] def w5 (p : zLo) : List Value := (q9 p).map House.key
@[reducible] def w4 (p : zLo) (g : House → List House) : List AV := (q9 p).map (zLs g)
theorem zGM {p : zLo} {g g' : House → List House} (h : ∀ k, k ∈ q9 p → g k = g' k) : w4 p g = w4 p g' := List.map_congr_left (fun k hk => by simp [zLs, h k hk])
def Upd (p : zLo) (c : Change) (g : House → List House) (done : List Plate) : Prop := ∀ h, h ∈ q9 p → g h = if h.street = c.street ∧ h.plate ∈ done then mv p c h else [h]
theorem Upd.nil (p : zLo) (c : Change) : Upd p c (fun h => [h]) [] := fun h _ => by simp
theorem Upd.step {p : zLo} {c : Change} {g : House → List House} {done : List Plate} (h : Upd p c g done) (x : Plate) : Upd p c (fun k => if k = ⟨c.street, x⟩ then mv p c ⟨c.street, x⟩ else g k) (done ++ [x]) := fun k hk => by
 simp only
 by_cases e : k = ⟨c.street, x⟩
 ·subst e; simp
 ·rw [if_neg e, h k hk]
  have : (k.street = c.street ∧ k.plate ∈ done ++ [x]) ↔ (k.street = c.street ∧ k.plate ∈ done) := by
   constructor
   ·rintro ⟨h1, h2⟩
    rcases List.mem_append.1 h2 with h2 | h2
    ·exact ⟨h1, h2⟩
    ·simp at h2; exact absurd (by cases k; simp_all) e
   ·rintro ⟨h1, h2⟩; exact ⟨h1, by simp [h2]⟩
  simp only [this]
theorem Upd.fin {p : zLo} {c : Change} {g : House → List House} {done : List Plate} (h : Upd p c g done) (hd : ∀ x, x ∈ q7 p c.street → x ∉ done → toP p c x = [⟨c.street, x⟩]) : w4 p g = w4 p (mv p c) := zGM fun k hk => by
 rw [h k hk]
 by_cases e : k.street = c.street
 ·by_cases hm : k.plate ∈ done
  ·rw [if_pos ⟨e, hm⟩]
  ·rw [if_neg (fun x => hm x.2)]
   have hr := (mem_houses.1 hk).2.2
   rw [e] at hr
   rw [mv, if_pos e, hd _ hr hm]; cases k; simp_all
 ·rw [if_neg (fun x => e x.1), mv, if_neg e]
theorem C5 {n : Int} (h0 : -9223372036854775808 ≤ n) (h1 : n ≤ 9223372036854775807) : (Lit.int .i64 n).wf = true := by
 simp [Lit.wf, IntKind.min, IntKind.max, IntKind.signed, IntKind.bits]; omega
theorem Valid.wf {p : zLo} (v : Valid p) : ∀ h, h ∈ q9 p → h.Wf := fun h hh => by
 obtain ⟨h0, h1, h2⟩ := mem_houses.1 hh
 have := (o3 _).1 ((v.row h.street).ok _ h2)
 have := v.len
 exact ⟨C5 (by omega) (by omega), C5 (by omega) (by omega), C5 (by omega) (by omega)⟩
theorem Valid.nodup {p : zLo} (v : Valid p) : (q9 p).Nodup := (zDL v).nodup
theorem Valid.count {p : zLo} (v : Valid p) : (q9 p).length ≤ 24 := by
 have key : ∀ n, n ≤ p.length → ((List.range n).flatMap fun s => (p.getD s default).map fun x => (⟨(s : Nat), x⟩ : House)).length ≤ n * 8 := by
  intro n
  induction n with
  | zero => intro _; simp
  | succ n ih =>
   intro hn
   have := (v.rows _ (w8 (l := p) (i := n) (by omega))).len
   have := ih (by omega)
   rw [List.range_succ, List.flatMap_append]
   simp only [List.length_append, List.flatMap_cons, List.flatMap_nil, List.append_nil, List.length_map]
   omega
 rw [F0]
 have := key p.length (Nat.le_refl _)
 have := v.len
 omega
end Go.Abs

namespace Go.Abs
open Go Go.Proofs Tryz
@[go_sem] theorem zLP (p : zLo) (s : Int) : List.getD p s.toNat default = q7 p s := rfl
theorem zJQ {P : Program} {f : FuncId} {avs : List AV} {H : Nat → AObj} {nx : Nat} {K : Cont} {r : AV} {out : List AObj} (sp : zLp P f avs [] r out) (h : XpL H [] [] avs avs) (hu : ∀ j, j < out.length → H (nx + j) = .unb) (h7 : ∀ A, A ∈ out → A ≠ .unb)
  (hk : K (r.ren (v7 [] nx)) (i4 [] nx out) (r6 [] nx out)) : x8 P f avs H nx K :=
 y9 [] [] sp (by simp) h trivial (by simp) (.inl rfl) (fun j hj => hu j (by simpa using hj)) h7 (by simpa using hk)
attribute [go_sem] Nat.mul_one List.length_set
@[go_sem] theorem zKj (n : Nat) : ((n : Int) < 2) = (n < 2) := by simp; omega
@[go_sem] theorem zKT : ((0 : Nat) : Int) = 0 := rfl
@[go_sem] theorem zKU : ((1 : Nat) : Int) = 1 := rfl
@[go_sem] theorem zKV : ((2 : Nat) : Int) = 2 := rfl
@[go_sem] theorem zKW : ((3 : Nat) : Int) = 3 := rfl
@[go_sem] theorem zKX : ((4 : Nat) : Int) = 4 := rfl
@[go_sem] theorem zKY : ((5 : Nat) : Int) = 5 := rfl
@[go_sem] theorem zKZ : ((6 : Nat) : Int) = 6 := rfl
@[go_sem] theorem zKa : ((7 : Nat) : Int) = 7 := rfl
@[go_sem] theorem zKb : ((8 : Nat) : Int) = 8 := rfl
@[go_sem] theorem zLh {α β : Type} (f : α → β) (l : List α) : (l.map f).take l.length = l.map f := List.take_of_length_le (by simp)
theorem zBA {H : Nat → AObj} {m : List (Option Nat)} {ex : List Nat} {α : Type} {f : α → AV} (hf : ∀ x, XpF H m ex (f x) (f x)) : ∀ l : List α, XpL H m ex (l.map f) (l.map f)
 | [] => by simp [zBB]
 | x :: r => by simp only [List.map_cons, C9]; exact ⟨hf x, zBA hf r⟩
@[go_sem] theorem zI1 (H : Nat → AObj) (m : List (Option Nat)) (ex : List Nat) (l : List (List Plate)) : XpL H m ex (l.map y7) (l.map y7) ↔ True := ⟨fun _ => trivial, fun _ => zBA (fun x => by simp only [XpF]) l⟩
@[go_sem] theorem zJs (H : Nat → AObj) (n : Nat) (f : Fn) (a b : Array Value) : zLq H (n + 1) (.raw (.func f a b)) = (.raw (.func f a b), []) := rfl
def NoP (_ : Nat) : Prop := True
def zL8 (p : zLo) (c : Change) (g : House → List House) (x : Plate) : House → List House := fun k => if k = ⟨c.street, x⟩ then mv p c ⟨c.street, x⟩ else g k
theorem Upd.one {p : zLo} {c : Change} {g : House → List House} {done : List Plate} (h : Upd p c g done) (x : Plate) : Upd p c (zL8 p c g x) (done ++ [x]) := h.step x
theorem zCT (p : zLo) (c : Change) (x : Plate) : mv p c ⟨c.street, x⟩ = toP p c x := by simp [mv]
theorem zB1 {p : zLo} {c : Change} (hs0 : 0 ≤ c.street) (hs1 : c.street < p.length) {x : Plate} (hx : x ∈ q7 p c.street) : (⟨c.street, x⟩ : House) ∈ q9 p := mem_houses.2 ⟨hs0, hs1, hx⟩
theorem R9 {p : zLo} {c : Change} {g : House → List House} {x : Plate} {o q n : Nat} {H : Nat → AObj} {K : Cont} (hl : List House) (v : Valid p) (hs0 : 0 ≤ c.street) (hs1 : c.street < p.length) (hx : x ∈ q7 p c.street)
  (ho : H o = .mapo (w5 p) (w4 p g)) (hq : H q = .row 3 (hl.map House.enc)) (hn : n = hl.length) (hoq : (q == o) = false) (e : toP p c x = hl)
  (hk : K (.tup []) [o, q] [(q, .dead), (o, .mapo (w5 p) (w4 p (zL8 p c g x)))]) : j6 prog 121 (.mp o) (.agg [iV c.street, iV x.number, iV x.letter]) (.own q 3 0 n) H K := by
 have hf := zFH hq rfl hn
 refine zDV (h := ⟨c.street, x⟩) (hs := q9 p) (F := zLs g) ho v.wf v.nodup (zB1 hs0 hs1 hx) (by rw [hf]; exact .list _) (by rw [hf]; simpa using fun e => by simp [e] at hoq) ?_
 rw [hf]
 have : (q9 p).map (fun k => if k = ⟨c.street, x⟩ then AV.list (hl.map House.enc) else zLs g k) = w4 p (zL8 p c g x) := by
  refine List.map_congr_left (fun k _ => ?_)
  unfold zLs zL8
  rw [zCT, e]
  split <;> rfl
 rw [this]
 exact hk
theorem zIO {p : zLo} {c : Change} {g : House → List House} {x : Plate} {o : Nat} {H : Nat → AObj} {K : Cont} (v : Valid p) (hs0 : 0 ≤ c.street) (hs1 : c.street < p.length) (hx : x ∈ q7 p c.street)
  (ho : H o = .mapo (w5 p) (w4 p g)) (e : toP p c x = [])
  (hk : K (.tup []) [o] [(o, .mapo (w5 p) (w4 p (zL8 p c g x)))]) : j6 prog 121 (.mp o) (.agg [iV c.street, iV x.number, iV x.letter]) zLz H K := by
 have hf : zLq H 3 zLz = (.list [], []) := rfl
 refine zDV (h := ⟨c.street, x⟩) (hs := q9 p) (F := zLs g) ho v.wf v.nodup (zB1 hs0 hs1 hx) (by rw [hf]; exact .list _) (by rw [hf]; rfl) ?_
 rw [hf]
 have : (q9 p).map (fun k => if k = ⟨c.street, x⟩ then AV.list [] else zLs g k) = w4 p (zL8 p c g x) := by
  refine List.map_congr_left (fun k _ => ?_)
  unfold zLs zL8
  rw [zCT, e]
  split <;> rfl
 rw [this]
 exact hk
@[reducible] def zMO (c : Change) : AObj := .box [iV c.kind, iV c.street, iV c.other, iV c.src.number, iV c.src.letter, iV c.dst.number, iV c.dst.letter]
@[reducible] def zL3 (p : zLo) : AObj := .box [.list (p.map y7)]
attribute [go_sem] zMO zL3 w5 w4
structure Pre (p : zLo) (c : Change) : Prop where
 kind : 1 ≤ c.kind ∧ c.kind ≤ 7
 street : 0 ≤ c.street ∧ c.street < p.length
 other : c.kind = 4 ∨ c.kind = 7 → 0 ≤ c.other ∧ c.other < p.length ∧ c.other ≠ c.street
theorem Pre.fit {p : zLo} {c : Change} (h : Pre p c) (hf : x9 p c = 0) : Fit p c := ⟨h.kind, h.street, h.other, hf⟩
def zLw (p : zLo) (c : Change) : AObj := if x9 p c = 0 then .mapo (w5 p) (w4 p (mv p c)) else .dead
end Go.Abs

namespace Go.Abs
open Go
@[go_sem] theorem zKf (m n : Nat) : ((m : Int) = (n : Int)) = (m = n) := by simp only [eq_iff_iff]; omega
@[go_sem] theorem zGP (m n : Nat) : ((m : Int) == (n : Int)) = decide (m = n) := by rw [Bool.eq_iff_iff]; simp only [beq_iff_eq, decide_eq_true_eq]; omega
@[go_sem] theorem zKc (m n : Nat) : ((m : Int) != (n : Int)) = !decide (m = n) := by simp [bne, zGP]
@[go_sem] theorem zLn : zeroPlate.number = 0 := rfl
@[go_sem] theorem zLm : zeroPlate.letter = 0 := rfl
end Go.Abs

namespace Go.Abs
open Go Go.Proofs Tryz
attribute [local irreducible] y6 Hold x8
theorem zAG {p : zLo} {i : Nat} (h : i < p.length) : p8 i (p.drop i) = (p.getD i default).map (fun x => (⟨(i : Nat), x⟩ : House)) ++ p8 (i + 1) (p.drop (i + 1)) := by
 rw [u0 h, p8]
theorem zAZ {l : List Plate} {k : Nat} (h : k < l.length) (i : Int) : (l.drop k).map (fun x => (⟨i, x⟩ : House)) = ⟨i, l.getD k default⟩ :: (l.drop (k + 1)).map (fun x => (⟨i, x⟩ : House)) := by
 rw [u0 h, List.map_cons]
theorem zHU (p : zLo) (h1 : p.length ≤ 4294967296) (h2 : ∀ l, l ∈ p → l.length ≤ 4294967296) (h3 : (q9 p).length ≤ 4294967296) : zLp prog 34 [x7 p] [] (.own 0 3 0 (q9 p).length) [.row 3 ((q9 p).map House.enc)] := by
 refine q8 func34 rfl (fun E hE => ?_); simp only [go_sem, ntmps34]
 repeat' (first | (refine Qr rfl ?_; try intro _ hK; try simp only [go_sem, *]) | refine Qh rfl ?_ | (refine Qc rfl rfl ?_ ?_ <;> (intro hb; have hc := hb; try simp only [go_sem] at hc)) | refine q6 rfl ?_ | ((with_reducible apply And.intro); focus omega) | (refine z8 hK ?_; clear hK; simp only [go_sem, *]) | simp only [z6, z7, go_sem, *])
 refine u4 rfl (p.length) (fun i (acc : List House) => acc ++ p8 i (p.drop i) = q9 p) 37 (fun i acc => [(4, iV i), (3, .own 1 3 0 acc.length), (1, .ptr 0 0)]) (fun i acc => [.box [AV.list (p.map y7)], .row 3 (acc.map House.enc)]) [some 0, none] [] ([]) (by simp [q9]) ?_; intro i acc hi hP
 repeat' (first | (refine Qr rfl ?_; try intro _ hK; try simp only [go_sem, *]) | refine Qh rfl ?_ | (refine Qc rfl rfl ?_ ?_ <;> (intro hb; have hc := hb; try simp only [go_sem] at hc)) | refine q6 rfl ?_ | ((with_reducible apply And.intro); focus omega) | (refine z8 hK ?_; clear hK; simp only [go_sem, *]) | simp only [z6, z7, go_sem, *])
 ·have hl := h2 _ (w8 ‹_›)
  rw [zAG ‹_›] at hP
  generalize hll : p.getD i default = l at *
  refine u4 rfl (l.length) (fun k (acc : List House) => acc ++ ((l.drop k).map (fun x => (⟨(i : Nat), x⟩ : House)) ++ p8 (i + 1) (p.drop (i + 1))) = q9 p) 37 (fun k acc => [(5, iV k), (4, iV i), (3, .own 1 3 0 acc.length), (1, .ptr 0 0)]) (fun k acc => [.box [AV.list (p.map y7)], .row 3 (acc.map House.enc)]) [some 0, some 1] [] (acc) (by simpa using hP) ?_; intro k acc hk hK
  have hlen := congrArg List.length hK
  simp only [List.length_append, List.length_map, List.length_drop] at hlen
  repeat' (first | (refine Qr rfl ?_; try intro _ hK; try simp only [go_sem, *]) | refine Qh rfl ?_ | (refine Qc rfl rfl ?_ ?_ <;> (intro hb; have hc := hb; try simp only [go_sem] at hc)) | refine q6 rfl ?_ | ((with_reducible apply And.intro); focus omega) | (refine z8 hK ?_; clear hK; simp only [go_sem, *]) | simp only [z6, z7, go_sem, *])
  ·exact w6 (i' := k + 1) [some 0, some 3] [] (acc ++ [⟨(i : Nat), l.getD k default⟩]) (by rw [← hK, zAZ (k := k) (by assumption)]; simp)
  ·rw [u7 (by omega)] at hK
   exact w6 (i' := i + 1) [some 0, some 1] [] (acc) (by simpa using hK)
 ·refine ⟨[_], [some 1], [], ⟨rfl, trivial⟩, ?_⟩
  rw [u7 (by omega), p8, List.append_nil] at hP
  simp only [go_sem, hP, *]
theorem zLa (p : zLo) (h1 : p.length ≤ 4294967296) (h2 : ∀ l, l ∈ p → l.length ≤ 4294967296) (h3 : (q9 p).length ≤ 4294967296) : zLp prog 116 [x7 p] [] (.own 0 3 0 (q9 p).length) [.row 3 ((q9 p).map House.enc)] := by
 refine q8 func116 rfl (fun E hE => ?_); simp only [go_sem, ntmps116]
 repeat' (first | (refine Qr rfl ?_; try intro _ hK; try simp only [go_sem, *]) | refine Qh rfl ?_ | (refine Qc rfl rfl ?_ ?_ <;> (intro hb; have hc := hb; try simp only [go_sem] at hc)) | refine q6 rfl ?_ | ((with_reducible apply And.intro); focus omega) | (refine z8 hK ?_; clear hK; simp only [go_sem, *]) | simp only [z6, z7, go_sem, *])
 refine u4 rfl (p.length) (fun i (acc : List House) => acc ++ p8 i (p.drop i) = q9 p) 37 (fun i acc => [(4, iV i), (3, .own 1 3 0 acc.length), (1, .ptr 0 0)]) (fun i acc => [.box [AV.list (p.map y7)], .row 3 (acc.map House.enc)]) [some 0, none] [] ([]) (by simp [q9]) ?_; intro i acc hi hP
 repeat' (first | (refine Qr rfl ?_; try intro _ hK; try simp only [go_sem, *]) | refine Qh rfl ?_ | (refine Qc rfl rfl ?_ ?_ <;> (intro hb; have hc := hb; try simp only [go_sem] at hc)) | refine q6 rfl ?_ | ((with_reducible apply And.intro); focus omega) | (refine z8 hK ?_; clear hK; simp only [go_sem, *]) | simp only [z6, z7, go_sem, *])
 ·have hl := h2 _ (w8 ‹_›)
  rw [zAG ‹_›] at hP
  generalize hll : p.getD i default = l at *
  refine u4 rfl (l.length) (fun k (acc : List House) => acc ++ ((l.drop k).map (fun x => (⟨(i : Nat), x⟩ : House)) ++ p8 (i + 1) (p.drop (i + 1))) = q9 p) 37 (fun k acc => [(5, iV k), (4, iV i), (3, .own 1 3 0 acc.length), (1, .ptr 0 0)]) (fun k acc => [.box [AV.list (p.map y7)], .row 3 (acc.map House.enc)]) [some 0, some 1] [] (acc) (by simpa using hP) ?_; intro k acc hk hK
  have hlen := congrArg List.length hK
  simp only [List.length_append, List.length_map, List.length_drop] at hlen
  repeat' (first | (refine Qr rfl ?_; try intro _ hK; try simp only [go_sem, *]) | refine Qh rfl ?_ | (refine Qc rfl rfl ?_ ?_ <;> (intro hb; have hc := hb; try simp only [go_sem] at hc)) | refine q6 rfl ?_ | ((with_reducible apply And.intro); focus omega) | (refine z8 hK ?_; clear hK; simp only [go_sem, *]) | simp only [z6, z7, go_sem, *])
  ·exact w6 (i' := k + 1) [some 0, some 3] [] (acc ++ [⟨(i : Nat), l.getD k default⟩]) (by rw [← hK, zAZ (k := k) (by assumption)]; simp)
  ·rw [u7 (by omega)] at hK
   exact w6 (i' := i + 1) [some 0, some 1] [] (acc) (by simpa using hK)
 ·refine ⟨[_], [some 1], [], ⟨rfl, trivial⟩, ?_⟩
  rw [u7 (by omega), p8, List.append_nil] at hP
  simp only [go_sem, hP, *]
theorem zHo (p : zLo) (h1 : p.length ≤ 4294967296) (h2 : ∀ l, l ∈ p → l.length ≤ 4294967296) (h3 : (q9 p).length ≤ 4294967296) : zLp prog 160 [x7 p] [] (.own 0 3 0 (q9 p).length) [.row 3 ((q9 p).map House.enc)] := by
 refine q8 func160 rfl (fun E hE => ?_); simp only [go_sem, ntmps160]
 repeat' (first | (refine Qr rfl ?_; try intro _ hK; try simp only [go_sem, *]) | refine Qh rfl ?_ | (refine Qc rfl rfl ?_ ?_ <;> (intro hb; have hc := hb; try simp only [go_sem] at hc)) | refine q6 rfl ?_ | ((with_reducible apply And.intro); focus omega) | (refine z8 hK ?_; clear hK; simp only [go_sem, *]) | simp only [z6, z7, go_sem, *])
 refine u4 rfl (p.length) (fun i (acc : List House) => acc ++ p8 i (p.drop i) = q9 p) 31 (fun i acc => [(11, iV i), (10, iV p.length), (9, .list (p.map y7)), (3, .own 0 3 0 acc.length)]) (fun i acc => [.row 3 (acc.map House.enc)]) [none] [] ([]) (by simp [q9]) ?_; intro i acc hi hP
 repeat' (first | (refine Qr rfl ?_; try intro _ hK; try simp only [go_sem, *]) | refine Qh rfl ?_ | (refine Qc rfl rfl ?_ ?_ <;> (intro hb; have hc := hb; try simp only [go_sem] at hc)) | refine q6 rfl ?_ | ((with_reducible apply And.intro); focus omega) | (refine z8 hK ?_; clear hK; simp only [go_sem, *]) | simp only [z6, z7, go_sem, *])
 ·have hl := h2 _ (w8 ‹_›)
  rw [zAG ‹_›] at hP
  generalize hll : p.getD i default = l at *
  refine u4 rfl (l.length) (fun k (acc : List House) => acc ++ ((l.drop k).map (fun x => (⟨(i : Nat), x⟩ : House)) ++ p8 (i + 1) (p.drop (i + 1))) = q9 p) 31 (fun k acc => [(18, iV k), (17, iV l.length), (16, y7 l), (4, iV i), (11, iV i), (10, iV p.length), (9, .list (p.map y7)), (3, .own 0 3 0 acc.length)]) (fun k acc => [.row 3 (acc.map House.enc)]) [some 0] [] (acc) (by simpa using hP) ?_; intro k acc hk hK
  have hlen := congrArg List.length hK
  simp only [List.length_append, List.length_map, List.length_drop] at hlen
  repeat' (first | (refine Qr rfl ?_; try intro _ hK; try simp only [go_sem, *]) | refine Qh rfl ?_ | (refine Qc rfl rfl ?_ ?_ <;> (intro hb; have hc := hb; try simp only [go_sem] at hc)) | refine q6 rfl ?_ | ((with_reducible apply And.intro); focus omega) | (refine z8 hK ?_; clear hK; simp only [go_sem, *]) | simp only [z6, z7, go_sem, *])
  ·exact w6 (i' := k + 1) [some 3] [] (acc ++ [⟨(i : Nat), l.getD k default⟩]) (by rw [← hK, zAZ (k := k) (by assumption)]; simp)
  ·rw [u7 (by omega)] at hK
   exact w6 (i' := i + 1) [some 0] [] (acc) (by simpa using hK)
 ·refine ⟨[_], [some 0], [], ⟨rfl, trivial⟩, ?_⟩
  rw [u7 (by omega), p8, List.append_nil] at hP
  simp only [go_sem, hP, *]
end Go.Abs

namespace Go.Abs
open Go Go.Proofs Tryz
attribute [local irreducible] y6 Hold x8
theorem zDQ {l : List Plate} {i : Nat} {x : Plate} (h : i < l.length) (hn : x ∉ l.take i) (hx : ¬ l.getD i default = x) : x ∉ l.take (i + 1) := by
 rw [List.take_add_one]
 simp only [List.getD_eq_getElem?_getD, List.getElem?_eq_getElem h, Option.getD_some] at hx
 simp only [List.getElem?_eq_getElem h, Option.toList_some, List.mem_append, List.mem_singleton, not_or]
 exact ⟨hn, fun e => hx e.symm⟩
theorem zB5 {l : List Plate} {i : Nat} {x : Plate} (h : i < l.length) (hn : x ∉ l.take i) (hx : l.getD i default = x) : zMI l x = i := by
 have hg : l.drop i = x :: l.drop (i + 1) := by rw [u0 h, hx]
 have hl : l = l.take i ++ x :: l.drop (i + 1) := by rw [← hg, List.take_append_drop]
 have hm : x ∈ l := by rw [hl]; simp
 rw [Q5 hm]
 conv => lhs; rw [hl]
 rw [List.idxOf_append, if_neg hn]
 simp; omega
theorem O1 {l : List Plate} {x : Plate} (hn : x ∉ l) : zMI l x = -1 := by simp [zMI, hn]
theorem zHp (l : List Plate) (x : Plate) (h1 : l.length ≤ 4294967296) : zLp prog 157 [y7 l, x.enc] [] (iV (zMI l x)) [] := by
 refine q8 func157 rfl (fun E hE => ?_); simp only [go_sem, ntmps157]
 repeat' (first | (refine Qr rfl ?_; try intro _ hK; try simp only [go_sem, *]) | refine Qh rfl ?_ | refine Qd rfl (by kernel_rfl) ?_ | (refine Qc rfl rfl ?_ ?_ <;> (intro hb; have hc := hb; try simp only [go_sem] at hc)) | refine q6 rfl ?_ | (refine Qb ?_ ?_; focus kernel_rfl) | ((with_reducible apply And.intro); focus omega) | (refine z8 hK ?_; clear hK; simp only [go_sem, *]) | simp only [z6, z7, go_sem, *])
 refine u3 rfl (l.length) (fun i => x ∉ l.take i) 19 (fun i => [(5, iV i), (3, .ptr 0 0), (0, y7 l)]) (fun i => [.box [iV x.number, iV x.letter]]) [some 0] [] (by simp) ?_; intro i hi hP
 repeat' (first | (refine Qr rfl ?_; try intro _ hK; try simp only [go_sem, *]) | refine Qh rfl ?_ | refine Qd rfl (by kernel_rfl) ?_ | (refine Qc rfl rfl ?_ ?_ <;> (intro hb; have hc := hb; try simp only [go_sem] at hc)) | refine q6 rfl ?_ | (refine Qb ?_ ?_; focus kernel_rfl) | ((with_reducible apply And.intro); focus omega) | (refine z8 hK ?_; clear hK; simp only [go_sem, *]) | simp only [z6, z7, go_sem, *])
 ·(refine ⟨[_], [], [], ⟨rfl, trivial⟩, ?_⟩; simp only [go_sem, *])
  rw [zB5 (by assumption) hP (by assumption)]
 ·exact u2 (i' := i + 1) [some 0] [] (by exact zDQ (by assumption) hP (by assumption))
 ·(refine ⟨[_], [], [], ⟨rfl, trivial⟩, ?_⟩; simp only [go_sem, *])
  rw [List.take_of_length_le (by omega)] at hP
  rw [O1 hP]
def R8 (b : Bool) (y : Plate) : Bool := (y.number.tmod 2 == 1) == b
theorem zLZ (l : List Plate) (b : Bool) (h1 : l.length ≤ 4294967296) : zLp prog 166 [y7 l, bV b] [] (.own 0 2 0 (l.filter (R8 b)).length) [.row 2 ((l.filter (R8 b)).map Plate.enc)] := by
 refine q8 func166 rfl (fun E hE => ?_); simp only [go_sem, ntmps166]
 repeat' (first | (refine Qr rfl ?_; try intro _ hK; try simp only [go_sem, *]) | refine Qh rfl ?_ | (refine Qc rfl rfl ?_ ?_ <;> (intro hb; have hc := hb; try simp only [go_sem] at hc)) | refine q6 rfl ?_ | ((with_reducible apply And.intro); focus omega) | (refine z8 hK ?_; clear hK; simp only [go_sem, *]) | simp only [z6, z7, go_sem, *])
 refine u4 rfl (l.length) (fun i (acc : List Plate) => acc ++ (l.drop i).filter (R8 b) = l.filter (R8 b)) 30 (fun i acc => [(6, iV i), (5, .own 0 2 0 acc.length), (0, y7 l), (1, bV b)]) (fun i acc => [.row 2 (acc.map Plate.enc)]) [none] [] ([]) (by simp) ?_; intro i acc hi hP
 have hlen := congrArg List.length hP
 have hfl := List.length_filter_le (R8 b) l
 simp only [List.length_append] at hlen
 repeat' (first | (refine Qr rfl ?_; try intro _ hK; try simp only [go_sem, *]) | refine Qh rfl ?_ | (refine Qc rfl rfl ?_ ?_ <;> (intro hb; have hc := hb; try simp only [go_sem] at hc)) | refine q6 rfl ?_ | ((with_reducible apply And.intro); focus omega) | (refine z8 hK ?_; clear hK; simp only [go_sem, *]) | simp only [z6, z7, go_sem, *])
 ·exact w6 (i' := i + 1) [some 2] [] (acc ++ [l.getD i default]) (by rw [← hP, u0 (i := i) (by assumption), List.filter_cons, if_pos (by unfold R8; assumption)]; simp)
 ·exact w6 (i' := i + 1) [some 0] [] (acc) (by rw [← hP, u0 (i := i) (by assumption), List.filter_cons, if_neg (by unfold R8; rw [Bool.not_eq_true]; assumption)])
 ·refine ⟨[_], [some 0], [], ⟨rfl, trivial⟩, ?_⟩
  rw [u7 (by omega), List.filter_nil, List.append_nil] at hP
  simp only [go_sem, hP, *]
theorem zCH {l : List Plate} {n : Int} {i : Nat} (hi : i < 4) (h : ∀ j : Nat, j < i → (⟨n, (j : Int) + 1⟩ : Plate) ∈ l) (hn : (⟨n, (i : Int) + 1⟩ : Plate) ∉ l) : letter l n = i + 1 := by
 have h0 := h 0; have h1 := h 1; have h2 := h 2
 have : i = 0 ∨ i = 1 ∨ i = 2 ∨ i = 3 := by omega
 rcases this with rfl | rfl | rfl | rfl <;> simp_all [letter]
theorem zLY (l : List Plate) (n : Int) (h1 : l.length ≤ 4294967296) : zLp prog 158 [y7 l, iV n] [] (iV (letter l n)) [] := by
 refine q8 func158 rfl (fun E hE => ?_); simp only [go_sem, ntmps158]
 repeat' (first | (refine Qr rfl ?_; try intro _ hK; try simp only [go_sem, *]) | refine Qh rfl ?_ | (refine Qc rfl rfl ?_ ?_ <;> (intro hb; have hc := hb; try simp only [go_sem] at hc)) | refine q6 rfl ?_ | ((with_reducible apply And.intro); focus omega) | (refine z8 hK ?_; clear hK; simp only [go_sem, *]) | simp only [z6, z7, go_sem, *])
 refine u3 rfl (4) (fun i => ∀ j : Nat, j < i → (⟨n, (j : Int) + 1⟩ : Plate) ∈ l) 17 (fun i => [(5, iV ((i : Int) + 1)), (0, y7 l), (1, iV n)]) (fun i => []) [] [] (by simp) ?_; intro i hi hP
 have hw : i < 4 → IntKind.i64.wrap ((i : Int) + 1 + 1) = (((i + 1 : Nat) : Int) + 1) := fun h => by rw [wrap_i64 (by omega) (by omega)]; omega
 repeat' (first | (refine Qr rfl ?_; try intro _ hK; try simp only [go_sem, *]) | refine Qh rfl ?_ | (refine Qc rfl rfl ?_ ?_ <;> (intro hb; have hc := hb; try simp only [go_sem] at hc)) | refine q6 rfl ?_ | (refine y4 (zHp l ⟨n, (i : Int) + 1⟩ h1) ?_; simp only [go_sem, *]) | ((with_reducible apply And.intro); focus omega) | (refine z8 hK ?_; clear hK; simp only [go_sem, *]) | simp only [z6, z7, go_sem, *])
 ·(refine ⟨[_], [], [], ⟨rfl, trivial⟩, ?_⟩; simp only [go_sem, *])
  rw [zCH (by omega) hP (fun hm => by rw [Q5 hm] at *; omega)]
 ·have hi4 : i < 4 := by omega
  refine ⟨_, (by omega), [], [], _, _, _, (by (simp only [Weak, go_sem, List.map_append, List.map_set, *] <;> (try simp (disch := omega) only [t8]) <;> (try simp) <;> (try omega))), i + 1, rfl, (by omega), (fun j hj => ?_), rfl, rfl, rfl⟩
  rcases Nat.lt_succ_iff_lt_or_eq.1 hj with h | h
  ·exact hP j h
  ·subst h
   exact Decidable.byContradiction fun hm => by rw [O1 hm] at *; omega
 ·(refine ⟨[_], [], [], ⟨rfl, trivial⟩, ?_⟩; simp only [go_sem, *])
  have : i = 4 := by omega
  subst this
  have h0 := hP 0; have h1 := hP 1; have h2 := hP 2; have h3 := hP 3
  simp_all [letter]
theorem M3 {v : Int} (h : 0 ≤ v) : v.tmod 2 = v % 2 := by rw [Int.tmod_eq_emod_of_nonneg h]
theorem zLX (l : List Plate) (h1 : l.length ≤ 4294967296) (h2 : ∀ x, x ∈ l → x.ok = true) : zLp prog 156 [y7 l] [] (iV (base l)) [] := by
 refine q8 func156 rfl (fun E hE => ?_); simp only [go_sem, ntmps156]
 repeat' (first | (refine Qr rfl ?_; try intro _ hK; try simp only [go_sem, *]) | refine Qh rfl ?_ | (refine Qc rfl rfl ?_ ?_ <;> (intro hb; have hc := hb; try simp only [go_sem] at hc)) | refine q6 rfl ?_ | ((with_reducible apply And.intro); focus omega) | (refine z8 hK ?_; clear hK; simp only [go_sem, *]) | simp only [z6, z7, go_sem, *])
 refine u4 rfl (l.length) (fun i (v : Int) => 0 ≤ v ∧ v ≤ 40 ∧ (l.drop i).foldl (fun n x => max n x.number) v = l.foldl (fun n x => max n x.number) 0) 22 (fun i v => [(4, iV i), (3, iV v), (0, y7 l)]) (fun i v => []) [] [] (0) (by simp) ?_; intro i v hi hP
 repeat' (first | (refine Qr rfl ?_; try intro _ hK; try simp only [go_sem, *]) | refine Qh rfl ?_ | (refine Qc rfl rfl ?_ ?_ <;> (intro hb; have hc := hb; try simp only [go_sem] at hc)) | refine q6 rfl ?_ | ((with_reducible apply And.intro); focus omega) | (refine z8 hK ?_; clear hK; simp only [go_sem, *]) | simp only [z6, z7, go_sem, *])
 ·have hx := (o3 _).1 (h2 _ (w8 (by assumption)))
  have hm : zMf v (l.getD i default).number = max v (l.getD i default).number := by unfold zMf; split <;> omega
  obtain ⟨p1, p2, p3⟩ := hP
  exact w6 (i' := i + 1) [] [] (max v (l.getD i default).number) (by refine ⟨by omega, by omega, ?_⟩; rw [← p3, u0 (i := i) (by assumption), List.foldl_cons])
 ·(refine ⟨[_], [], [], ⟨rfl, trivial⟩, ?_⟩; simp only [go_sem, *])
  obtain ⟨p1, p2, p3⟩ := hP
  rw [u7 (by omega), List.foldl_nil] at p3
  rw [base, ← p3, M3 p1, wrap_i64 (by omega) (by omega)]
end Go.Abs

namespace Go.Abs
open Go Go.Proofs Tryz
attribute [local irreducible] y6 Hold x8
theorem Z6 (l : List Plate) (x : Plate) (h1 : l.length ≤ 4294967296) : zLp prog 199 [y7 l, x.enc] [] (iV (zMI l x)) [] := by
 refine q8 func199 rfl (fun E hE => ?_); simp only [go_sem, ntmps199]
 repeat' (first | (refine Qr rfl ?_; try intro _ hK; try simp only [go_sem, *]) | refine Qh rfl ?_ | refine Qd rfl (by kernel_rfl) ?_ | (refine Qc rfl rfl ?_ ?_ <;> (intro hb; have hc := hb; try simp only [go_sem] at hc)) | refine q6 rfl ?_ | (refine Qb ?_ ?_; focus kernel_rfl) | ((with_reducible apply And.intro); focus omega) | (refine z8 hK ?_; clear hK; simp only [go_sem, *]) | simp only [z6, z7, go_sem, *])
 refine u3 rfl (l.length) (fun i => x ∉ l.take i) 19 (fun i => [(8, iV i), (7, iV l.length), (3, .ptr 0 0), (0, y7 l)]) (fun i => [.box [iV x.number, iV x.letter]]) [some 0] [] (by simp) ?_; intro i hi hP
 repeat' (first | (refine Qr rfl ?_; try intro _ hK; try simp only [go_sem, *]) | refine Qh rfl ?_ | refine Qd rfl (by kernel_rfl) ?_ | (refine Qc rfl rfl ?_ ?_ <;> (intro hb; have hc := hb; try simp only [go_sem] at hc)) | refine q6 rfl ?_ | (refine Qb ?_ ?_; focus kernel_rfl) | ((with_reducible apply And.intro); focus omega) | (refine z8 hK ?_; clear hK; simp only [go_sem, *]) | simp only [z6, z7, go_sem, *])
 ·(refine ⟨[_], [], [], ⟨rfl, trivial⟩, ?_⟩; simp only [go_sem, *])
  have e : x = l.getD i default := by assumption
  rw [← e]
  exact zAN (zB5 (by assumption) hP e.symm)
 ·exact u2 (i' := i + 1) [some 0] [] (by exact zDQ (by assumption) hP (fun e => absurd e.symm (by assumption)))
 ·(refine ⟨[_], [], [], ⟨rfl, trivial⟩, ?_⟩; simp only [go_sem, *])
  rw [List.take_of_length_le (by omega)] at hP
  rw [O1 hP]
theorem zAp (l : List Plate) (x : Plate) (h1 : l.length ≤ 4294967296) : zLp prog 198 [y7 l, x.enc] [] (bV (decide (x ∈ l))) [] := by
 refine q8 func198 rfl (fun E hE => ?_); simp only [go_sem, ntmps198]
 repeat' (first | (refine Qr rfl ?_; try intro _ hK; try simp only [go_sem, *]) | refine Qh rfl ?_ | (refine Qc rfl rfl ?_ ?_ <;> (intro hb; have hc := hb; try simp only [go_sem] at hc)) | refine q6 rfl ?_ | (refine y4 (Z6 l x h1) ?_; simp only [go_sem, *]) | ((with_reducible apply And.intro); focus omega) | (refine z8 hK ?_; clear hK; simp only [go_sem, *]) | simp only [z6, z7, go_sem, *])
 (refine ⟨[_], [], [], ⟨rfl, trivial⟩, ?_⟩; simp only [go_sem, *])
 refine T0 ?_
 by_cases hm : x ∈ l
 ·simp [Q5 hm, hm]
 ·simp [O1 hm, hm]
theorem I4 (s n k : Int) : zLp prog 197 [iV s, iV n, iV k] [] (.agg [iV s, iV n, iV k]) [] := by
 refine q8 func197 rfl (fun E hE => ?_); simp only [go_sem, ntmps197]
 repeat' (first | (refine Qr rfl ?_; try intro _ hK; try simp only [go_sem, *]) | refine Qh rfl ?_ | (refine Qc rfl rfl ?_ ?_ <;> (intro hb; have hc := hb; try simp only [go_sem] at hc)) | refine q6 rfl ?_ | ((with_reducible apply And.intro); focus omega) | (refine z8 hK ?_; clear hK; simp only [go_sem, *]) | simp only [z6, z7, go_sem, *])
 refine ⟨[.agg [iV s, iV n, iV k]], [], [], ⟨(by simp only [u1, go_sem]), trivial⟩, ?_⟩; simp only [go_sem, *]
abbrev fnV (f : Nat) : AV := .raw (.func (.func f) #[] #[])
theorem D7 {f : Nat} {pr : Plate → Bool} (hc : p9 prog f = true) (hf : ∀ x : Plate, zLp prog f [x.enc] [] (bV (pr x)) []) (l : List Plate) (h1 : l.length ≤ 4294967296) :
  zLp prog 194 [y7 l, fnV f] [] (.own 0 2 0 (l.filter pr).length) [.row 2 ((l.filter pr).map Plate.enc)] := by
 refine q8 func194 rfl (fun E hE => ?_); simp only [go_sem, ntmps194]
 repeat' (first | (refine Qr rfl ?_; try intro _ hK; try simp only [go_sem, *]) | refine Qh rfl ?_ | (refine Qc rfl rfl ?_ ?_ <;> (intro hb; have hc := hb; try simp only [go_sem] at hc)) | refine q6 rfl ?_ | ((with_reducible apply And.intro); focus omega) | (refine z8 hK ?_; clear hK; simp only [go_sem, *]) | simp only [z6, z7, go_sem, *])
 refine u4 rfl (l.length) (fun i (acc : List Plate) => acc ++ (l.drop i).filter pr = l.filter pr) 23 (fun i acc => [(10, iV i), (9, iV l.length), (8, y7 l), (5, .own 0 2 0 acc.length), (1, fnV f)]) (fun i acc => [.row 2 (acc.map Plate.enc)]) [none] [] ([]) (by simp) ?_; intro i acc hi hP
 have hlen := congrArg List.length hP
 have hfl := List.length_filter_le pr l
 simp only [List.length_append] at hlen
 repeat' (first | (refine Qr rfl ?_; try intro _ hK; try simp only [go_sem, *]) | refine Qh rfl ?_ | (refine Qc rfl rfl ?_ ?_ <;> (intro hb; have hc := hb; try simp only [go_sem] at hc)) | refine q6 rfl ?_ | (refine y4 (hf (l.getD i default)) ?_; simp only [go_sem, *]) | ((with_reducible apply And.intro); focus omega) | (refine z8 hK ?_; clear hK; simp only [go_sem, *]) | simp only [z6, z7, go_sem, *])
 ·exact w6 (i' := i + 1) [some 3] [] (acc ++ [l.getD i default]) (by rw [← hP, u0 (i := i) (by assumption), List.filter_cons, if_pos (by assumption)]; simp)
 ·exact w6 (i' := i + 1) [some 0] [] (acc) (by rw [← hP, u0 (i := i) (by assumption), List.filter_cons, if_neg (by rw [Bool.not_eq_true]; assumption)])
 ·refine ⟨[_], [some 0], [], ⟨rfl, trivial⟩, ?_⟩
  rw [u7 (by omega), List.filter_nil, List.append_nil] at hP
  simp only [go_sem, hP, *]
theorem S7 : zLp prog 152 [] [] (.agg [.raw .nilFunc, fnV 169, fnV 170, fnV 171, fnV 172, fnV 173, fnV 174, fnV 175]) [] := by
 refine q8 func152 rfl (fun E hE => ?_); simp only [go_sem, ntmps152]
 repeat' (first | (refine Qr rfl ?_; try intro _ hK; try simp only [go_sem, *]) | refine Qh rfl ?_ | (refine Qc rfl rfl ?_ ?_ <;> (intro hb; have hc := hb; try simp only [go_sem] at hc)) | refine q6 rfl ?_ | ((with_reducible apply And.intro); focus omega) | (refine z8 hK ?_; clear hK; simp only [go_sem, *]) | simp only [z6, z7, go_sem, *])
 refine ⟨[.agg [.raw .nilFunc, fnV 169, fnV 170, fnV 171, fnV 172, fnV 173, fnV 174, fnV 175]], [], [], ⟨(by simp only [u1, go_sem]), trivial⟩, ?_⟩; simp only [go_sem, *]
end Go.Abs

namespace Go.Abs
open Go Go.Proofs Tryz
attribute [local irreducible] y6 Hold x8
theorem zC4 {p : zLo} (v : Valid p) : zLp prog 160 [x7 p] [] (.own 0 3 0 (q9 p).length) [.row 3 ((q9 p).map House.enc)] := zHo p (by have := v.len; omega) (fun l hl => by have := (v.rows l hl).len; omega) (by have := v.count; omega)
theorem zGS {α : Type} [Inhabited α] {l : List α} (hn : l.Nodup) {i : Nat} (h : i < l.length) : l.getD i default ∉ l.take i := fun hm => by
 obtain ⟨j, hj, e⟩ := List.getElem_of_mem hm
 simp at hj e
 rw [List.getElem?_eq_getElem h] at e
 simp only [Option.getD_some] at e
 have := (X5 hn).1 e
 omega
theorem Z8 {α : Type} [Inhabited α] {l : List α} {i : Nat} (h : i < l.length) : l.take (i + 1) = l.take i ++ [l.getD i default] := by
 rw [List.take_add_one]; simp [List.getD, h]
theorem U4 (p : zLo) (v : Valid p) : zLp prog 151 [x7 p] [] (.mp 0) [.mapo (w5 p) (w4 p fun h => [h])] := by
 have hn := v.nodup
 have hw := v.wf
 have hct := v.count
 refine q8 func151 rfl (fun E hE => ?_); simp only [go_sem, ntmps151]
 repeat' (first | (refine Qr rfl ?_; try intro _ hK; try simp only [go_sem, *]) | refine Qh rfl ?_ | (refine Qc rfl rfl ?_ ?_ <;> (intro hb; have hc := hb; try simp only [go_sem] at hc)) | refine q6 rfl ?_ | ((with_reducible apply And.intro); focus omega) | (refine z8 hK ?_; clear hK; simp only [go_sem, *]) | simp only [z6, z7, go_sem, *])
 refine y9 [] [] (zC4 v) (by simp) (by simp only [go_sem]) trivial (by simp) (.inl rfl) (by simp [go_sem]) (by simp) ?_
 simp only [go_sem, *]
 repeat' (first | (refine Qr rfl ?_; try intro _ hK; try simp only [go_sem, *]) | refine Qh rfl ?_ | (refine Qc rfl rfl ?_ ?_ <;> (intro hb; have hc := hb; try simp only [go_sem] at hc)) | refine q6 rfl ?_ | ((with_reducible apply And.intro); focus omega) | (refine z8 hK ?_; clear hK; simp only [go_sem, *]) | simp only [z6, z7, go_sem, *])
 refine u3 rfl ((q9 p).length) (fun i => NoP i) 20 (fun i => [(10, iV i), (9, iV (q9 p).length), (8, .own 0 3 0 (q9 p).length), (3, .mp 1)]) (fun i => [.row 3 ((q9 p).map House.enc), .mapo (((q9 p).take i).map House.key) (((q9 p).take i).map (zLs fun h => [h]))]) [some 2, some 1] [] (by trivial) ?_; intro i hi hP
 repeat' (first | (refine Qr rfl ?_; try intro _ hK; try simp only [go_sem, *]) | refine Qh rfl ?_ | (refine Qc rfl rfl ?_ ?_ <;> (intro hb; have hc := hb; try simp only [go_sem] at hc)) | refine q6 rfl ?_ | ((with_reducible apply And.intro); focus omega) | (refine z8 hK ?_; clear hK; simp only [go_sem, *]) | simp only [z6, z7, go_sem, *])
 ·refine zCV (h := (q9 p).getD i default) (hs := (q9 p).take i) (xs := ((q9 p).take i).map (zLs fun h => [h])) (by simp only [go_sem, *]) (fun k hk => hw k (List.mem_of_mem_take hk)) (hw _ (w8 (by assumption))) (zGS hn (by assumption)) (by simp only [go_sem, *]) (by simp only [go_sem, *]) ?_
  simp only [go_sem, *]
  repeat' (first | (refine Qr rfl ?_; try intro _ hK; try simp only [go_sem, *]) | refine Qh rfl ?_ | (refine Qc rfl rfl ?_ ?_ <;> (intro hb; have hc := hb; try simp only [go_sem] at hc)) | refine q6 rfl ?_ | ((with_reducible apply And.intro); focus omega) | (refine z8 hK ?_; clear hK; simp only [go_sem, *]) | simp only [z6, z7, go_sem, *])
  have e := Z8 (l := q9 p) (i := i) (by assumption)
  have hM : zLs (fun h => [h]) ((q9 p).getD i default) = .list [((q9 p).getD i default).enc] := rfl
  exact u2 (i' := i + 1) [some 0, some 1] [] (by trivial)
 ·refine ⟨[_], [some 1], [], ⟨rfl, trivial⟩, ?_⟩
  have e : (q9 p).take i = q9 p := List.take_of_length_le (by omega)
  simp only [go_sem, *]
theorem zH5 (p : zLo) (c : Change) (v : Valid p) (f : Fit p c) (k : c.kind = 2) : zLp prog 170 [x7 p, c.enc, .mp 0] [.mapo (w5 p) (w4 p fun h => [h])] (iV 0) [.mapo (w5 p) (w4 p (mv p c))] := by
  have hs : c.street.toNat < p.length := by have := f.street; omega
  have hs0 := f.street.1
  have hs1 := f.street.2
  have hr := v.row c.street
  have hl8 := hr.len
  refine q8 func170 rfl (fun E hE => ?_); simp only [go_sem, ntmps170]
  repeat' (first | (refine Qr rfl ?_; try intro _ hK; try simp only [go_sem, *]) | refine Qh rfl ?_ | refine Qd rfl (by kernel_rfl) ?_ | (refine Qc rfl rfl ?_ ?_ <;> (intro hb; have hc := hb; try simp only [go_sem] at hc)) | refine q6 rfl ?_ | (refine Qb ?_ ?_; focus kernel_rfl) | ((with_reducible apply And.intro); focus omega) | (refine z8 hK ?_; clear hK; simp only [go_sem, *]) | simp only [z6, z7, go_sem, *])
  refine u4 rfl ((q7 p c.street).length) (fun i (g : House → List House) => Upd p c g ((q7 p c.street).take i)) 42 (fun i g => [(17, iV i), (16, iV (q7 p c.street).length), (15, y7 (q7 p c.street)), (4, .ptr 2 0), (3, .ptr 1 0), (2, .mp 0)]) (fun i g => [.mapo (w5 p) (w4 p g), zL3 p, zMO c]) [some 0, some 1, some 2] [] (fun h => [h]) (by exact Upd.nil _ _) ?_; intro i g hi hP
  have hx : i < (q7 p c.street).length → 1 ≤ ((q7 p c.street).getD i default).number ∧ ((q7 p c.street).getD i default).number ≤ 40 := fun h => ((o3 _).1 (hr.ok _ (w8 h))).1
  have hw1 : i < (q7 p c.street).length → IntKind.i64.wrap (((q7 p c.street).getD i default).number - 1) = ((q7 p c.street).getD i default).number - 1 := fun h => by have := hx h; exact wrap_i64 (by omega) (by omega)
  have hw2 : i < (q7 p c.street).length → IntKind.i64.wrap (((q7 p c.street).getD i default).number + 1) = ((q7 p c.street).getD i default).number + 1 := fun h => by have := hx h; exact wrap_i64 (by omega) (by omega)
  repeat' (first | (refine Qr rfl ?_; try intro _ hK; try simp only [go_sem, *]) | refine Qh rfl ?_ | refine Qd rfl (by kernel_rfl) ?_ | (refine Qc rfl rfl ?_ ?_ <;> (intro hb; have hc := hb; try simp only [go_sem] at hc)) | refine q6 rfl ?_ | (refine Qb ?_ ?_; focus kernel_rfl) | ((first | refine y4 (zAv _) ?_ | refine y4 (I4 _ _ _) ?_); simp only [go_sem, *]) | ((with_reducible apply And.intro); focus omega) | (refine z8 hK ?_; clear hK; simp only [go_sem, *]) | simp only [z6, z7, go_sem, *])
  · have ho : zLv ((q7 p c.street).getD i default) = true := by
      have := hx (by assumption)
      rw [V9]
      have hc2 : ¬ ((q7 p c.street).getD i default).number.tmod 2 = 0 := by assumption
      rw [M3 (by omega)] at hc2; omega
    refine R9 [⟨c.street, ⟨((q7 p c.street).getD i default).number + 1, ((q7 p c.street).getD i default).letter⟩⟩] (g := g) (x := (q7 p c.street).getD i default) v hs0 hs1 (w8 (by assumption)) (by simp only [go_sem, *]) (by simp only [go_sem, *]) rfl rfl (by rw [R7 k, if_pos ho]) ?_
    simp only [go_sem, *]
    repeat' (first | (refine Qr rfl ?_; try intro _ hK; try simp only [go_sem, *]) | refine Qh rfl ?_ | refine Qd rfl (by kernel_rfl) ?_ | (refine Qc rfl rfl ?_ ?_ <;> (intro hb; have hc := hb; try simp only [go_sem] at hc)) | refine q6 rfl ?_ | (refine Qb ?_ ?_; focus kernel_rfl) | ((with_reducible apply And.intro); focus omega) | (refine z8 hK ?_; clear hK; simp only [go_sem, *]) | simp only [z6, z7, go_sem, *])
    have e := Z8 (l := q7 p c.street) (i := i) (by assumption)
    exact w6 (i' := i + 1) [some 0, some 1, some 2] [] (zL8 p c g ((q7 p c.street).getD i default)) (by rw [e]; exact hP.one _)
  · have ho : ¬ zLv ((q7 p c.street).getD i default) = true := by
      have := hx (by assumption)
      rw [V9]
      have hc2 : ((q7 p c.street).getD i default).number.tmod 2 = 0 := by assumption
      rw [M3 (by omega)] at hc2; omega
    refine R9 [⟨c.street, ⟨((q7 p c.street).getD i default).number - 1, ((q7 p c.street).getD i default).letter⟩⟩] (g := g) (x := (q7 p c.street).getD i default) v hs0 hs1 (w8 (by assumption)) (by simp only [go_sem, *]) (by simp only [go_sem, *]) rfl rfl (by rw [R7 k, if_neg ho]) ?_
    simp only [go_sem, *]
    repeat' (first | (refine Qr rfl ?_; try intro _ hK; try simp only [go_sem, *]) | refine Qh rfl ?_ | refine Qd rfl (by kernel_rfl) ?_ | (refine Qc rfl rfl ?_ ?_ <;> (intro hb; have hc := hb; try simp only [go_sem] at hc)) | refine q6 rfl ?_ | (refine Qb ?_ ?_; focus kernel_rfl) | ((with_reducible apply And.intro); focus omega) | (refine z8 hK ?_; clear hK; simp only [go_sem, *]) | simp only [z6, z7, go_sem, *])
    have e := Z8 (l := q7 p c.street) (i := i) (by assumption)
    exact w6 (i' := i + 1) [some 0, some 1, some 2] [] (zL8 p c g ((q7 p c.street).getD i default)) (by rw [e]; exact hP.one _)
  · rw [List.take_of_length_le (by omega)] at hP
    have e := hP.fin (fun x hx hn => absurd hx hn)
    simp only [w4] at e
    refine ⟨[_], [some 0], [], ⟨rfl, trivial⟩, ?_⟩
    simp only [go_sem, *]
end Go.Abs

namespace Go.Abs
open Go Go.Proofs Tryz
attribute [local irreducible] y6 Hold x8
def prB (i : Nat) (x : Plate) : Bool := if i = 0 then x.number.tmod 2 != 0 else x.number.tmod 2 == 0
def t6 (l : List Plate) (i : Nat) : List Plate := l.filter (prB i)
theorem zGg {l : List Plate} (h : Sound l) {i : Nat} {x y : Plate} (hy : y ∈ t6 l i) (hx : x ∈ l) : prB i x = (zLv x == zLv y) := by
 obtain ⟨hy1, hy2⟩ := List.mem_filter.1 hy
 have ox := (o3 x).1 (h.ok x hx)
 have oy := (o3 y).1 (h.ok y hy1)
 rw [Bool.eq_iff_iff, F6]
 unfold prB at *
 rw [M3 (by omega)] at *
 split at hy2 <;> simp_all <;> omega
theorem zBz {l : List Plate} (h : Sound l) {i : Nat} {y : Plate} (hy : y ∈ t6 l i) : l.filter (fun z => zLv z == zLv y) = t6 l i :=
 List.filter_congr (fun x hx => (zGg h hy hx).symm)
theorem zFY {l : List Plate} (h : Sound l) {i : Nat} (hi : i < 2) {y : Plate} (hy : y ∈ t6 l i) : y.number % 2 = 1 - i := by
 obtain ⟨hy1, hy2⟩ := List.mem_filter.1 hy
 have oy := (o3 y).1 (h.ok y hy1)
 unfold prB at hy2
 rw [M3 (by omega)] at hy2
 have : i = 0 ∨ i = 1 := by omega
 rcases this with rfl | rfl <;> simp at hy2 <;> omega
theorem zBx {l : List Plate} {x : Plate} (hx : x ∈ l) : x ∈ t6 l 0 ∨ x ∈ t6 l 1 := by
 by_cases h : x.number.tmod 2 = 0
 ·right; exact List.mem_filter.2 ⟨hx, by simp [prB, h]⟩
 ·left; exact List.mem_filter.2 ⟨hx, by simp [prB, h]⟩
theorem zB0 {l : List Plate} {i : Nat} {y : Plate} (hy : y ∈ t6 l i) : y ∈ l := (List.mem_filter.1 hy).1
theorem zBy {l : List Plate} (h : Sound l) {i j : Nat} (hj : j < (t6 l i).length) : (t6 l i).idxOf ((t6 l i).getD j default) = j := by
 have hn : (t6 l i).Nodup := h.nodup.filter _
 have hm := w8 hj
 have h1 := S0 hm
 have h2 : (t6 l i)[j] = (t6 l i).getD j default := by simp [List.getD, hj]
 exact (X5 hn).1 (h1.trans h2.symm)
theorem zIB (p : zLo) (c : Change) (v : Valid p) (f : Fit p c) (k : c.kind = 1) : zLp prog 169 [x7 p, c.enc, .mp 0] [.mapo (w5 p) (w4 p fun h => [h])] (iV 0) [.mapo (w5 p) (w4 p (mv p c))] := by
 have hs : c.street.toNat < p.length := by have := f.street; omega
 have hs0 := f.street.1
 have hs1 := f.street.2
 have hr := v.row c.street
 have hl8 := hr.len
 have hbl : ∀ i, (t6 (q7 p c.street) i).length ≤ 8 := fun i => Nat.le_trans (List.length_filter_le _ _) hl8
 have hb0 := hbl 0
 have hb1 := hbl 1
 have spo : zLp prog 194 [y7 (q7 p c.street), fnV 195] [] (.own 0 2 0 (t6 (q7 p c.street) 0).length) [.row 2 ((t6 (q7 p c.street) 0).map Plate.enc)] :=
  D7 (by kernel_rfl) (fun x => by simpa [prB] using zAv x) (q7 p c.street) (by omega)
 have spe : zLp prog 194 [y7 (q7 p c.street), fnV 196] [] (.own 0 2 0 (t6 (q7 p c.street) 1).length) [.row 2 ((t6 (q7 p c.street) 1).map Plate.enc)] :=
  D7 (by kernel_rfl) (fun x => by simpa [prB] using zC2 x) (q7 p c.street) (by omega)
 obtain ⟨L, hL⟩ : ∃ L, L = [t6 (q7 p c.street) 0, t6 (q7 p c.street) 1] := ⟨_, rfl⟩
 have hLb : L.map y7 = [y7 (t6 (q7 p c.street) 0), y7 (t6 (q7 p c.street) 1)] := by rw [hL]; rfl
 have hLl : L.length = 2 := by rw [hL]; rfl
 have hLg : ∀ i, i < 2 → L.getD i default = t6 (q7 p c.street) i := fun i hi => by
  have : i = 0 ∨ i = 1 := by omega
  rcases this with rfl | rfl <;> rw [hL] <;> rfl
 have hcov : ∀ x, x ∈ q7 p c.street → x ∈ (L.map id).flatten := fun x hx => by
  rw [hL]
  rcases zBx hx with h | h <;> simp [h]
 clear hL
 refine q8 func169 rfl (fun E hE => ?_); simp only [go_sem, ntmps169]
 repeat' (first | (refine Qr rfl ?_; try intro _ hK; try simp only [go_sem, *]) | refine Qh rfl ?_ | refine Qd rfl (by kernel_rfl) ?_ | (refine Qc rfl rfl ?_ ?_ <;> (intro hb; have hc := hb; try simp only [go_sem] at hc)) | refine q6 rfl ?_ | (refine Qb ?_ ?_; focus kernel_rfl) | (refine s8 (spo) ?_; simp only [go_sem, *]) | (refine s8 (spe) ?_; simp only [go_sem, *]) | ((with_reducible apply And.intro); focus omega) | (refine z8 hK ?_; clear hK; simp only [go_sem, *]) | simp only [z6, z7, go_sem, *])
 refine u4 rfl (2) (fun i (g : House → List House) => Upd p c g (((L.take i).map id).flatten)) 57 (fun i g => [(27, iV i), (26, iV 2), (25, .own 3 1 0 2), (4, .ptr 2 0), (3, .ptr 1 0), (2, .mp 0)]) (fun i g => [.mapo (w5 p) (w4 p g), zL3 p, zMO c, .box (L.map y7)]) [some 0, some 1, some 2, some 5] [3, 4] (fun h => [h]) (by exact Upd.nil _ _) ?_; intro i g hi hP
 clear hLb
 repeat' (first | (refine Qr rfl ?_; try intro _ hK; try simp only [go_sem, *]) | refine Qh rfl ?_ | refine Qd rfl (by kernel_rfl) ?_ | (refine Qc rfl rfl ?_ ?_ <;> (intro hb; have hc := hb; try simp only [go_sem] at hc)) | refine q6 rfl ?_ | (refine Qb ?_ ?_; focus kernel_rfl) | ((with_reducible apply And.intro); focus omega) | (refine z8 hK ?_; clear hK; simp only [go_sem, *]) | simp only [z6, z7, go_sem, *])
 ·have hi2 : i < 2 := by omega
  have hlb := hbl i
  generalize hl : t6 (q7 p c.street) i = l at *
  refine u4 rfl (l.length) (fun j (g : House → List House) => Upd p c g (((L.take i).map id).flatten ++ l.take j)) 57 (fun j g => [(33, iV j), (32, iV l.length), (31, y7 l), (8, y7 l), (27, iV i), (26, iV 2), (25, .own 3 1 0 2), (4, .ptr 2 0), (3, .ptr 1 0), (2, .mp 0)]) (fun j g => [.mapo (w5 p) (w4 p g), zL3 p, zMO c, .box (L.map y7)]) [some 0, some 1, some 2, some 3] [] (g) (by simpa using hP) ?_; intro j g hj hQ
  have hw1 : j < l.length → IntKind.i64.wrap ((l.length : Int) - 1) = ((l.length - 1 : Nat) : Int) := fun h => by rw [wrap_i64 (by omega) (by omega)]; omega
  have hw2 : j < l.length → IntKind.i64.wrap (((l.length - 1 : Nat) : Int) - (j : Int)) = ((l.length - 1 - j : Nat) : Int) := fun h => by rw [wrap_i64 (by omega) (by omega)]; omega
  have hw3 : j < l.length → l.length - 1 - j < l.length := fun h => by omega
  repeat' (first | (refine Qr rfl ?_; try intro _ hK; try simp only [go_sem, *]) | refine Qh rfl ?_ | refine Qd rfl (by kernel_rfl) ?_ | (refine Qc rfl rfl ?_ ?_ <;> (intro hb; have hc := hb; try simp only [go_sem] at hc)) | refine q6 rfl ?_ | (refine Qb ?_ ?_; focus kernel_rfl) | ((with_reducible apply And.intro); focus omega) | (refine z8 hK ?_; clear hK; simp only [go_sem, *]) | simp only [z6, z7, go_sem, *])
  ·have hmj : l.getD j default ∈ l := w8 (by assumption)
   have hown := zBz hr (i := i) (y := l.getD j default) (by rw [hl]; exact hmj)
   have hjx : l.idxOf (l.getD j default) = j := by have := zBy hr (i := i) (j := j) (by rw [hl]; assumption); rwa [hl] at this
   refine R9 [⟨c.street, l.getD (l.length - 1 - j) default⟩] (g := g) (x := l.getD j default) v hs0 hs1 (zB0 (i := i) (by rw [hl]; exact hmj)) (by simp only [go_sem, *]) (by simp only [go_sem, *]) rfl rfl (by rw [M5 k, hown, hl, hjx]) ?_
   simp only [go_sem, *]
   repeat' (first | (refine Qr rfl ?_; try intro _ hK; try simp only [go_sem, *]) | refine Qh rfl ?_ | refine Qd rfl (by kernel_rfl) ?_ | (refine Qc rfl rfl ?_ ?_ <;> (intro hb; have hc := hb; try simp only [go_sem] at hc)) | refine q6 rfl ?_ | (refine Qb ?_ ?_; focus kernel_rfl) | ((with_reducible apply And.intro); focus omega) | (refine z8 hK ?_; clear hK; simp only [go_sem, *]) | simp only [z6, z7, go_sem, *])
   have e := Z8 (l := l) (i := j) (by assumption)
   exact w6 (i' := j + 1) [some 0, some 1, some 2, some 3] [] (zL8 p c g (l.getD j default)) (by rw [e, ← List.append_assoc]; exact hQ.one _)
  ·have e2 : l.take j = l := List.take_of_length_le (by omega)
   rw [e2] at hQ
   have e := Z8 (l := L) (i := i) (by omega)
   rw [hLg i hi2, hl] at e
   exact w6 (i' := i + 1) [some 0, some 1, some 2, some 3] [] (g) (by rw [e]; simpa using hQ)
 ·rw [List.take_of_length_le (by omega)] at hP
  have e := hP.fin (fun x hx hn => absurd (hcov x hx) hn)
  simp only [w4] at e
  refine ⟨[_], [some 0], [], ⟨rfl, trivial⟩, ?_⟩
  simp only [go_sem, *]
end Go.Abs

namespace Go.Abs
open Go Go.Proofs Tryz
attribute [local irreducible] y6 Hold x8
theorem zHg (p : zLo) (c : Change) (v : Valid p) (f : Fit p c) (k : c.kind = 3) : zLp prog 171 [x7 p, c.enc, .mp 0] [.mapo (w5 p) (w4 p fun h => [h])] (iV 0) [.mapo (w5 p) (w4 p (mv p c))] := by
 have hs : c.street.toNat < p.length := by have := f.street; omega
 have hs0 := f.street.1
 have hs1 := f.street.2
 have hr := v.row c.street
 have hl8 := hr.len
 have hbl : ∀ i, (t6 (q7 p c.street) i).length ≤ 8 := fun i => Nat.le_trans (List.length_filter_le _ _) hl8
 obtain ⟨Fs, hFs⟩ : ∃ Fs : List Nat, Fs = [195, 196] := ⟨_, rfl⟩
 have hFb : Fs.map fnV = [fnV 195, fnV 196] := by rw [hFs]; rfl
 have hFl : Fs.length = 2 := by rw [hFs]; rfl
 have hsp : ∀ i, i < 2 → zLp prog 194 [y7 (q7 p c.street), fnV (Fs.getD i default)] [] (.own 0 2 0 (t6 (q7 p c.street) i).length) [.row 2 ((t6 (q7 p c.street) i).map Plate.enc)] := fun i hi => by
  have : i = 0 ∨ i = 1 := by omega
  rcases this with rfl | rfl <;> rw [hFs]
  ·exact D7 (by kernel_rfl) (fun x => by simpa [prB] using zAv x) (q7 p c.street) (by omega)
  ·exact D7 (by kernel_rfl) (fun x => by simpa [prB] using zC2 x) (q7 p c.street) (by omega)
 clear hFs
 refine q8 func171 rfl (fun E hE => ?_); simp only [go_sem, ntmps171]
 repeat' (first | (refine Qr rfl ?_; try intro _ hK; try simp only [go_sem, *]) | refine Qh rfl ?_ | refine Qd rfl (by kernel_rfl) ?_ | (refine Qc rfl rfl ?_ ?_ <;> (intro hb; have hc := hb; try simp only [go_sem] at hc)) | refine q6 rfl ?_ | (refine Qb ?_ ?_; focus kernel_rfl) | ((with_reducible apply And.intro); focus omega) | (refine z8 hK ?_; clear hK; simp only [go_sem, *]) | simp only [z6, z7, go_sem, *])
 refine u4 rfl (2) (fun i (g : House → List House) => Upd p c g (((List.range i).map (t6 (q7 p c.street))).flatten)) 48 (fun i g => [(13, iV i), (12, iV 2), (11, .own 3 1 0 2), (4, .ptr 2 0), (3, .ptr 1 0), (2, .mp 0)]) (fun i g => [.mapo (w5 p) (w4 p g), zL3 p, zMO c, .row 1 (Fs.map fnV)]) [some 0, some 1, some 2, some 3] [] (fun h => [h]) (by exact Upd.nil _ _) ?_; intro i g hi hP
 clear hFb
 repeat' (first | (refine Qr rfl ?_; try intro _ hK; try simp only [go_sem, *]) | refine Qh rfl ?_ | refine Qd rfl (by kernel_rfl) ?_ | (refine Qc rfl rfl ?_ ?_ <;> (intro hb; have hc := hb; try simp only [go_sem] at hc)) | refine q6 rfl ?_ | (refine Qb ?_ ?_; focus kernel_rfl) | (refine s8 (hsp i (by omega)) ?_; simp only [go_sem, *]) | ((with_reducible apply And.intro); focus omega) | (refine z8 hK ?_; clear hK; simp only [go_sem, *]) | simp only [z6, z7, go_sem, *])
 ·have hi2 : i < 2 := by omega
  have hlb := hbl i
  generalize hl : t6 (q7 p c.street) i = l at *
  refine u4 rfl (l.length) (fun j (g : House → List House) => Upd p c g (((List.range i).map (t6 (q7 p c.street))).flatten ++ l.take j)) 48 (fun j g => [(27, iV j), (26, iV l.length), (25, .own 4 2 0 l.length), (7, iV i), (13, iV i), (12, iV 2), (11, .own 3 1 0 2), (4, .ptr 2 0), (3, .ptr 1 0), (2, .mp 0)]) (fun j g => [.mapo (w5 p) (w4 p g), zL3 p, zMO c, .row 1 (Fs.map fnV), .row 2 (l.map Plate.enc)]) [some 0, some 1, some 2, some 3, some 4] [] (g) (by simpa using hP) ?_; intro j g hj hQ
  have hw1 : j < l.length → IntKind.i64.wrap (2 * (j : Int)) = 2 * (j : Int) := fun h => wrap_i64 (by omega) (by omega)
  have hw2 : j < l.length → IntKind.i64.wrap (2 * (j : Int) + 1) = 2 * (j : Int) + 1 := fun h => wrap_i64 (by omega) (by omega)
  have hw3 : j < l.length → IntKind.i64.wrap (2 * (j : Int) + 1 + (i : Int)) = 2 * (j : Int) + 1 + (i : Int) := fun h => wrap_i64 (by omega) (by omega)
  repeat' (first | (refine Qr rfl ?_; try intro _ hK; try simp only [go_sem, *]) | refine Qh rfl ?_ | refine Qd rfl (by kernel_rfl) ?_ | (refine Qc rfl rfl ?_ ?_ <;> (intro hb; have hc := hb; try simp only [go_sem] at hc)) | refine q6 rfl ?_ | (refine Qb ?_ ?_; focus kernel_rfl) | (refine y4 (I4 _ _ _) ?_; simp only [go_sem, *]) | ((with_reducible apply And.intro); focus omega) | (refine z8 hK ?_; clear hK; simp only [go_sem, *]) | simp only [z6, z7, go_sem, *])
  ·have hmj : l.getD j default ∈ l := w8 (by assumption)
   have hown := zBz hr (i := i) (y := l.getD j default) (by rw [hl]; exact hmj)
   have hjx : l.idxOf (l.getD j default) = j := by have := zBy hr (i := i) (j := j) (by rw [hl]; assumption); rwa [hl] at this
   have hpar := zFY hr hi2 (y := l.getD j default) (by rw [hl]; exact hmj)
   refine R9 [⟨c.street, ⟨2 * (j : Int) + 1 + (i : Int), 0⟩⟩] (g := g) (x := l.getD j default) v hs0 hs1 (zB0 (i := i) (by rw [hl]; exact hmj)) (by simp only [go_sem, *]) (by simp only [go_sem, *]) rfl rfl (by rw [M4 k, hown, hl, hjx, hpar]; congr 3; omega) ?_
   simp only [go_sem, *]
   repeat' (first | (refine Qr rfl ?_; try intro _ hK; try simp only [go_sem, *]) | refine Qh rfl ?_ | refine Qd rfl (by kernel_rfl) ?_ | (refine Qc rfl rfl ?_ ?_ <;> (intro hb; have hc := hb; try simp only [go_sem] at hc)) | refine q6 rfl ?_ | (refine Qb ?_ ?_; focus kernel_rfl) | ((with_reducible apply And.intro); focus omega) | (refine z8 hK ?_; clear hK; simp only [go_sem, *]) | simp only [z6, z7, go_sem, *])
   have e := Z8 (l := l) (i := j) (by assumption)
   exact w6 (i' := j + 1) [some 0, some 1, some 2, some 3, some 4] [] (zL8 p c g (l.getD j default)) (by rw [e, ← List.append_assoc]; exact hQ.one _)
  ·have e2 : l.take j = l := List.take_of_length_le (by omega)
   rw [e2] at hQ
   exact w6 (i' := i + 1) [some 0, some 1, some 2, some 3] [] (g) (by rw [List.range_succ]; simpa [hl] using hQ)
 ·have hi2 : i = 2 := by omega
  subst hi2
  have e := hP.fin (fun x hx hn => absurd (by rcases zBx hx with h | h <;> simp [List.range_succ, h]) hn)
  simp only [w4] at e
  refine ⟨[_], [some 0], [], ⟨rfl, trivial⟩, ?_⟩
  simp only [go_sem, *]
end Go.Abs

namespace Go.Abs
open Go Go.Proofs Tryz
attribute [local irreducible] y6 Hold x8
theorem A9 (m : Int) : ∀ (l : List Plate) (n : Int), n ≤ m → (∀ x, x ∈ l → x.number ≤ m) → l.foldl (fun n x => max n x.number) n ≤ m
 | [], n, h, _ => h
 | x :: r, n, h, hx => by
  rw [List.foldl_cons]
  have := hx x (by simp)
  exact A9 m r _ (by omega) (fun y hy => hx y (by simp [hy]))
theorem zBl : ∀ (l : List Plate) (n : Int), n ≤ l.foldl (fun n x => max n x.number) n ∧ ∀ x, x ∈ l → x.number ≤ l.foldl (fun n x => max n x.number) n
  | [], n => by simp
  | y :: r, n => by
    obtain ⟨h1, h2⟩ := zBl r (max n y.number)
    rw [List.foldl_cons]
    exact ⟨by omega, fun x hx => by rcases List.mem_cons.1 hx with rfl | hx; · omega
                                    · exact h2 x hx⟩
theorem zDu {l : List Plate} (h : Sound l) (h0 : 0 < l.length) : base l = (l.getD (l.length - 1) default).number + (l.getD (l.length - 1) default).number.tmod 2 := by
 have hm : l.getD (l.length - 1) default ∈ l := w8 (by omega)
 have hle : ∀ x, x ∈ l → x.number ≤ (l.getD (l.length - 1) default).number := fun x hx => by
  obtain ⟨i, hi, rfl⟩ := List.getElem_of_mem hx
  have hg : l.getD (l.length - 1) default = l[l.length - 1] := by simp [List.getD, show l.length - 1 < l.length by omega]
  rw [hg]
  by_cases e : i = l.length - 1
  ·subst e; omega
  ·have := (List.pairwise_iff_getElem.1 h.sorted) i (l.length - 1) hi (by omega) (by omega)
   rw [Plate.lt_iff] at this; omega
 have ho := (o3 _).1 (h.ok _ hm)
 have h1 := A9 _ l 0 (by omega) hle
 have h2 := (zBl l 0).2 _ hm
 unfold base
 rw [M3 (by omega)]
 simp only
 omega
theorem zDv {l : List Plate} (h : Sound l) : 0 ≤ base l ∧ base l ≤ 41 := by
 have h1 := A9 40 l 0 (by omega) (fun x hx => ((o3 x).1 (h.ok x hx)).1.2)
 have h2 := zBI l
 unfold base at *
 simp only at *
 omega
theorem A7 {p : zLo} {c : Change} (h : c.kind = 4) : x9 p c = if 8 < (q7 p c.street).length + (q7 p c.other).length then 6 else if (q7 p c.street).any (fun x => decide (40 < x.number + base (q7 p c.other))) = true then 1 else 0 := by
 unfold x9; rw [if_pos h]
@[go_sem] theorem zKe (n : Nat) : ((8 : Int) < (n : Int)) = (8 < n) := by simp; omega
def JoinP (p : zLo) (c : Change) (g : House → List House) (i : Nat) : Prop := Upd p c g ((q7 p c.street).take i) ∧ ∀ x, x ∈ (q7 p c.street).take i → x.number + base (q7 p c.other) ≤ 40
theorem JoinP.next {p : zLo} {c : Change} {g : House → List House} {i : Nat} (h : JoinP p c g i) (hi : i < (q7 p c.street).length) (hx : ((q7 p c.street).getD i default).number + base (q7 p c.other) ≤ 40) : JoinP p c (zL8 p c g ((q7 p c.street).getD i default)) (i + 1) := by
 have e := Z8 (l := q7 p c.street) (i := i) hi
 refine ⟨by rw [e]; exact h.1.one _, fun x hm => ?_⟩
 rw [e] at hm
 rcases List.mem_append.1 hm with hm | hm
 ·exact h.2 x hm
 ·simp only [List.mem_cons, List.not_mem_nil, or_false] at hm; subst hm; exact hx
theorem zHt (p : zLo) (c : Change) (v : Valid p) (f : Pre p c) (k : c.kind = 4) : zLp prog 172 [x7 p, c.enc, .mp 0] [.mapo (w5 p) (w4 p fun h => [h])] (iV (x9 p c)) [zLw p c] := by
  have hs0 := f.street.1
  have hs1 := f.street.2
  obtain ⟨ht0, ht1, _⟩ := f.other (.inl k)
  have hs : c.street.toNat < p.length := by omega
  have ht : c.other.toNat < p.length := by omega
  have hr := v.row c.street
  have hro := v.row c.other
  have hl8 := hr.len
  have ho8 := hro.len
  have hbb := zDv hro
  have hwl : IntKind.i64.wrap (((q7 p c.street).length : Int) + ((q7 p c.other).length : Int)) = (((q7 p c.street).length + (q7 p c.other).length : Nat) : Int) := by rw [wrap_i64 (by omega) (by omega)]; omega
  have hwn : 0 < (q7 p c.other).length → IntKind.i64.wrap (((q7 p c.other).length : Int) - 1) = (((q7 p c.other).length - 1 : Nat) : Int) := fun h => by rw [wrap_i64 (by omega) (by omega)]; omega
  have hlt : 0 < (q7 p c.other).length → (q7 p c.other).length - 1 < (q7 p c.other).length := fun h => by omega
  have hwb : 0 < (q7 p c.other).length → IntKind.i64.wrap (((q7 p c.other).getD ((q7 p c.other).length - 1) default).number + ((q7 p c.other).getD ((q7 p c.other).length - 1) default).number.tmod 2) = base (q7 p c.other) := fun h => by
    have e := zDu hro h
    rw [← e, wrap_i64 (by omega) (by omega)]
  have hb0 : (q7 p c.other).length ≤ 0 → base (q7 p c.other) = 0 := fun h => by rw [List.eq_nil_of_length_eq_zero (by omega : (q7 p c.other).length = 0)]; rfl
  refine q8 func172 rfl (fun E hE => ?_); simp only [go_sem, ntmps172]
  repeat' (first | (refine Qr rfl ?_; try intro _ hK; try simp only [go_sem, *]) | refine Qh rfl ?_ | refine Qd rfl (by kernel_rfl) ?_ | (refine Qc rfl rfl ?_ ?_ <;> (intro hb; have hc := hb; try simp only [go_sem] at hc)) | refine q6 rfl ?_ | (refine Qb ?_ ?_; focus kernel_rfl) | ((with_reducible apply And.intro); focus omega) | (refine z8 hK ?_; clear hK; simp only [go_sem, *]) | simp only [z6, z7, go_sem, *])
  · have e : x9 p c = 6 := by rw [A7 k, if_pos (by omega)]
    have e2 : zLw p c = .dead := by simp [zLw, e]
    refine ⟨[_], [some 0], [], ⟨rfl, trivial⟩, ?_⟩
    simp only [go_sem, e, e2]
  all_goals
    have hnb : ¬ 8 < (q7 p c.street).length + (q7 p c.other).length := by omega
    refine u4 rfl ((q7 p c.street).length) (fun i (g : House → List House) => JoinP p c g i) 76 (fun i g => [(51, iV i), (50, iV (q7 p c.street).length), (49, y7 (q7 p c.street)), (9, iV (base (q7 p c.other))), (4, .ptr 2 0), (3, .ptr 1 0), (2, .mp 0)]) (fun i g => [.mapo (w5 p) (w4 p g), zL3 p, zMO c]) [some 0, some 1, some 2] [] (fun h => [h]) (by exact ⟨Upd.nil _ _, by simp⟩) ?_; intro i g hi hP
    clear hb0 hwb hlt hwn hwl
    have hx : i < (q7 p c.street).length → 1 ≤ ((q7 p c.street).getD i default).number ∧ ((q7 p c.street).getD i default).number ≤ 40 := fun h => ((o3 _).1 (hr.ok _ (w8 h))).1
    have hw1 : i < (q7 p c.street).length → IntKind.i64.wrap (((q7 p c.street).getD i default).number + base (q7 p c.other)) = ((q7 p c.street).getD i default).number + base (q7 p c.other) := fun h => by have := hx h; exact wrap_i64 (by omega) (by omega)
    repeat' (first | (refine Qr rfl ?_; try intro _ hK; try simp only [go_sem, *]) | refine Qh rfl ?_ | refine Qd rfl (by kernel_rfl) ?_ | (refine Qc rfl rfl ?_ ?_ <;> (intro hb; have hc := hb; try simp only [go_sem] at hc)) | refine q6 rfl ?_ | (refine Qb ?_ ?_; focus kernel_rfl) | (refine y4 (I4 _ _ _) ?_; simp only [go_sem, *]) | ((with_reducible apply And.intro); focus omega) | (refine z8 hK ?_; clear hK; simp only [go_sem, *]) | simp only [z6, z7, go_sem, *])
    · have e : x9 p c = 1 := by
        rw [A7 k, if_neg hnb, if_pos]
        rw [List.any_eq_true]
        exact ⟨_, w8 (by assumption), by simpa using (by assumption : (40 : Int) < ((q7 p c.street).getD i default).number + base (q7 p c.other))⟩
      have e2 : zLw p c = .dead := by simp [zLw, e]
      refine ⟨[_], [some 0], [], ⟨rfl, trivial⟩, ?_⟩
      simp only [go_sem, e, e2]
    · refine R9 [⟨c.other, ⟨((q7 p c.street).getD i default).number + base (q7 p c.other), ((q7 p c.street).getD i default).letter⟩⟩] (g := g) (x := (q7 p c.street).getD i default) v hs0 hs1 (w8 (by assumption)) (by simp only [go_sem, *]) (by simp only [go_sem, *]) rfl rfl (by rw [R6 k]) ?_
      simp only [go_sem, *]
      repeat' (first | (refine Qr rfl ?_; try intro _ hK; try simp only [go_sem, *]) | refine Qh rfl ?_ | refine Qd rfl (by kernel_rfl) ?_ | (refine Qc rfl rfl ?_ ?_ <;> (intro hb; have hc := hb; try simp only [go_sem] at hc)) | refine q6 rfl ?_ | (refine Qb ?_ ?_; focus kernel_rfl) | ((with_reducible apply And.intro); focus omega) | (refine z8 hK ?_; clear hK; simp only [go_sem, *]) | simp only [z6, z7, go_sem, *])
      exact w6 (i' := i + 1) [some 0, some 1, some 2] [] (zL8 p c g ((q7 p c.street).getD i default)) (by exact hP.next (by assumption) (by assumption))
    · unfold JoinP at hP
      rw [List.take_of_length_le (by omega)] at hP
      have e0 := hP.1.fin (fun x hx hn => absurd hx hn)
      have e : x9 p c = 0 := by
        rw [A7 k, if_neg hnb, if_neg]
        rw [List.any_eq_true]
        rintro ⟨x, hx, h⟩
        have := hP.2 x hx
        simp at h; omega
      have e2 : zLw p c = .mapo (w5 p) (w4 p g) := by rw [e0]; simp [zLw, e]
      refine ⟨[_], [some 0], [], ⟨rfl, trivial⟩, ?_⟩
      simp only [go_sem, e, e2]
end Go.Abs

namespace Go.Abs
open Go Go.Proofs Tryz
attribute [local irreducible] y6 Hold x8
@[go_sem] theorem zJX {x : Plate} {l : List Plate} : (decide (x ∈ l) = false) = (x ∉ l) := by simp
theorem zHj (p : zLo) (c : Change) (v : Valid p) (f : Pre p c) (k : c.kind = 6) : zLp prog 174 [x7 p, c.enc, .mp 0] [.mapo (w5 p) (w4 p fun h => [h])] (iV (x9 p c)) [zLw p c] := by
 have hs0 := f.street.1
 have hs1 := f.street.2
 have hs : c.street.toNat < p.length := by omega
 have hr := v.row c.street
 have hl8 := hr.len
 refine q8 func174 rfl (fun E hE => ?_); simp only [go_sem, ntmps174]
 repeat' (first | (refine Qr rfl ?_; try intro _ hK; try simp only [go_sem, *]) | refine Qh rfl ?_ | refine Qd rfl (by kernel_rfl) ?_ | (refine Qc rfl rfl ?_ ?_ <;> (intro hb; have hc := hb; try simp only [go_sem] at hc)) | refine q6 rfl ?_ | (refine Qb ?_ ?_; focus kernel_rfl) | (refine y4 (zAp (q7 p c.street) c.src (by omega)) ?_; simp only [go_sem, *]) | ((with_reducible apply And.intro); focus omega) | (refine z8 hK ?_; clear hK; simp only [go_sem, *]) | simp only [z6, z7, go_sem, *])
 ·have hm : c.src ∉ q7 p c.street := by assumption
  have e : x9 p c = 3 := by rw [zBe k, if_pos hm]
  have e2 : zLw p c = .dead := by simp [zLw, e]
  refine ⟨[_], [some 0], [], ⟨rfl, trivial⟩, ?_⟩
  simp only [go_sem, e, e2]
 ·have hm : c.src ∈ q7 p c.street := by assumption
  refine zIO (g := fun h => [h]) v hs0 hs1 hm (by simp only [go_sem]) (by rw [R5 k, if_pos rfl]) ?_
  simp only [go_sem, *]
  repeat' (first | (refine Qr rfl ?_; try intro _ hK; try simp only [go_sem, *]) | refine Qh rfl ?_ | refine Qd rfl (by kernel_rfl) ?_ | (refine Qc rfl rfl ?_ ?_ <;> (intro hb; have hc := hb; try simp only [go_sem] at hc)) | refine q6 rfl ?_ | (refine Qb ?_ ?_; focus kernel_rfl) | ((with_reducible apply And.intro); focus omega) | (refine z8 hK ?_; clear hK; simp only [go_sem, *]) | simp only [z6, z7, go_sem, *])
  have e : x9 p c = 0 := by rw [zBe k, if_neg (fun h => h hm)]
  have e0 := ((Upd.nil p c).one c.src).fin (fun x hx hn => by
   have : ¬ x = c.src := fun h => hn (by simp [h])
   rw [R5 k, if_neg this])
  have e2 : zLw p c = .mapo (w5 p) (w4 p (zL8 p c (fun h => [h]) c.src)) := by rw [e0]; simp [zLw, e]
  refine ⟨[_], [some 0], [], ⟨rfl, trivial⟩, ?_⟩
  simp only [go_sem, e, e2]
theorem zGB {l : List Plate} {n : Int} (h : ∀ j : Nat, j < 4 → (⟨n, (j : Int) + 1⟩ : Plate) ∈ l) : letter l n = 0 := by
 have h0 := h 0; have h1 := h 1; have h2 := h 2; have h3 := h 3
 simp_all [letter]
@[go_sem] theorem zKd (n : Nat) : ((8 : Int) ≤ (n : Int)) = (8 ≤ n) := by simp; omega
theorem zHi (p : zLo) (c : Change) (v : Valid p) (f : Pre p c) (k : c.kind = 5) : zLp prog 173 [x7 p, c.enc, .mp 0] [.mapo (w5 p) (w4 p fun h => [h])] (iV (x9 p c)) [zLw p c] := by
  have hs0 := f.street.1
  have hs1 := f.street.2
  have hs : c.street.toNat < p.length := by omega
  have hr := v.row c.street
  have hl8 := hr.len
  refine q8 func173 rfl (fun E hE => ?_); simp only [go_sem, ntmps173]
  repeat' (first | (refine Qr rfl ?_; try intro _ hK; try simp only [go_sem, *]) | (refine Qi rfl rfl rfl rfl ?_ ?_ <;> (intro hb; (try intro _ hK); have hc := hb; try simp only [go_sem] at hc; simp only [go_sem, *])) | refine Qh rfl ?_ | refine Qd rfl (by kernel_rfl) ?_ | (refine Qc rfl rfl ?_ ?_ <;> (intro hb; have hc := hb; try simp only [go_sem] at hc)) | refine q6 rfl ?_ | (refine Qb ?_ ?_; focus kernel_rfl) | (refine y4 (zAp (q7 p c.street) c.src (by omega)) ?_; simp only [go_sem, *]) | ((with_reducible apply And.intro); focus omega) | (refine z8 hK ?_; clear hK; simp only [go_sem, *]) | simp only [z6, z7, go_sem, *])
  · have hm : c.src ∉ q7 p c.street := by assumption
    have e : x9 p c = 3 := by rw [L9 k, if_pos hm]
    have e2 : zLw p c = .dead := by simp [zLw, e]
    refine ⟨[_], [some 0], [], ⟨rfl, trivial⟩, ?_⟩
    simp only [go_sem, e, e2]
  · have hm : c.src ∈ q7 p c.street := by assumption
    refine u3 rfl (4) (fun i => ∀ j : Nat, j < i → (⟨c.src.number, (j : Int) + 1⟩ : Plate) ∈ q7 p c.street) 53 (fun i => [(8, iV ((i : Int) + 1)), (7, y7 (q7 p c.street)), (4, .ptr 2 0), (3, .ptr 1 0), (2, .mp 0)]) (fun i => [.mapo (w5 p) (w4 p fun h => [h]), zL3 p, zMO c]) [some 0, some 1, some 2] [] (by simp) ?_; intro i hi hP
    have hw : i ≤ 4 → IntKind.i64.wrap ((i : Int) + 1 + 1) = (((i + 1 : Nat) : Int) + 1) := fun h => by rw [wrap_i64 (by omega) (by omega)]; omega
    repeat' (first | (refine Qr rfl ?_; try intro _ hK; try simp only [go_sem, *]) | (refine Qi rfl rfl rfl rfl ?_ ?_ <;> (intro hb; (try intro _ hK); have hc := hb; try simp only [go_sem] at hc; simp only [go_sem, *])) | refine Qh rfl ?_ | refine Qd rfl (by kernel_rfl) ?_ | (refine Qc rfl rfl ?_ ?_ <;> (intro hb; have hc := hb; try simp only [go_sem] at hc)) | refine q6 rfl ?_ | (refine Qb ?_ ?_; focus kernel_rfl) | ((first | refine y4 (zAp (q7 p c.street) ⟨c.src.number, (i : Int) + 1⟩ (by omega)) ?_ | refine y4 (I4 _ _ _) ?_); simp only [go_sem, *]) | ((with_reducible apply And.intro); focus omega) | (refine z8 hK ?_; clear hK; simp only [go_sem, *]) | simp only [z6, z7, go_sem, *])
    · have hx : (⟨c.src.number, (i : Int) + 1⟩ : Plate) ∈ q7 p c.street := by assumption
      have hok := (o3 _).1 (hr.ok _ hx)
      simp only at hok
      have hi4 : i < 4 := by omega
      refine ⟨_, (by omega), [some 0, some 1, some 2], [], _, _, _, (by (simp only [Weak, go_sem, List.map_append, List.map_set, *] <;> (try simp (disch := omega) only [t8]) <;> (try simp) <;> (try omega))), i + 1, rfl, (by omega), (fun j hj => ?_), rfl, rfl, rfl⟩
      rcases Nat.lt_succ_iff_lt_or_eq.1 hj with h | h
      · exact hP j h
      · subst h; exact hx
    · have hn : (⟨c.src.number, (i : Int) + 1⟩ : Plate) ∉ q7 p c.street := by assumption
      have e : x9 p c = 6 := by
        have h4 : i = 4 := by omega
        subst h4
        rw [L9 k, if_neg (fun h => h hm), if_pos (.inr (zGB hP))]
      have e2 : zLw p c = .dead := by simp [zLw, e]
      refine ⟨[_], [some 0], [], ⟨rfl, trivial⟩, ?_⟩
      simp only [go_sem, e, e2]
    · have hn : (⟨c.src.number, (i : Int) + 1⟩ : Plate) ∉ q7 p c.street := by assumption
      have hi4 : i < 4 := by omega
      have hlet := zCH hi4 hP hn
      refine R9 [⟨c.street, c.src⟩, ⟨c.street, ⟨c.src.number, (i : Int) + 1⟩⟩] (g := fun h => [h]) v hs0 hs1 hm (by simp only [go_sem]) (by simp only [go_sem]) rfl rfl (by rw [U7 k, if_pos rfl, hlet]) ?_
      simp only [go_sem, *]
      repeat' (first | (refine Qr rfl ?_; try intro _ hK; try simp only [go_sem, *]) | (refine Qi rfl rfl rfl rfl ?_ ?_ <;> (intro hb; (try intro _ hK); have hc := hb; try simp only [go_sem] at hc; simp only [go_sem, *])) | refine Qh rfl ?_ | refine Qd rfl (by kernel_rfl) ?_ | (refine Qc rfl rfl ?_ ?_ <;> (intro hb; have hc := hb; try simp only [go_sem] at hc)) | refine q6 rfl ?_ | (refine Qb ?_ ?_; focus kernel_rfl) | ((with_reducible apply And.intro); focus omega) | (refine z8 hK ?_; clear hK; simp only [go_sem, *]) | simp only [z6, z7, go_sem, *])
      have e : x9 p c = 0 := by rw [L9 k, if_neg (fun h => h hm), if_neg (by omega)]
      have e0 := ((Upd.nil p c).one c.src).fin (fun x hx hn => by
        have : ¬ x = c.src := fun h => hn (by simp [h])
        rw [U7 k, if_neg this])
      have e2 : zLw p c = .mapo (w5 p) (w4 p (zL8 p c (fun h => [h]) c.src)) := by rw [e0]; simp [zLw, e]
      refine ⟨[_], [some 0], [], ⟨rfl, trivial⟩, ?_⟩
      simp only [go_sem, e, e2]
    · have e : x9 p c = 6 := by
        rw [L9 k, if_neg (fun h => h hm), if_pos (.inl (by omega))]
      have e2 : zLw p c = .dead := by simp [zLw, e]
      refine ⟨[_], [some 0], [], ⟨rfl, trivial⟩, ?_⟩
      simp only [go_sem, e, e2]
end Go.Abs

namespace Go.Abs
open Go Go.Proofs Tryz
attribute [local irreducible] y6 Hold x8
@[go_sem] theorem zKk (n : Nat) : ((n : Int) < 0) = False := by simp
@[go_sem] theorem zJW : decide False = false := rfl
@[go_sem] theorem zKn : ((-1 : Int) < 0) = True := by simp
theorem zHh (p : zLo) (c : Change) (v : Valid p) (f : Pre p c) (k : c.kind = 7) : zLp prog 175 [x7 p, c.enc, .mp 0] [.mapo (w5 p) (w4 p fun h => [h])] (iV (x9 p c)) [zLw p c] := by
 have hs0 := f.street.1
 have hs1 := f.street.2
 obtain ⟨ht0, ht1, hne⟩ := f.other (.inr k)
 have hs : c.street.toNat < p.length := by omega
 have ht : c.other.toNat < p.length := by omega
 have hr := v.row c.street
 have hl8 := hr.len
 have ho8 := (v.row c.other).len
 have fail : ∀ n : Int, x9 p c = n → n ≠ 0 → zLw p c = .dead := fun n e h => by simp [zLw, e, h]
 by_cases hm : c.src ∈ q7 p c.street
 ·have hA := Q5 hm
  have hAl := X0 hm
  by_cases hd : c.dst ∈ q7 p c.street
  ·have hB := Q5 hd
   have hBl := X0 hd
   have hcmp := D5 hr.sorted hd hm
   generalize hAe : (q7 p c.street).idxOf c.src = A at *
   generalize hBe : (q7 p c.street).idxOf c.dst = B at *
   have hf := G2 (p := p) k
   rw [if_neg (by simp [hm, hd])] at hf
   have hwB : IntKind.i64.wrap ((B : Int) + 1) = ((B + 1 : Nat) : Int) := t8 (by omega)
   obtain ⟨l', hl'⟩ : ∃ l', l' = ((q7 p c.street).drop A).take (B + 1 - A) := ⟨_, rfl⟩
   have hll : ¬ B < A → l'.length = B + 1 - A := fun h => by rw [hl']; simp; omega
   by_cases hlt : B < A
   ·rw [if_pos (hcmp.2 hlt)] at hf
    have e2 := fail _ hf (by omega)
    refine q8 func175 rfl (fun E hE => ?_); simp only [go_sem, ntmps175]
    repeat' (first | (refine Qr rfl ?_; try intro _ hK; try simp only [go_sem, *]) | (refine Qi rfl rfl rfl rfl ?_ ?_ <;> (intro hb; (try intro _ hK); have hc := hb; try simp only [go_sem] at hc; simp only [go_sem, *])) | refine Qh rfl ?_ | refine Qd rfl (by kernel_rfl) ?_ | (refine Qc rfl rfl ?_ ?_ <;> (intro hb; have hc := hb; try simp only [go_sem] at hc)) | refine q6 rfl ?_ | (refine Qb ?_ ?_; focus kernel_rfl) | ((first | refine y4 (Z6 (q7 p c.street) c.src (by omega)) ?_ | refine y4 (Z6 (q7 p c.street) c.dst (by omega)) ?_); simp only [go_sem, *]) | ((with_reducible apply And.intro); focus omega) | (refine z8 hK ?_; clear hK; simp only [go_sem, *]) | simp only [z6, z7, go_sem, *])
    all_goals first | (exfalso; omega) | (refine ⟨[_], [some 0], [], ⟨rfl, trivial⟩, ?_⟩; simp only [go_sem, *])
   ·rw [if_neg (fun h => hlt (hcmp.1 h))] at hf
    by_cases ho : 0 < (q7 p c.other).length
    ·rw [if_pos ho] at hf
     have e2 := fail _ hf (by omega)
     refine q8 func175 rfl (fun E hE => ?_); simp only [go_sem, ntmps175]
     repeat' (first | (refine Qr rfl ?_; try intro _ hK; try simp only [go_sem, *]) | (refine Qi rfl rfl rfl rfl ?_ ?_ <;> (intro hb; (try intro _ hK); have hc := hb; try simp only [go_sem] at hc; simp only [go_sem, *])) | refine Qh rfl ?_ | refine Qd rfl (by kernel_rfl) ?_ | (refine Qc rfl rfl ?_ ?_ <;> (intro hb; have hc := hb; try simp only [go_sem] at hc)) | refine q6 rfl ?_ | (refine Qb ?_ ?_; focus kernel_rfl) | ((first | refine y4 (Z6 (q7 p c.street) c.src (by omega)) ?_ | refine y4 (Z6 (q7 p c.street) c.dst (by omega)) ?_); simp only [go_sem, *]) | ((with_reducible apply And.intro); focus omega) | (refine z8 hK ?_; clear hK; simp only [go_sem, *]) | simp only [z6, z7, go_sem, *])
     all_goals first | (exfalso; omega) | (refine ⟨[_], [some 0], [], ⟨rfl, trivial⟩, ?_⟩; simp only [go_sem, *])
    ·rw [if_neg ho] at hf
     have hAB : A ≤ B + 1 := by omega
     have hll := hll hlt
     have hm' : List.take (B + 1 - A) (List.drop A ((q7 p c.street).map Plate.enc)) = l'.map Plate.enc := by rw [hl', List.map_take, List.map_drop]
     have hget : ∀ i, i < l'.length → ∃ h : A + i < (q7 p c.street).length, l'.getD i default = (q7 p c.street)[A + i] := fun i hi => by
      have h : A + i < (q7 p c.street).length := by omega
      refine ⟨h, ?_⟩
      rw [hl']
      simp only [List.getD_eq_getElem?_getD, List.getElem?_take, List.getElem?_drop]
      rw [if_pos (by omega), List.getElem?_eq_getElem h]; rfl
     have hidx : ∀ i (h : i < (q7 p c.street).length), (q7 p c.street).idxOf (q7 p c.street)[i] = i := fun i h => by
      have := S0 (List.getElem_mem h)
      exact (X5 hr.nodup).1 this
     have hcond : ∀ x, x ∈ q7 p c.street → ((x.lt c.src = false ∧ c.dst.lt x = false) ↔ A ≤ (q7 p c.street).idxOf x ∧ (q7 p c.street).idxOf x ≤ B) := fun x hx => by
      have h1 := D5 hr.sorted hx hm
      have h2 := D5 hr.sorted hd hx
      rw [hAe] at h1; rw [hBe] at h2
      rw [← Bool.not_eq_true, ← Bool.not_eq_true, h1, h2]; omega
     have htoP : ∀ i, i < l'.length → toP p c (l'.getD i default) = [⟨c.other, ⟨(i : Int) + 1, 0⟩⟩] ∧ l'.getD i default ∈ q7 p c.street := fun i hi => by
      obtain ⟨h, e⟩ := hget i hi
      rw [e]
      have hmx := List.getElem_mem h
      have hix := hidx _ h
      refine ⟨?_, hmx⟩
      rw [R4 k, if_pos ((hcond _ hmx).2 (by rw [hix]; omega)), Q5 hmx, hA, hix]
      congr 3; omega
     have hcov : ∀ x, x ∈ q7 p c.street → x ∉ l' → toP p c x = [⟨c.street, x⟩] := fun x hx hn => by
      rw [R4 k, if_neg]
      rw [hcond x hx]
      rintro ⟨h1, h2⟩
      apply hn
      have hi : (q7 p c.street).idxOf x - A < l'.length := by omega
      obtain ⟨h, e⟩ := hget _ hi
      have : (q7 p c.street)[A + ((q7 p c.street).idxOf x - A)] = x := by
       have h4 : A + ((q7 p c.street).idxOf x - A) = (q7 p c.street).idxOf x := by omega
       simp only [h4]; exact S0 hx
      rw [this] at e
      rw [← e]; exact w8 hi
     clear hget hidx hcond hl'
     have hB8 : B + 1 ≤ (q7 p c.street).length := by omega
     refine q8 func175 rfl (fun E hE => ?_); simp only [go_sem, ntmps175]
     repeat' (first | (refine Qr rfl ?_; try intro _ hK; try simp only [go_sem, *]) | (refine Qi rfl rfl rfl rfl ?_ ?_ <;> (intro hb; (try intro _ hK); have hc := hb; try simp only [go_sem] at hc; simp only [go_sem, *])) | refine Qh rfl ?_ | refine Qd rfl (by kernel_rfl) ?_ | (refine Qc rfl rfl ?_ ?_ <;> (intro hb; have hc := hb; try simp only [go_sem] at hc)) | refine q6 rfl ?_ | (refine Qb ?_ ?_; focus kernel_rfl) | ((first | refine y4 (Z6 (q7 p c.street) c.src (by omega)) ?_ | refine y4 (Z6 (q7 p c.street) c.dst (by omega)) ?_); simp only [go_sem, *]) | ((with_reducible apply And.intro); focus omega) | (refine z8 hK ?_; clear hK; simp only [go_sem, *]) | simp only [z6, z7, go_sem, *])
     all_goals first | (exfalso; omega) | skip
     refine ⟨fun y hy => by obtain ⟨x, _, rfl⟩ := List.mem_map.1 hy; rfl, ?_⟩
     try rw [hm']
     repeat' (first | (refine Qr rfl ?_; try intro _ hK; try simp only [go_sem, *]) | (refine Qi rfl rfl rfl rfl ?_ ?_ <;> (intro hb; (try intro _ hK); have hc := hb; try simp only [go_sem] at hc; simp only [go_sem, *])) | refine Qh rfl ?_ | refine Qd rfl (by kernel_rfl) ?_ | (refine Qc rfl rfl ?_ ?_ <;> (intro hb; have hc := hb; try simp only [go_sem] at hc)) | refine q6 rfl ?_ | (refine Qb ?_ ?_; focus kernel_rfl) | ((with_reducible apply And.intro); focus omega) | (refine z8 hK ?_; clear hK; simp only [go_sem, *]) | simp only [z6, z7, go_sem, *])
     refine u4 rfl (l'.length) (fun i (g : House → List House) => Upd p c g (l'.take i)) 69 (fun i g => [(52, iV i), (51, iV l'.length), (50, y7 l'), (4, .ptr 2 0), (3, .ptr 1 0), (2, .mp 0)]) (fun i g => [.mapo (w5 p) (w4 p g), zL3 p, zMO c]) [some 0, some 1, some 2] [] (fun h => [h]) (by exact Upd.nil _ _) ?_; intro i g hi hP
     have hw : i < l'.length → IntKind.i64.wrap ((i : Int) + 1) = (i : Int) + 1 := fun h => wrap_i64 (by omega) (by omega)
     repeat' (first | (refine Qr rfl ?_; try intro _ hK; try simp only [go_sem, *]) | (refine Qi rfl rfl rfl rfl ?_ ?_ <;> (intro hb; (try intro _ hK); have hc := hb; try simp only [go_sem] at hc; simp only [go_sem, *])) | refine Qh rfl ?_ | refine Qd rfl (by kernel_rfl) ?_ | (refine Qc rfl rfl ?_ ?_ <;> (intro hb; have hc := hb; try simp only [go_sem] at hc)) | refine q6 rfl ?_ | (refine Qb ?_ ?_; focus kernel_rfl) | (refine y4 (I4 _ _ _) ?_; simp only [go_sem, *]) | ((with_reducible apply And.intro); focus omega) | (refine z8 hK ?_; clear hK; simp only [go_sem, *]) | simp only [z6, z7, go_sem, *])
     ·obtain ⟨q1, q2⟩ := htoP i (by omega)
      refine R9 [⟨c.other, ⟨(i : Int) + 1, 0⟩⟩] (g := g) (x := l'.getD i default) v hs0 hs1 q2 (by simp only [go_sem, *]) (by simp only [go_sem, *]) rfl rfl q1 ?_
      simp only [go_sem, *]
      repeat' (first | (refine Qr rfl ?_; try intro _ hK; try simp only [go_sem, *]) | (refine Qi rfl rfl rfl rfl ?_ ?_ <;> (intro hb; (try intro _ hK); have hc := hb; try simp only [go_sem] at hc; simp only [go_sem, *])) | refine Qh rfl ?_ | refine Qd rfl (by kernel_rfl) ?_ | (refine Qc rfl rfl ?_ ?_ <;> (intro hb; have hc := hb; try simp only [go_sem] at hc)) | refine q6 rfl ?_ | (refine Qb ?_ ?_; focus kernel_rfl) | ((with_reducible apply And.intro); focus omega) | (refine z8 hK ?_; clear hK; simp only [go_sem, *]) | simp only [z6, z7, go_sem, *])
      have e := Z8 (l := l') (i := i) (by omega)
      exact w6 (i' := i + 1) [some 0, some 1, some 2] [] (zL8 p c g (l'.getD i default)) (by rw [e]; exact hP.one _)
     ·rw [List.take_of_length_le (by omega)] at hP
      have e0 := hP.fin hcov
      have e2 : zLw p c = .mapo (w5 p) (w4 p g) := by rw [e0]; simp [zLw, hf]
      refine ⟨[_], [some 0], [], ⟨rfl, trivial⟩, ?_⟩
      simp only [go_sem, hf, e2]
  ·have hf : x9 p c = 3 := by rw [G2 k, if_pos (.inr hd)]
   have e2 := fail _ hf (by omega)
   have hB := O1 hd
   refine q8 func175 rfl (fun E hE => ?_); simp only [go_sem, ntmps175]
   repeat' (first | (refine Qr rfl ?_; try intro _ hK; try simp only [go_sem, *]) | (refine Qi rfl rfl rfl rfl ?_ ?_ <;> (intro hb; (try intro _ hK); have hc := hb; try simp only [go_sem] at hc; simp only [go_sem, *])) | refine Qh rfl ?_ | refine Qd rfl (by kernel_rfl) ?_ | (refine Qc rfl rfl ?_ ?_ <;> (intro hb; have hc := hb; try simp only [go_sem] at hc)) | refine q6 rfl ?_ | (refine Qb ?_ ?_; focus kernel_rfl) | ((first | refine y4 (Z6 (q7 p c.street) c.src (by omega)) ?_ | refine y4 (Z6 (q7 p c.street) c.dst (by omega)) ?_); simp only [go_sem, *]) | ((with_reducible apply And.intro); focus omega) | (refine z8 hK ?_; clear hK; simp only [go_sem, *]) | simp only [z6, z7, go_sem, *])
   all_goals first | (exfalso; omega) | (refine ⟨[_], [some 0], [], ⟨rfl, trivial⟩, ?_⟩; simp only [go_sem, *])
 ·have hf : x9 p c = 3 := by rw [G2 k, if_pos (.inl hm)]
  have e2 := fail _ hf (by omega)
  have hA := O1 hm
  refine q8 func175 rfl (fun E hE => ?_); simp only [go_sem, ntmps175]
  repeat' (first | (refine Qr rfl ?_; try intro _ hK; try simp only [go_sem, *]) | (refine Qi rfl rfl rfl rfl ?_ ?_ <;> (intro hb; (try intro _ hK); have hc := hb; try simp only [go_sem] at hc; simp only [go_sem, *])) | refine Qh rfl ?_ | refine Qd rfl (by kernel_rfl) ?_ | (refine Qc rfl rfl ?_ ?_ <;> (intro hb; have hc := hb; try simp only [go_sem] at hc)) | refine q6 rfl ?_ | (refine Qb ?_ ?_; focus kernel_rfl) | ((first | refine y4 (Z6 (q7 p c.street) c.src (by omega)) ?_ | refine y4 (Z6 (q7 p c.street) c.dst (by omega)) ?_); simp only [go_sem, *]) | ((with_reducible apply And.intro); focus omega) | (refine z8 hK ?_; clear hK; simp only [go_sem, *]) | simp only [z6, z7, go_sem, *])
  all_goals first | (exfalso; omega) | (refine ⟨[_], [some 0], [], ⟨rfl, trivial⟩, ?_⟩; simp only [go_sem, *])
end Go.Abs

namespace Go.Abs
open Go Go.Proofs Tryz
attribute [local irreducible] y6 Hold x8
theorem zEU (p : zLo) (c : Change) (hl : p.length ≤ 1000) (hbk : zLr c.kind 1 7 = false) : zLp prog 125 [x7 p, c.enc] [] (.tup [.raw (.map none), iV 8]) [] := by
 have hwl : IntKind.i64.wrap ((p.length : Int) - 1) = (p.length : Int) - 1 := wrap_i64 (by omega) (by omega)
 refine q8 func125 rfl (fun E hE => ?_); simp only [go_sem, ntmps125]
 repeat' (first | (refine Qr rfl ?_; try intro _ hK; try simp only [go_sem, *]) | (refine Qi rfl rfl rfl rfl ?_ ?_ <;> (intro hb; (try intro _ hK); have hc := hb; try simp only [go_sem] at hc; simp only [go_sem, *])) | refine Qh rfl ?_ | refine Qd rfl (by kernel_rfl) ?_ | (refine Qc rfl rfl ?_ ?_ <;> (intro hb; have hc := hb; try simp only [go_sem] at hc)) | refine q6 rfl ?_ | (refine Qb ?_ ?_; focus kernel_rfl) | (refine y4 (r8 _ _ _) ?_; simp only [go_sem, *]) | ((with_reducible apply And.intro); focus omega) | (refine z8 hK ?_; clear hK; simp only [go_sem, *]) | simp only [z6, z7, go_sem, *])
 all_goals (refine ⟨[_, _], [], [], ⟨rfl, rfl, trivial⟩, ?_⟩; simp only [go_sem, *])
theorem zEZ (p : zLo) (c : Change) (hl : p.length ≤ 1000) (hbk : zLr c.kind 1 7 = true) (hbs : zLr c.street 0 ((p.length : Int) - 1) = false) : zLp prog 125 [x7 p, c.enc] [] (.tup [.raw (.map none), iV 3]) [] := by
 have hwl : IntKind.i64.wrap ((p.length : Int) - 1) = (p.length : Int) - 1 := wrap_i64 (by omega) (by omega)
 refine q8 func125 rfl (fun E hE => ?_); simp only [go_sem, ntmps125]
 repeat' (first | (refine Qr rfl ?_; try intro _ hK; try simp only [go_sem, *]) | (refine Qi rfl rfl rfl rfl ?_ ?_ <;> (intro hb; (try intro _ hK); have hc := hb; try simp only [go_sem] at hc; simp only [go_sem, *])) | refine Qh rfl ?_ | refine Qd rfl (by kernel_rfl) ?_ | (refine Qc rfl rfl ?_ ?_ <;> (intro hb; have hc := hb; try simp only [go_sem] at hc)) | refine q6 rfl ?_ | (refine Qb ?_ ?_; focus kernel_rfl) | (refine y4 (r8 _ _ _) ?_; simp only [go_sem, *]) | ((with_reducible apply And.intro); focus omega) | (refine z8 hK ?_; clear hK; simp only [go_sem, *]) | simp only [z6, z7, go_sem, *])
 all_goals (refine ⟨[_, _], [], [], ⟨rfl, rfl, trivial⟩, ?_⟩; simp only [go_sem, *])
theorem zEV (p : zLo) (c : Change) (hl : p.length ≤ 1000) (hbk : zLr c.kind 1 7 = true) (hbs : zLr c.street 0 ((p.length : Int) - 1) = true) (hk4 : (c.kind == 4) = true) (hbo : zLr c.other 0 ((p.length : Int) - 1) = false) : zLp prog 125 [x7 p, c.enc] [] (.tup [.raw (.map none), iV 3]) [] := by
 have hwl : IntKind.i64.wrap ((p.length : Int) - 1) = (p.length : Int) - 1 := wrap_i64 (by omega) (by omega)
 refine q8 func125 rfl (fun E hE => ?_); simp only [go_sem, ntmps125]
 repeat' (first | (refine Qr rfl ?_; try intro _ hK; try simp only [go_sem, *]) | (refine Qi rfl rfl rfl rfl ?_ ?_ <;> (intro hb; (try intro _ hK); have hc := hb; try simp only [go_sem] at hc; simp only [go_sem, *])) | refine Qh rfl ?_ | refine Qd rfl (by kernel_rfl) ?_ | (refine Qc rfl rfl ?_ ?_ <;> (intro hb; have hc := hb; try simp only [go_sem] at hc)) | refine q6 rfl ?_ | (refine Qb ?_ ?_; focus kernel_rfl) | (refine y4 (r8 _ _ _) ?_; simp only [go_sem, *]) | ((with_reducible apply And.intro); focus omega) | (refine z8 hK ?_; clear hK; simp only [go_sem, *]) | simp only [z6, z7, go_sem, *])
 all_goals (refine ⟨[_, _], [], [], ⟨rfl, rfl, trivial⟩, ?_⟩; simp only [go_sem, *])
theorem zEW (p : zLo) (c : Change) (hl : p.length ≤ 1000) (hbk : zLr c.kind 1 7 = true) (hbs : zLr c.street 0 ((p.length : Int) - 1) = true) (hk4 : (c.kind == 4) = false) (hk7 : (c.kind == 7) = true) (hbo : zLr c.other 0 ((p.length : Int) - 1) = false) : zLp prog 125 [x7 p, c.enc] [] (.tup [.raw (.map none), iV 3]) [] := by
 have hwl : IntKind.i64.wrap ((p.length : Int) - 1) = (p.length : Int) - 1 := wrap_i64 (by omega) (by omega)
 refine q8 func125 rfl (fun E hE => ?_); simp only [go_sem, ntmps125]
 repeat' (first | (refine Qr rfl ?_; try intro _ hK; try simp only [go_sem, *]) | (refine Qi rfl rfl rfl rfl ?_ ?_ <;> (intro hb; (try intro _ hK); have hc := hb; try simp only [go_sem] at hc; simp only [go_sem, *])) | refine Qh rfl ?_ | refine Qd rfl (by kernel_rfl) ?_ | (refine Qc rfl rfl ?_ ?_ <;> (intro hb; have hc := hb; try simp only [go_sem] at hc)) | refine q6 rfl ?_ | (refine Qb ?_ ?_; focus kernel_rfl) | (refine y4 (r8 _ _ _) ?_; simp only [go_sem, *]) | ((with_reducible apply And.intro); focus omega) | (refine z8 hK ?_; clear hK; simp only [go_sem, *]) | simp only [z6, z7, go_sem, *])
 all_goals (refine ⟨[_, _], [], [], ⟨rfl, rfl, trivial⟩, ?_⟩; simp only [go_sem, *])
theorem zEX (p : zLo) (c : Change) (hl : p.length ≤ 1000) (hbk : zLr c.kind 1 7 = true) (hbs : zLr c.street 0 ((p.length : Int) - 1) = true) (hk4 : (c.kind == 4) = true) (hbo : zLr c.other 0 ((p.length : Int) - 1) = true) (hrp : (c.other == c.street) = true) : zLp prog 125 [x7 p, c.enc] [] (.tup [.raw (.map none), iV 4]) [] := by
 have hwl : IntKind.i64.wrap ((p.length : Int) - 1) = (p.length : Int) - 1 := wrap_i64 (by omega) (by omega)
 refine q8 func125 rfl (fun E hE => ?_); simp only [go_sem, ntmps125]
 repeat' (first | (refine Qr rfl ?_; try intro _ hK; try simp only [go_sem, *]) | (refine Qi rfl rfl rfl rfl ?_ ?_ <;> (intro hb; (try intro _ hK); have hc := hb; try simp only [go_sem] at hc; simp only [go_sem, *])) | refine Qh rfl ?_ | refine Qd rfl (by kernel_rfl) ?_ | (refine Qc rfl rfl ?_ ?_ <;> (intro hb; have hc := hb; try simp only [go_sem] at hc)) | refine q6 rfl ?_ | (refine Qb ?_ ?_; focus kernel_rfl) | (refine y4 (r8 _ _ _) ?_; simp only [go_sem, *]) | ((with_reducible apply And.intro); focus omega) | (refine z8 hK ?_; clear hK; simp only [go_sem, *]) | simp only [z6, z7, go_sem, *])
 all_goals (refine ⟨[_, _], [], [], ⟨rfl, rfl, trivial⟩, ?_⟩; simp only [go_sem, *])
theorem zEY (p : zLo) (c : Change) (hl : p.length ≤ 1000) (hbk : zLr c.kind 1 7 = true) (hbs : zLr c.street 0 ((p.length : Int) - 1) = true) (hk4 : (c.kind == 4) = false) (hk7 : (c.kind == 7) = true) (hbo : zLr c.other 0 ((p.length : Int) - 1) = true) (hrp : (c.other == c.street) = true) : zLp prog 125 [x7 p, c.enc] [] (.tup [.raw (.map none), iV 4]) [] := by
 have hwl : IntKind.i64.wrap ((p.length : Int) - 1) = (p.length : Int) - 1 := wrap_i64 (by omega) (by omega)
 refine q8 func125 rfl (fun E hE => ?_); simp only [go_sem, ntmps125]
 repeat' (first | (refine Qr rfl ?_; try intro _ hK; try simp only [go_sem, *]) | (refine Qi rfl rfl rfl rfl ?_ ?_ <;> (intro hb; (try intro _ hK); have hc := hb; try simp only [go_sem] at hc; simp only [go_sem, *])) | refine Qh rfl ?_ | refine Qd rfl (by kernel_rfl) ?_ | (refine Qc rfl rfl ?_ ?_ <;> (intro hb; have hc := hb; try simp only [go_sem] at hc)) | refine q6 rfl ?_ | (refine Qb ?_ ?_; focus kernel_rfl) | (refine y4 (r8 _ _ _) ?_; simp only [go_sem, *]) | ((with_reducible apply And.intro); focus omega) | (refine z8 hK ?_; clear hK; simp only [go_sem, *]) | simp only [z6, z7, go_sem, *])
 all_goals (refine ⟨[_, _], [], [], ⟨rfl, rfl, trivial⟩, ?_⟩; simp only [go_sem, *])
theorem zEH (p : zLo) (c : Change) (hl : p.length ≤ 1000) (hbk : zLr c.kind 1 7 = true) (hbs : zLr c.street 0 ((p.length : Int) - 1) = true) (hk4 : (c.kind == 4) = false) (hk7 : (c.kind == 7) = false) (hco : (c.other != 0) = true) : zLp prog 125 [x7 p, c.enc] [] (.tup [.raw (.map none), iV 1]) [] := by
 have hwl : IntKind.i64.wrap ((p.length : Int) - 1) = (p.length : Int) - 1 := wrap_i64 (by omega) (by omega)
 refine q8 func125 rfl (fun E hE => ?_); simp only [go_sem, ntmps125]
 repeat' (first | (refine Qr rfl ?_; try intro _ hK; try simp only [go_sem, *]) | (refine Qi rfl rfl rfl rfl ?_ ?_ <;> (intro hb; (try intro _ hK); have hc := hb; try simp only [go_sem] at hc; simp only [go_sem, *])) | refine Qh rfl ?_ | refine Qd rfl (by kernel_rfl) ?_ | (refine Qc rfl rfl ?_ ?_ <;> (intro hb; have hc := hb; try simp only [go_sem] at hc)) | refine q6 rfl ?_ | (refine Qb ?_ ?_; focus kernel_rfl) | (refine y4 (r8 _ _ _) ?_; simp only [go_sem, *]) | ((with_reducible apply And.intro); focus omega) | (refine z8 hK ?_; clear hK; simp only [go_sem, *]) | simp only [z6, z7, go_sem, *])
 all_goals (refine ⟨[_, _], [], [], ⟨rfl, rfl, trivial⟩, ?_⟩; simp only [go_sem, *])
theorem zEJ (p : zLo) (c : Change) (hl : p.length ≤ 1000) (hbk : zLr c.kind 1 7 = true) (hbs : zLr c.street 0 ((p.length : Int) - 1) = true) (hk4 : (c.kind == 4) = true) (hbo : zLr c.other 0 ((p.length : Int) - 1) = true) (hrp : (c.other == c.street) = false) (hk5 : decide (c.kind ≥ 5) = false) (hsz : (c.src.number == 0 && c.src.letter == 0) = false) : zLp prog 125 [x7 p, c.enc] [] (.tup [.raw (.map none), iV 1]) [] := by
 have hwl : IntKind.i64.wrap ((p.length : Int) - 1) = (p.length : Int) - 1 := wrap_i64 (by omega) (by omega)
 refine q8 func125 rfl (fun E hE => ?_); simp only [go_sem, ntmps125]
 repeat' (first | (refine Qr rfl ?_; try intro _ hK; try simp only [go_sem, *]) | (refine Qi rfl rfl rfl rfl ?_ ?_ <;> (intro hb; (try intro _ hK); have hc := hb; try simp only [go_sem] at hc; simp only [go_sem, *])) | refine Qh rfl ?_ | refine Qd rfl (by kernel_rfl) ?_ | (refine Qc rfl rfl ?_ ?_ <;> (intro hb; have hc := hb; try simp only [go_sem] at hc)) | refine q6 rfl ?_ | (refine Qb ?_ ?_; focus kernel_rfl) | (refine y4 (r8 _ _ _) ?_; simp only [go_sem, *]) | ((with_reducible apply And.intro); focus omega) | (refine z8 hK ?_; clear hK; simp only [go_sem, *]) | simp only [z6, z7, go_sem, *])
 all_goals (refine ⟨[_, _], [], [], ⟨rfl, rfl, trivial⟩, ?_⟩; simp only [go_sem, *])
theorem zEI (p : zLo) (c : Change) (hl : p.length ≤ 1000) (hbk : zLr c.kind 1 7 = true) (hbs : zLr c.street 0 ((p.length : Int) - 1) = true) (hk4 : (c.kind == 4) = false) (hk7 : (c.kind == 7) = false) (hco : (c.other != 0) = false) (hk5 : decide (c.kind ≥ 5) = false) (hsz : (c.src.number == 0 && c.src.letter == 0) = false) : zLp prog 125 [x7 p, c.enc] [] (.tup [.raw (.map none), iV 1]) [] := by
 have hwl : IntKind.i64.wrap ((p.length : Int) - 1) = (p.length : Int) - 1 := wrap_i64 (by omega) (by omega)
 refine q8 func125 rfl (fun E hE => ?_); simp only [go_sem, ntmps125]
 repeat' (first | (refine Qr rfl ?_; try intro _ hK; try simp only [go_sem, *]) | (refine Qi rfl rfl rfl rfl ?_ ?_ <;> (intro hb; (try intro _ hK); have hc := hb; try simp only [go_sem] at hc; simp only [go_sem, *])) | refine Qh rfl ?_ | refine Qd rfl (by kernel_rfl) ?_ | (refine Qc rfl rfl ?_ ?_ <;> (intro hb; have hc := hb; try simp only [go_sem] at hc)) | refine q6 rfl ?_ | (refine Qb ?_ ?_; focus kernel_rfl) | (refine y4 (r8 _ _ _) ?_; simp only [go_sem, *]) | ((with_reducible apply And.intro); focus omega) | (refine z8 hK ?_; clear hK; simp only [go_sem, *]) | simp only [z6, z7, go_sem, *])
 all_goals (refine ⟨[_, _], [], [], ⟨rfl, rfl, trivial⟩, ?_⟩; simp only [go_sem, *])
theorem zEL (p : zLo) (c : Change) (hl : p.length ≤ 1000) (hbk : zLr c.kind 1 7 = true) (hbs : zLr c.street 0 ((p.length : Int) - 1) = true) (hk4 : (c.kind == 4) = true) (hk7 : (c.kind == 7) = false) (hbo : zLr c.other 0 ((p.length : Int) - 1) = true) (hrp : (c.other == c.street) = false) (hk5 : decide (c.kind ≥ 5) = false) (hsz : (c.src.number == 0 && c.src.letter == 0) = true) (hdz : (c.dst.number == 0 && c.dst.letter == 0) = false) : zLp prog 125 [x7 p, c.enc] [] (.tup [.raw (.map none), iV 1]) [] := by
 have hwl : IntKind.i64.wrap ((p.length : Int) - 1) = (p.length : Int) - 1 := wrap_i64 (by omega) (by omega)
 refine q8 func125 rfl (fun E hE => ?_); simp only [go_sem, ntmps125]
 repeat' (first | (refine Qr rfl ?_; try intro _ hK; try simp only [go_sem, *]) | (refine Qi rfl rfl rfl rfl ?_ ?_ <;> (intro hb; (try intro _ hK); have hc := hb; try simp only [go_sem] at hc; simp only [go_sem, *])) | refine Qh rfl ?_ | refine Qd rfl (by kernel_rfl) ?_ | (refine Qc rfl rfl ?_ ?_ <;> (intro hb; have hc := hb; try simp only [go_sem] at hc)) | refine q6 rfl ?_ | (refine Qb ?_ ?_; focus kernel_rfl) | (refine y4 (r8 _ _ _) ?_; simp only [go_sem, *]) | ((with_reducible apply And.intro); focus omega) | (refine z8 hK ?_; clear hK; simp only [go_sem, *]) | simp only [z6, z7, go_sem, *])
 all_goals (refine ⟨[_, _], [], [], ⟨rfl, rfl, trivial⟩, ?_⟩; simp only [go_sem, *])
theorem zEK (p : zLo) (c : Change) (hl : p.length ≤ 1000) (hbk : zLr c.kind 1 7 = true) (hbs : zLr c.street 0 ((p.length : Int) - 1) = true) (hk4 : (c.kind == 4) = false) (hk7 : (c.kind == 7) = false) (hco : (c.other != 0) = false) (hk5 : decide (c.kind ≥ 5) = false) (hsz : (c.src.number == 0 && c.src.letter == 0) = true) (hdz : (c.dst.number == 0 && c.dst.letter == 0) = false) : zLp prog 125 [x7 p, c.enc] [] (.tup [.raw (.map none), iV 1]) [] := by
 have hwl : IntKind.i64.wrap ((p.length : Int) - 1) = (p.length : Int) - 1 := wrap_i64 (by omega) (by omega)
 refine q8 func125 rfl (fun E hE => ?_); simp only [go_sem, ntmps125]
 repeat' (first | (refine Qr rfl ?_; try intro _ hK; try simp only [go_sem, *]) | (refine Qi rfl rfl rfl rfl ?_ ?_ <;> (intro hb; (try intro _ hK); have hc := hb; try simp only [go_sem] at hc; simp only [go_sem, *])) | refine Qh rfl ?_ | refine Qd rfl (by kernel_rfl) ?_ | (refine Qc rfl rfl ?_ ?_ <;> (intro hb; have hc := hb; try simp only [go_sem] at hc)) | refine q6 rfl ?_ | (refine Qb ?_ ?_; focus kernel_rfl) | (refine y4 (r8 _ _ _) ?_; simp only [go_sem, *]) | ((with_reducible apply And.intro); focus omega) | (refine z8 hK ?_; clear hK; simp only [go_sem, *]) | simp only [z6, z7, go_sem, *])
 all_goals (refine ⟨[_, _], [], [], ⟨rfl, rfl, trivial⟩, ?_⟩; simp only [go_sem, *])
theorem zEM (p : zLo) (c : Change) (hl : p.length ≤ 1000) (hbk : zLr c.kind 1 7 = true) (hbs : zLr c.street 0 ((p.length : Int) - 1) = true) (hk4 : (c.kind == 4) = false) (hk7 : (c.kind == 7) = false) (hco : (c.other != 0) = false) (hk5 : decide (c.kind ≥ 5) = true) (hdz : (c.dst.number == 0 && c.dst.letter == 0) = false) : zLp prog 125 [x7 p, c.enc] [] (.tup [.raw (.map none), iV 1]) [] := by
 have hwl : IntKind.i64.wrap ((p.length : Int) - 1) = (p.length : Int) - 1 := wrap_i64 (by omega) (by omega)
 refine q8 func125 rfl (fun E hE => ?_); simp only [go_sem, ntmps125]
 repeat' (first | (refine Qr rfl ?_; try intro _ hK; try simp only [go_sem, *]) | (refine Qi rfl rfl rfl rfl ?_ ?_ <;> (intro hb; (try intro _ hK); have hc := hb; try simp only [go_sem] at hc; simp only [go_sem, *])) | refine Qh rfl ?_ | refine Qd rfl (by kernel_rfl) ?_ | (refine Qc rfl rfl ?_ ?_ <;> (intro hb; have hc := hb; try simp only [go_sem] at hc)) | refine q6 rfl ?_ | (refine Qb ?_ ?_; focus kernel_rfl) | (refine y4 (r8 _ _ _) ?_; simp only [go_sem, *]) | ((with_reducible apply And.intro); focus omega) | (refine z8 hK ?_; clear hK; simp only [go_sem, *]) | simp only [z6, z7, go_sem, *])
 all_goals (refine ⟨[_, _], [], [], ⟨rfl, rfl, trivial⟩, ?_⟩; simp only [go_sem, *])
end Go.Abs

namespace Go.Abs
open Go Go.Proofs Tryz
attribute [local irreducible] y6 Hold x8
attribute [go_sem] ge_iff_le
theorem A8 {p : zLo} {c : Change} (h : c.kind = 1 ∨ c.kind = 2 ∨ c.kind = 3) : x9 p c = 0 := by
 unfold x9; rw [if_neg (by omega), if_neg (by omega), if_neg (by omega), if_neg (by omega)]
theorem Q9 {p : zLo} {c : Change} (h : x9 p c = 0) : zLw p c = .mapo (w5 p) (w4 p (mv p c)) := by simp [zLw, h]
def zLu (p : zLo) (c : Change) : AV := if x9 p c = 0 then .tup [.mp 0, iV 0] else .tup [.raw (.map none), iV (x9 p c)]
def zLt (p : zLo) (c : Change) : List AObj := if x9 p c = 0 then [.mapo (w5 p) (w4 p (mv p c))] else []
@[go_sem] theorem zJH : zLr 1 1 7 = true := by decide
@[go_sem] theorem zJI : zLr 2 1 7 = true := by decide
@[go_sem] theorem zJJ : zLr 3 1 7 = true := by decide
@[go_sem] theorem zJK : zLr 4 1 7 = true := by decide
@[go_sem] theorem zJL : zLr 5 1 7 = true := by decide
@[go_sem] theorem zJM : zLr 6 1 7 = true := by decide
@[go_sem] theorem zJN : zLr 7 1 7 = true := by decide
theorem zHu (p : zLo) (c : Change) (v : Valid p) (f : Pre p c) (k : c.kind = 1) : zLp prog 169 [x7 p, c.enc, .mp 0] [.mapo (w5 p) (w4 p fun h => [h])] (iV (x9 p c)) [zLw p c] := by
 have h := A8 (p := p) (c := c) (by omega)
 rw [Q9 h, h]
 exact zIB p c v (f.fit h) k
theorem zHv (p : zLo) (c : Change) (v : Valid p) (f : Pre p c) (k : c.kind = 2) : zLp prog 170 [x7 p, c.enc, .mp 0] [.mapo (w5 p) (w4 p fun h => [h])] (iV (x9 p c)) [zLw p c] := by
 have h := A8 (p := p) (c := c) (by omega)
 rw [Q9 h, h]
 exact zH5 p c v (f.fit h) k
theorem zHw (p : zLo) (c : Change) (v : Valid p) (f : Pre p c) (k : c.kind = 3) : zLp prog 171 [x7 p, c.enc, .mp 0] [.mapo (w5 p) (w4 p fun h => [h])] (iV (x9 p c)) [zLw p c] := by
 have h := A8 (p := p) (c := c) (by omega)
 rw [Q9 h, h]
 exact zHg p c v (f.fit h) k
theorem zEN (p : zLo) (c : Change) (v : Valid p) (f : Pre p c) (k : c.kind = 1) (hco : (c.other != 0) = false) (hsz : (c.src.number == 0 && c.src.letter == 0) = true) (hdz : (c.dst.number == 0 && c.dst.letter == 0) = true) : zLp prog 125 [x7 p, c.enc] [] (zLu p c) (zLt p c) := by
 have hwl : IntKind.i64.wrap ((p.length : Int) - 1) = (p.length : Int) - 1 := by have := v.len; exact wrap_i64 (by omega) (by omega)
 have hbs : zLr c.street 0 ((p.length : Int) - 1) = true := betw_iff.2 (by have := f.street; omega)
 refine q8 func125 rfl (fun E hE => ?_); simp only [go_sem, ntmps125]
 repeat' (first | (refine Qr rfl ?_; try intro _ hK; try simp only [go_sem, *]) | (refine Qi rfl rfl rfl rfl ?_ ?_ <;> (intro hb; (try intro _ hK); have hc := hb; try simp only [go_sem] at hc; simp only [go_sem, *])) | refine Qh rfl ?_ | refine Qd rfl (by kernel_rfl) ?_ | (refine Qc rfl rfl ?_ ?_ <;> (intro hb; have hc := hb; try simp only [go_sem] at hc)) | refine q6 rfl ?_ | (refine Qb ?_ ?_; focus kernel_rfl) | ((first | refine y4 (r8 _ _ _) ?_ | refine y4 (S7) ?_); simp only [go_sem, *]) | (refine s8 (U4 p v) ?_; simp only [go_sem, *]) | ((with_reducible apply And.intro); focus omega) | (refine z8 hK ?_; clear hK; simp only [go_sem, *]) | simp only [z6, z7, go_sem, *])
 refine y9 [2] [] (zHu p c v f k) (by simp) (by simp only [go_sem, *]) (by simp only [go_sem, AObj.live, *]) (by simp) (.inl rfl) (by simp [go_sem]) (by simp [zLw]; split <;> simp) ?_
 simp only [go_sem, *]
 repeat' (first | (refine Qr rfl ?_; try intro _ hK; try simp only [go_sem, *]) | (refine Qi rfl rfl rfl rfl ?_ ?_ <;> (intro hb; (try intro _ hK); have hc := hb; try simp only [go_sem] at hc; simp only [go_sem, *])) | refine Qh rfl ?_ | refine Qd rfl (by kernel_rfl) ?_ | (refine Qc rfl rfl ?_ ?_ <;> (intro hb; have hc := hb; try simp only [go_sem] at hc)) | refine q6 rfl ?_ | (refine Qb ?_ ?_; focus kernel_rfl) | ((with_reducible apply And.intro); focus omega) | (refine z8 hK ?_; clear hK; simp only [go_sem, *]) | simp only [z6, z7, go_sem, *])
 ·have h : ¬ x9 p c = 0 := by assumption
  have e1 : zLu p c = .tup [.raw (.map none), iV (x9 p c)] := by simp [zLu, h]
  have e2 : zLt p c = [] := by simp [zLt, h]
  refine ⟨[_, _], [], [], ⟨rfl, rfl, trivial⟩, ?_⟩
  simp only [go_sem, e1, e2]
 ·have h : x9 p c = 0 := by assumption
  have e1 : zLu p c = .tup [.mp 0, iV 0] := by simp [zLu, h]
  have e2 : zLt p c = [.mapo (w5 p) (w4 p (mv p c))] := by simp [zLt, h]
  have e3 := Q9 h
  refine ⟨[_, _], [some 2], [], ⟨rfl, rfl, trivial⟩, ?_⟩
  simp only [go_sem, e1, e2, e3, AObj.ren]
theorem zEO (p : zLo) (c : Change) (v : Valid p) (f : Pre p c) (k : c.kind = 2) (hco : (c.other != 0) = false) (hsz : (c.src.number == 0 && c.src.letter == 0) = true) (hdz : (c.dst.number == 0 && c.dst.letter == 0) = true) : zLp prog 125 [x7 p, c.enc] [] (zLu p c) (zLt p c) := by
 have hwl : IntKind.i64.wrap ((p.length : Int) - 1) = (p.length : Int) - 1 := by have := v.len; exact wrap_i64 (by omega) (by omega)
 have hbs : zLr c.street 0 ((p.length : Int) - 1) = true := betw_iff.2 (by have := f.street; omega)
 refine q8 func125 rfl (fun E hE => ?_); simp only [go_sem, ntmps125]
 repeat' (first | (refine Qr rfl ?_; try intro _ hK; try simp only [go_sem, *]) | (refine Qi rfl rfl rfl rfl ?_ ?_ <;> (intro hb; (try intro _ hK); have hc := hb; try simp only [go_sem] at hc; simp only [go_sem, *])) | refine Qh rfl ?_ | refine Qd rfl (by kernel_rfl) ?_ | (refine Qc rfl rfl ?_ ?_ <;> (intro hb; have hc := hb; try simp only [go_sem] at hc)) | refine q6 rfl ?_ | (refine Qb ?_ ?_; focus kernel_rfl) | ((first | refine y4 (r8 _ _ _) ?_ | refine y4 (S7) ?_); simp only [go_sem, *]) | (refine s8 (U4 p v) ?_; simp only [go_sem, *]) | ((with_reducible apply And.intro); focus omega) | (refine z8 hK ?_; clear hK; simp only [go_sem, *]) | simp only [z6, z7, go_sem, *])
 refine y9 [2] [] (zHv p c v f k) (by simp) (by simp only [go_sem, *]) (by simp only [go_sem, AObj.live, *]) (by simp) (.inl rfl) (by simp [go_sem]) (by simp [zLw]; split <;> simp) ?_
 simp only [go_sem, *]
 repeat' (first | (refine Qr rfl ?_; try intro _ hK; try simp only [go_sem, *]) | (refine Qi rfl rfl rfl rfl ?_ ?_ <;> (intro hb; (try intro _ hK); have hc := hb; try simp only [go_sem] at hc; simp only [go_sem, *])) | refine Qh rfl ?_ | refine Qd rfl (by kernel_rfl) ?_ | (refine Qc rfl rfl ?_ ?_ <;> (intro hb; have hc := hb; try simp only [go_sem] at hc)) | refine q6 rfl ?_ | (refine Qb ?_ ?_; focus kernel_rfl) | ((with_reducible apply And.intro); focus omega) | (refine z8 hK ?_; clear hK; simp only [go_sem, *]) | simp only [z6, z7, go_sem, *])
 ·have h : ¬ x9 p c = 0 := by assumption
  have e1 : zLu p c = .tup [.raw (.map none), iV (x9 p c)] := by simp [zLu, h]
  have e2 : zLt p c = [] := by simp [zLt, h]
  refine ⟨[_, _], [], [], ⟨rfl, rfl, trivial⟩, ?_⟩
  simp only [go_sem, e1, e2]
 ·have h : x9 p c = 0 := by assumption
  have e1 : zLu p c = .tup [.mp 0, iV 0] := by simp [zLu, h]
  have e2 : zLt p c = [.mapo (w5 p) (w4 p (mv p c))] := by simp [zLt, h]
  have e3 := Q9 h
  refine ⟨[_, _], [some 2], [], ⟨rfl, rfl, trivial⟩, ?_⟩
  simp only [go_sem, e1, e2, e3, AObj.ren]
theorem zEP (p : zLo) (c : Change) (v : Valid p) (f : Pre p c) (k : c.kind = 3) (hco : (c.other != 0) = false) (hsz : (c.src.number == 0 && c.src.letter == 0) = true) (hdz : (c.dst.number == 0 && c.dst.letter == 0) = true) : zLp prog 125 [x7 p, c.enc] [] (zLu p c) (zLt p c) := by
 have hwl : IntKind.i64.wrap ((p.length : Int) - 1) = (p.length : Int) - 1 := by have := v.len; exact wrap_i64 (by omega) (by omega)
 have hbs : zLr c.street 0 ((p.length : Int) - 1) = true := betw_iff.2 (by have := f.street; omega)
 refine q8 func125 rfl (fun E hE => ?_); simp only [go_sem, ntmps125]
 repeat' (first | (refine Qr rfl ?_; try intro _ hK; try simp only [go_sem, *]) | (refine Qi rfl rfl rfl rfl ?_ ?_ <;> (intro hb; (try intro _ hK); have hc := hb; try simp only [go_sem] at hc; simp only [go_sem, *])) | refine Qh rfl ?_ | refine Qd rfl (by kernel_rfl) ?_ | (refine Qc rfl rfl ?_ ?_ <;> (intro hb; have hc := hb; try simp only [go_sem] at hc)) | refine q6 rfl ?_ | (refine Qb ?_ ?_; focus kernel_rfl) | ((first | refine y4 (r8 _ _ _) ?_ | refine y4 (S7) ?_); simp only [go_sem, *]) | (refine s8 (U4 p v) ?_; simp only [go_sem, *]) | ((with_reducible apply And.intro); focus omega) | (refine z8 hK ?_; clear hK; simp only [go_sem, *]) | simp only [z6, z7, go_sem, *])
 refine y9 [2] [] (zHw p c v f k) (by simp) (by simp only [go_sem, *]) (by simp only [go_sem, AObj.live, *]) (by simp) (.inl rfl) (by simp [go_sem]) (by simp [zLw]; split <;> simp) ?_
 simp only [go_sem, *]
 repeat' (first | (refine Qr rfl ?_; try intro _ hK; try simp only [go_sem, *]) | (refine Qi rfl rfl rfl rfl ?_ ?_ <;> (intro hb; (try intro _ hK); have hc := hb; try simp only [go_sem] at hc; simp only [go_sem, *])) | refine Qh rfl ?_ | refine Qd rfl (by kernel_rfl) ?_ | (refine Qc rfl rfl ?_ ?_ <;> (intro hb; have hc := hb; try simp only [go_sem] at hc)) | refine q6 rfl ?_ | (refine Qb ?_ ?_; focus kernel_rfl) | ((with_reducible apply And.intro); focus omega) | (refine z8 hK ?_; clear hK; simp only [go_sem, *]) | simp only [z6, z7, go_sem, *])
 ·have h : ¬ x9 p c = 0 := by assumption
  have e1 : zLu p c = .tup [.raw (.map none), iV (x9 p c)] := by simp [zLu, h]
  have e2 : zLt p c = [] := by simp [zLt, h]
  refine ⟨[_, _], [], [], ⟨rfl, rfl, trivial⟩, ?_⟩
  simp only [go_sem, e1, e2]
 ·have h : x9 p c = 0 := by assumption
  have e1 : zLu p c = .tup [.mp 0, iV 0] := by simp [zLu, h]
  have e2 : zLt p c = [.mapo (w5 p) (w4 p (mv p c))] := by simp [zLt, h]
  have e3 := Q9 h
  refine ⟨[_, _], [some 2], [], ⟨rfl, rfl, trivial⟩, ?_⟩
  simp only [go_sem, e1, e2, e3, AObj.ren]
theorem zEQ (p : zLo) (c : Change) (v : Valid p) (f : Pre p c) (k : c.kind = 4) (hbo : zLr c.other 0 ((p.length : Int) - 1) = true) (hrp : (c.other == c.street) = false) (hsz : (c.src.number == 0 && c.src.letter == 0) = true) (hdz : (c.dst.number == 0 && c.dst.letter == 0) = true) : zLp prog 125 [x7 p, c.enc] [] (zLu p c) (zLt p c) := by
 have hwl : IntKind.i64.wrap ((p.length : Int) - 1) = (p.length : Int) - 1 := by have := v.len; exact wrap_i64 (by omega) (by omega)
 have hbs : zLr c.street 0 ((p.length : Int) - 1) = true := betw_iff.2 (by have := f.street; omega)
 refine q8 func125 rfl (fun E hE => ?_); simp only [go_sem, ntmps125]
 repeat' (first | (refine Qr rfl ?_; try intro _ hK; try simp only [go_sem, *]) | (refine Qi rfl rfl rfl rfl ?_ ?_ <;> (intro hb; (try intro _ hK); have hc := hb; try simp only [go_sem] at hc; simp only [go_sem, *])) | refine Qh rfl ?_ | refine Qd rfl (by kernel_rfl) ?_ | (refine Qc rfl rfl ?_ ?_ <;> (intro hb; have hc := hb; try simp only [go_sem] at hc)) | refine q6 rfl ?_ | (refine Qb ?_ ?_; focus kernel_rfl) | ((first | refine y4 (r8 _ _ _) ?_ | refine y4 (S7) ?_); simp only [go_sem, *]) | (refine s8 (U4 p v) ?_; simp only [go_sem, *]) | ((with_reducible apply And.intro); focus omega) | (refine z8 hK ?_; clear hK; simp only [go_sem, *]) | simp only [z6, z7, go_sem, *])
 refine y9 [2] [] (zHt p c v f k) (by simp) (by simp only [go_sem, *]) (by simp only [go_sem, AObj.live, *]) (by simp) (.inl rfl) (by simp [go_sem]) (by simp [zLw]; split <;> simp) ?_
 simp only [go_sem, *]
 repeat' (first | (refine Qr rfl ?_; try intro _ hK; try simp only [go_sem, *]) | (refine Qi rfl rfl rfl rfl ?_ ?_ <;> (intro hb; (try intro _ hK); have hc := hb; try simp only [go_sem] at hc; simp only [go_sem, *])) | refine Qh rfl ?_ | refine Qd rfl (by kernel_rfl) ?_ | (refine Qc rfl rfl ?_ ?_ <;> (intro hb; have hc := hb; try simp only [go_sem] at hc)) | refine q6 rfl ?_ | (refine Qb ?_ ?_; focus kernel_rfl) | ((with_reducible apply And.intro); focus omega) | (refine z8 hK ?_; clear hK; simp only [go_sem, *]) | simp only [z6, z7, go_sem, *])
 ·have h : ¬ x9 p c = 0 := by assumption
  have e1 : zLu p c = .tup [.raw (.map none), iV (x9 p c)] := by simp [zLu, h]
  have e2 : zLt p c = [] := by simp [zLt, h]
  refine ⟨[_, _], [], [], ⟨rfl, rfl, trivial⟩, ?_⟩
  simp only [go_sem, e1, e2]
 ·have h : x9 p c = 0 := by assumption
  have e1 : zLu p c = .tup [.mp 0, iV 0] := by simp [zLu, h]
  have e2 : zLt p c = [.mapo (w5 p) (w4 p (mv p c))] := by simp [zLt, h]
  have e3 := Q9 h
  refine ⟨[_, _], [some 2], [], ⟨rfl, rfl, trivial⟩, ?_⟩
  simp only [go_sem, e1, e2, e3, AObj.ren]
theorem zER (p : zLo) (c : Change) (v : Valid p) (f : Pre p c) (k : c.kind = 5) (hco : (c.other != 0) = false) (hdz : (c.dst.number == 0 && c.dst.letter == 0) = true) : zLp prog 125 [x7 p, c.enc] [] (zLu p c) (zLt p c) := by
 have hwl : IntKind.i64.wrap ((p.length : Int) - 1) = (p.length : Int) - 1 := by have := v.len; exact wrap_i64 (by omega) (by omega)
 have hbs : zLr c.street 0 ((p.length : Int) - 1) = true := betw_iff.2 (by have := f.street; omega)
 refine q8 func125 rfl (fun E hE => ?_); simp only [go_sem, ntmps125]
 repeat' (first | (refine Qr rfl ?_; try intro _ hK; try simp only [go_sem, *]) | (refine Qi rfl rfl rfl rfl ?_ ?_ <;> (intro hb; (try intro _ hK); have hc := hb; try simp only [go_sem] at hc; simp only [go_sem, *])) | refine Qh rfl ?_ | refine Qd rfl (by kernel_rfl) ?_ | (refine Qc rfl rfl ?_ ?_ <;> (intro hb; have hc := hb; try simp only [go_sem] at hc)) | refine q6 rfl ?_ | (refine Qb ?_ ?_; focus kernel_rfl) | ((first | refine y4 (r8 _ _ _) ?_ | refine y4 (S7) ?_); simp only [go_sem, *]) | (refine s8 (U4 p v) ?_; simp only [go_sem, *]) | ((with_reducible apply And.intro); focus omega) | (refine z8 hK ?_; clear hK; simp only [go_sem, *]) | simp only [z6, z7, go_sem, *])
 refine y9 [2] [] (zHi p c v f k) (by simp) (by simp only [go_sem, *]) (by simp only [go_sem, AObj.live, *]) (by simp) (.inl rfl) (by simp [go_sem]) (by simp [zLw]; split <;> simp) ?_
 simp only [go_sem, *]
 repeat' (first | (refine Qr rfl ?_; try intro _ hK; try simp only [go_sem, *]) | (refine Qi rfl rfl rfl rfl ?_ ?_ <;> (intro hb; (try intro _ hK); have hc := hb; try simp only [go_sem] at hc; simp only [go_sem, *])) | refine Qh rfl ?_ | refine Qd rfl (by kernel_rfl) ?_ | (refine Qc rfl rfl ?_ ?_ <;> (intro hb; have hc := hb; try simp only [go_sem] at hc)) | refine q6 rfl ?_ | (refine Qb ?_ ?_; focus kernel_rfl) | ((with_reducible apply And.intro); focus omega) | (refine z8 hK ?_; clear hK; simp only [go_sem, *]) | simp only [z6, z7, go_sem, *])
 ·have h : ¬ x9 p c = 0 := by assumption
  have e1 : zLu p c = .tup [.raw (.map none), iV (x9 p c)] := by simp [zLu, h]
  have e2 : zLt p c = [] := by simp [zLt, h]
  refine ⟨[_, _], [], [], ⟨rfl, rfl, trivial⟩, ?_⟩
  simp only [go_sem, e1, e2]
 ·have h : x9 p c = 0 := by assumption
  have e1 : zLu p c = .tup [.mp 0, iV 0] := by simp [zLu, h]
  have e2 : zLt p c = [.mapo (w5 p) (w4 p (mv p c))] := by simp [zLt, h]
  have e3 := Q9 h
  refine ⟨[_, _], [some 2], [], ⟨rfl, rfl, trivial⟩, ?_⟩
  simp only [go_sem, e1, e2, e3, AObj.ren]
theorem zES (p : zLo) (c : Change) (v : Valid p) (f : Pre p c) (k : c.kind = 6) (hco : (c.other != 0) = false) (hdz : (c.dst.number == 0 && c.dst.letter == 0) = true) : zLp prog 125 [x7 p, c.enc] [] (zLu p c) (zLt p c) := by
 have hwl : IntKind.i64.wrap ((p.length : Int) - 1) = (p.length : Int) - 1 := by have := v.len; exact wrap_i64 (by omega) (by omega)
 have hbs : zLr c.street 0 ((p.length : Int) - 1) = true := betw_iff.2 (by have := f.street; omega)
 refine q8 func125 rfl (fun E hE => ?_); simp only [go_sem, ntmps125]
 repeat' (first | (refine Qr rfl ?_; try intro _ hK; try simp only [go_sem, *]) | (refine Qi rfl rfl rfl rfl ?_ ?_ <;> (intro hb; (try intro _ hK); have hc := hb; try simp only [go_sem] at hc; simp only [go_sem, *])) | refine Qh rfl ?_ | refine Qd rfl (by kernel_rfl) ?_ | (refine Qc rfl rfl ?_ ?_ <;> (intro hb; have hc := hb; try simp only [go_sem] at hc)) | refine q6 rfl ?_ | (refine Qb ?_ ?_; focus kernel_rfl) | ((first | refine y4 (r8 _ _ _) ?_ | refine y4 (S7) ?_); simp only [go_sem, *]) | (refine s8 (U4 p v) ?_; simp only [go_sem, *]) | ((with_reducible apply And.intro); focus omega) | (refine z8 hK ?_; clear hK; simp only [go_sem, *]) | simp only [z6, z7, go_sem, *])
 refine y9 [2] [] (zHj p c v f k) (by simp) (by simp only [go_sem, *]) (by simp only [go_sem, AObj.live, *]) (by simp) (.inl rfl) (by simp [go_sem]) (by simp [zLw]; split <;> simp) ?_
 simp only [go_sem, *]
 repeat' (first | (refine Qr rfl ?_; try intro _ hK; try simp only [go_sem, *]) | (refine Qi rfl rfl rfl rfl ?_ ?_ <;> (intro hb; (try intro _ hK); have hc := hb; try simp only [go_sem] at hc; simp only [go_sem, *])) | refine Qh rfl ?_ | refine Qd rfl (by kernel_rfl) ?_ | (refine Qc rfl rfl ?_ ?_ <;> (intro hb; have hc := hb; try simp only [go_sem] at hc)) | refine q6 rfl ?_ | (refine Qb ?_ ?_; focus kernel_rfl) | ((with_reducible apply And.intro); focus omega) | (refine z8 hK ?_; clear hK; simp only [go_sem, *]) | simp only [z6, z7, go_sem, *])
 ·have h : ¬ x9 p c = 0 := by assumption
  have e1 : zLu p c = .tup [.raw (.map none), iV (x9 p c)] := by simp [zLu, h]
  have e2 : zLt p c = [] := by simp [zLt, h]
  refine ⟨[_, _], [], [], ⟨rfl, rfl, trivial⟩, ?_⟩
  simp only [go_sem, e1, e2]
 ·have h : x9 p c = 0 := by assumption
  have e1 : zLu p c = .tup [.mp 0, iV 0] := by simp [zLu, h]
  have e2 : zLt p c = [.mapo (w5 p) (w4 p (mv p c))] := by simp [zLt, h]
  have e3 := Q9 h
  refine ⟨[_, _], [some 2], [], ⟨rfl, rfl, trivial⟩, ?_⟩
  simp only [go_sem, e1, e2, e3, AObj.ren]
theorem zET (p : zLo) (c : Change) (v : Valid p) (f : Pre p c) (k : c.kind = 7) (hbo : zLr c.other 0 ((p.length : Int) - 1) = true) (hrp : (c.other == c.street) = false) : zLp prog 125 [x7 p, c.enc] [] (zLu p c) (zLt p c) := by
 have hwl : IntKind.i64.wrap ((p.length : Int) - 1) = (p.length : Int) - 1 := by have := v.len; exact wrap_i64 (by omega) (by omega)
 have hbs : zLr c.street 0 ((p.length : Int) - 1) = true := betw_iff.2 (by have := f.street; omega)
 refine q8 func125 rfl (fun E hE => ?_); simp only [go_sem, ntmps125]
 repeat' (first | (refine Qr rfl ?_; try intro _ hK; try simp only [go_sem, *]) | (refine Qi rfl rfl rfl rfl ?_ ?_ <;> (intro hb; (try intro _ hK); have hc := hb; try simp only [go_sem] at hc; simp only [go_sem, *])) | refine Qh rfl ?_ | refine Qd rfl (by kernel_rfl) ?_ | (refine Qc rfl rfl ?_ ?_ <;> (intro hb; have hc := hb; try simp only [go_sem] at hc)) | refine q6 rfl ?_ | (refine Qb ?_ ?_; focus kernel_rfl) | ((first | refine y4 (r8 _ _ _) ?_ | refine y4 (S7) ?_); simp only [go_sem, *]) | (refine s8 (U4 p v) ?_; simp only [go_sem, *]) | ((with_reducible apply And.intro); focus omega) | (refine z8 hK ?_; clear hK; simp only [go_sem, *]) | simp only [z6, z7, go_sem, *])
 refine y9 [2] [] (zHh p c v f k) (by simp) (by simp only [go_sem, *]) (by simp only [go_sem, AObj.live, *]) (by simp) (.inl rfl) (by simp [go_sem]) (by simp [zLw]; split <;> simp) ?_
 simp only [go_sem, *]
 repeat' (first | (refine Qr rfl ?_; try intro _ hK; try simp only [go_sem, *]) | (refine Qi rfl rfl rfl rfl ?_ ?_ <;> (intro hb; (try intro _ hK); have hc := hb; try simp only [go_sem] at hc; simp only [go_sem, *])) | refine Qh rfl ?_ | refine Qd rfl (by kernel_rfl) ?_ | (refine Qc rfl rfl ?_ ?_ <;> (intro hb; have hc := hb; try simp only [go_sem] at hc)) | refine q6 rfl ?_ | (refine Qb ?_ ?_; focus kernel_rfl) | ((with_reducible apply And.intro); focus omega) | (refine z8 hK ?_; clear hK; simp only [go_sem, *]) | simp only [z6, z7, go_sem, *])
 ·have h : ¬ x9 p c = 0 := by assumption
  have e1 : zLu p c = .tup [.raw (.map none), iV (x9 p c)] := by simp [zLu, h]
  have e2 : zLt p c = [] := by simp [zLt, h]
  refine ⟨[_, _], [], [], ⟨rfl, rfl, trivial⟩, ?_⟩
  simp only [go_sem, e1, e2]
 ·have h : x9 p c = 0 := by assumption
  have e1 : zLu p c = .tup [.mp 0, iV 0] := by simp [zLu, h]
  have e2 : zLt p c = [.mapo (w5 p) (w4 p (mv p c))] := by simp [zLt, h]
  have e3 := Q9 h
  refine ⟨[_, _], [some 2], [], ⟨rfl, rfl, trivial⟩, ?_⟩
  simp only [go_sem, e1, e2, e3, AObj.ren]
end Go.Abs

namespace Go.Abs
open Go
section
variable {α : Type} (cf : α → α → Int)
def zMG (x : α) : List α → List α
 | [] => [x]
 | y :: r => if cf x y < 0 then y :: zMG x r else x :: y :: r
def zL5 (pre : List α) (x : α) : List α := (zMG cf x pre.reverse).reverse
def v8 (xs : List α) : List α := xs.foldl (zL5 cf) []
theorem zAM (x : α) : ∀ l : List α, (zMG cf x l).Perm (x :: l)
 | [] => .refl _
 | y :: r => by
  unfold zMG
  split
  ·exact ((zAM x r).cons y).trans (.swap x y r)
  ·exact .refl _
theorem zFt (pre : List α) (x : α) : (zL5 cf pre x).Perm (pre ++ [x]) := by
 unfold zL5
 refine (List.reverse_perm _).trans ((zAM cf x _).trans ?_)
 exact ((List.reverse_perm pre).cons x).trans (List.perm_append_comm (l₁ := [x]) (l₂ := pre))
theorem zCA : ∀ (xs pre : List α), (xs.foldl (zL5 cf) pre).Perm (pre ++ xs)
 | [], pre => by simp
 | x :: r, pre => by
  rw [List.foldl_cons]
  refine (zCA r _).trans ?_
  refine ((zFt cf pre x).append_right r).trans ?_
  simp
theorem S2 (xs : List α) : (v8 cf xs).Perm xs := by have := zCA cf xs []; simpa [v8] using this
theorem F3 (xs : List α) : (v8 cf xs).length = xs.length := (S2 cf xs).length_eq
theorem zCB (xs : List α) (x : α) : v8 cf (xs ++ [x]) = zL5 cf (v8 cf xs) x := by simp [v8, List.foldl_append]
def zMF (S : List α) (x : α) (R : List α) (d : Nat) : List α := S.take (S.length - d) ++ x :: (S.drop (S.length - d) ++ R)
theorem zBS (S : List α) (x : α) (R : List α) (d : Nat) : (zMF S x R d).length = S.length + 1 + R.length := by simp [zMF]; omega
variable [Inhabited α]
theorem zBT (S : List α) (x : α) (R : List α) {d : Nat} (h : d ≤ S.length) : (zMF S x R d).getD (S.length - d) default = x := by
 unfold zMF
 simp only [List.getD_eq_getElem?_getD]
 rw [List.getElem?_append_right (by simp)]
 simp [show min (S.length - d) S.length = S.length - d by omega]
theorem zBU (S : List α) (x : α) (R : List α) {d : Nat} (h : d < S.length) : (zMF S x R d).getD (S.length - d - 1) default = S.getD (S.length - d - 1) default := by
 unfold zMF
 simp only [List.getD_eq_getElem?_getD]
 rw [List.getElem?_append_left (by simp; omega), List.getElem?_take, if_pos (by omega)]
theorem zEF (S : List α) (x : α) (R : List α) {d : Nat} (h : d < S.length) :
  ((zMF S x R d).set (S.length - d) (S.getD (S.length - d - 1) default)).set (S.length - d - 1) x = zMF S x R (d + 1) := by
 obtain ⟨j, hj⟩ : ∃ j, S.length - d = j + 1 := ⟨S.length - d - 1, by omega⟩
 have hj' : S.length - (d + 1) = j := by omega
 have hlt : j < S.length := by omega
 unfold zMF
 rw [hj, hj']
 have e1 : S.take (j + 1) = S.take j ++ [S.getD j default] := by rw [List.take_add_one]; simp [List.getD, hlt]
 have e2 : S.drop j = S.getD j default :: S.drop (j + 1) := u0 hlt
 rw [e1, e2]
 simp only [Nat.add_sub_cancel]
 have hl : (S.take j).length = j := by simp; omega
 rw [List.append_assoc, List.set_append_right _ _ (by omega), hl]
 simp only [Nat.add_sub_cancel_left, List.singleton_append, List.set_cons_succ, List.set_cons_zero]
 rw [List.set_append_right _ _ (by omega), hl]
 simp
theorem zFv (pre : List α) (x y : α) (h : cf x y < 0) : zL5 cf (pre ++ [y]) x = zL5 cf pre x ++ [y] := by
 have _ := (default : α)
 unfold zL5; simp [zMG, h]
theorem zFu (pre : List α) (x y : α) (h : ¬ cf x y < 0) : zL5 cf (pre ++ [y]) x = pre ++ [y] ++ [x] := by
 have _ := (default : α)
 unfold zL5; simp [zMG, h]
theorem zDR {l : List α} {i : Nat} (h : i < l.length) : l.take (i + 1) = l.take i ++ [l.getD i default] := by
 rw [List.take_add_one]; simp [List.getD, h]
def InsP (S : List α) (x : α) (R : List α) (cur : List α) (d : Nat) : Prop := cur = zMF S x R d ∧ zL5 cf S x = zL5 cf (S.take (S.length - d)) x ++ S.drop (S.length - d)
theorem InsP.start (S : List α) (x : α) (R : List α) : InsP cf S x R (S ++ x :: R) 0 := by simp [InsP, zMF]
theorem InsP.next {S : List α} {x : α} {R cur : List α} {d : Nat} (h : InsP cf S x R cur d) (hd : d < S.length) (hc : cf x (S.getD (S.length - d - 1) default) < 0) :
  InsP cf S x R ((cur.set (S.length - d) (S.getD (S.length - d - 1) default)).set (S.length - d - 1) x) (d + 1) := by
 obtain ⟨h1, h2⟩ := h
 refine ⟨by rw [h1, zEF S x R hd], ?_⟩
 obtain ⟨j, hj⟩ : ∃ j, S.length - d = j + 1 := ⟨S.length - d - 1, by omega⟩
 have hj' : S.length - (d + 1) = j := by omega
 have hlt : j < S.length := by omega
 have e1 : S.take (j + 1) = S.take j ++ [S.getD j default] := by rw [List.take_add_one]; simp [List.getD, hlt]
 have e2 : S.drop j = S.getD j default :: S.drop (j + 1) := u0 hlt
 rw [hj] at h2 hc
 simp only [Nat.add_sub_cancel] at hc
 rw [h2, hj', e1, zFv cf _ _ _ hc, e2, List.append_assoc]; rfl
theorem InsP.stop {S : List α} {x : α} {R cur : List α} {d : Nat} (h : InsP cf S x R cur d) (hd : d ≤ S.length) (hc : d < S.length → ¬ cf x (S.getD (S.length - d - 1) default) < 0) : cur = zL5 cf S x ++ R := by
 obtain ⟨h1, h2⟩ := h
 rw [h1, h2]
 unfold zMF
 by_cases e : d = S.length
 ·subst e; simp [zL5, zMG]
 ·obtain ⟨j, hj⟩ : ∃ j, S.length - d = j + 1 := ⟨S.length - d - 1, by omega⟩
  have hlt : j < S.length := by omega
  have e1 : S.take (j + 1) = S.take j ++ [S.getD j default] := by rw [List.take_add_one]; simp [List.getD, hlt]
  have hc' := hc (by omega)
  rw [hj] at hc' ⊢
  simp only [Nat.add_sub_cancel] at hc'
  rw [e1, zFu cf _ _ _ hc']; simp
end
end Go.Abs

namespace Go.Abs
open Go Go.Proofs Tryz
attribute [local irreducible] y6 Hold x8
theorem zGY (cf : Plate → Plate → Int) (xs : List Plate) : xs = v8 cf (xs.take 1) ++ xs.drop 1 := by
 cases xs with
 | nil => rfl
 | cons x r => simp [v8, zL5, zMG]
def C8 (cf : Plate → Plate → Int) (xs cur : List Plate) (i : Nat) : Prop := cur = v8 cf (xs.take (i + 1)) ++ xs.drop (i + 1)
theorem zHr {f : Nat} {cf : Plate → Plate → Int} (hc : p9 prog f = true) (hf : ∀ a b : Plate, zLp prog f [a.enc, b.enc] [] (iV (cf a b)) []) (xs : List Plate) (h1 : xs.length ≤ 12) :
  zLp prog 176 [.own 0 2 0 xs.length, iV 0, iV xs.length, fnV f] [.row 2 (xs.map Plate.enc)] (.tup []) [.row 2 ((v8 cf xs).map Plate.enc)] := by
 refine q8 func176 rfl (fun E hE => ?_); simp only [go_sem, ntmps176]
 have hw0 : IntKind.i64.wrap 1 = (1 : Int) := wrap_i64 (by omega) (by omega)
 repeat' (first | (refine Qr rfl ?_; try intro _ hK; try simp only [go_sem, *]) | (refine Qi rfl rfl rfl rfl ?_ ?_ <;> (intro hb; (try intro _ hK); have hc := hb; try simp only [go_sem] at hc; simp only [go_sem, *])) | refine Qh rfl ?_ | refine Qd rfl (by kernel_rfl) ?_ | (refine Qc rfl rfl ?_ ?_ <;> (intro hb; have hc := hb; try simp only [go_sem] at hc)) | refine q6 rfl ?_ | (refine Qb ?_ ?_; focus kernel_rfl) | ((with_reducible apply And.intro); focus omega) | (refine z8 hK ?_; clear hK; simp only [go_sem, *]) | simp only [z6, z7, go_sem, *])
 refine u4 rfl (xs.length) (fun i (cur : List Plate) => C8 cf xs cur i) 53 (fun i cur => [(8, iV ((i : Int) + 1)), (0, .own 0 2 0 xs.length), (1, iV 0), (2, iV xs.length), (3, fnV f)]) (fun i cur => [.row 2 (cur.map Plate.enc)]) [some 0] [] (xs) (by exact zGY cf xs) ?_; intro i cur hi hP
 have hw : i < xs.length → IntKind.i64.wrap ((i : Int) + 1 + 1) = (((i + 1 : Nat) : Int) + 1) := fun h => by rw [wrap_i64 (by omega) (by omega)]; omega
 have hcm : ((i : Int) + 1 < (xs.length : Int)) = (i + 1 < xs.length) := by simp only [eq_iff_iff]; omega
 repeat' (first | (refine Qr rfl ?_; try intro _ hK; try simp only [go_sem, *]) | (refine Qi rfl rfl rfl rfl ?_ ?_ <;> (intro hb; (try intro _ hK); have hc := hb; try simp only [go_sem] at hc; simp only [go_sem, *])) | refine Qh rfl ?_ | refine Qd rfl (by kernel_rfl) ?_ | (refine Qc rfl rfl ?_ ?_ <;> (intro hb; have hc := hb; try simp only [go_sem] at hc)) | refine q6 rfl ?_ | (refine Qb ?_ ?_; focus kernel_rfl) | ((with_reducible apply And.intro); focus omega) | (refine z8 hK ?_; clear hK; simp only [go_sem, *]) | simp only [z6, z7, go_sem, *])
 ·have hlt : i + 1 < xs.length := by assumption
  have hlt' : i < xs.length := by omega
  obtain ⟨S, hS⟩ : ∃ S, S = v8 cf (xs.take (i + 1)) := ⟨_, rfl⟩
  have hSl : S.length = i + 1 := by rw [hS, F3]; simp; try omega
  obtain ⟨x, hx⟩ : ∃ x, x = xs.getD (i + 1) default := ⟨_, rfl⟩
  obtain ⟨R, hR⟩ : ∃ R, R = xs.drop (i + 1 + 1) := ⟨_, rfl⟩
  have hcur : cur = S ++ x :: R := by
   unfold C8 at hP
   rw [hP, hS, hx, hR, u0 hlt]
  have hfin : zL5 cf S x ++ R = v8 cf (xs.take (i + 1 + 1)) ++ xs.drop (i + 1 + 1) := by
   rw [hS, hx, hR, zDR hlt, zCB]
  have hst : InsP cf S x R cur 0 := by rw [hcur]; exact InsP.start cf S x R
  have hRl : R.length = xs.length - (i + 2) := by rw [hR]; simp; try omega
  clear hS hx hR hcur hP
  refine u4 rfl (i + 1) (fun d (cur : List Plate) => InsP cf S x R cur d) 53 (fun d cur => [(9, iV (((i + 1) - d : Nat) : Int)), (8, iV ((i : Int) + 1)), (0, .own 0 2 0 xs.length), (1, iV 0), (2, iV xs.length), (3, fnV f)]) (fun d cur => [.row 2 (cur.map Plate.enc)]) [some 0] [] (cur) (by exact hst) ?_; intro d cur hd hQ
  have hcl : cur.length = xs.length := by rw [hQ.1, zBS]; omega
  have gx : cur.getD (i + 1 - d) default = x := by rw [hQ.1, ← hSl]; exact zBT S x R (by omega)
  have gy : d < i + 1 → cur.getD (i + 1 - d - 1) default = S.getD (i + 1 - d - 1) default := fun h => by rw [hQ.1, ← hSl]; exact zBU S x R (by omega)
  have hwk : 0 < i + 1 - d → IntKind.i64.wrap (((i + 1 - d : Nat) : Int) - 1) = ((i + 1 - d - 1 : Nat) : Int) := fun h => by rw [wrap_i64 (by omega) (by omega)]; omega
  have hnx : i + 1 - (d + 1) = i + 1 - d - 1 := by omega
  have hkl : i + 1 - d < xs.length := by omega
  have hkl1 : i + 1 - d - 1 < xs.length := by omega
  have hd1 : 0 < i + 1 - d → d < i + 1 := fun h => by omega
  repeat' (first | (refine Qr rfl ?_; try intro _ hK; try simp only [go_sem, *]) | (refine Qi rfl rfl rfl rfl ?_ ?_ <;> (intro hb; (try intro _ hK); have hc := hb; try simp only [go_sem] at hc; simp only [go_sem, *])) | refine Qh rfl ?_ | refine Qd rfl (by kernel_rfl) ?_ | (refine Qc rfl rfl ?_ ?_ <;> (intro hb; have hc := hb; try simp only [go_sem] at hc)) | refine q6 rfl ?_ | (refine Qb ?_ ?_; focus kernel_rfl) | (refine y4 (hf _ _) ?_; simp only [go_sem, *]) | ((with_reducible apply And.intro); focus omega) | (refine z8 hK ?_; clear hK; simp only [go_sem, *]) | simp only [z6, z7, go_sem, *])
  ·exact w6 (i' := d + 1) [some 0] [] ((cur.set (i + 1 - d) (S.getD (i + 1 - d - 1) default)).set (i + 1 - d - 1) x) (by have := InsP.next cf hQ (by omega) (by rw [hSl]; assumption); rwa [hSl] at this)
  ·have hs := InsP.stop cf hQ (by omega) (fun _ => by rw [hSl]; omega)
   exact w6 (i' := i + 1) [some 0] [] (cur) (by rw [hs]; exact hfin)
  ·have hs := InsP.stop cf hQ (by omega) (fun h => by omega)
   exact w6 (i' := i + 1) [some 0] [] (cur) (by rw [hs]; exact hfin)
 ·refine ⟨[], [some 0], [], trivial, ?_⟩
  have e1 : xs.take (i + 1) = xs := List.take_of_length_le (by omega)
  have e2 : xs.drop (i + 1) = [] := u7 (by omega)
  unfold C8 at hP
  rw [e1, e2, List.append_nil] at hP
  rw [hP]
  simp only [go_sem, Y0, *]
end Go.Abs

namespace Go.Abs
open Go Go.Proofs Tryz
attribute [local irreducible] y6 Hold x8
theorem zGX (cf : House → House → Int) (xs : List House) : xs = v8 cf (xs.take 1) ++ xs.drop 1 := by
 cases xs with
 | nil => rfl
 | cons x r => simp [v8, zL5, zMG]
def C7 (cf : House → House → Int) (xs cur : List House) (i : Nat) : Prop := cur = v8 cf (xs.take (i + 1)) ++ xs.drop (i + 1)
theorem zHq {f : Nat} {cf : House → House → Int} (hc : p9 prog f = true) (hf : ∀ a b : House, zLp prog f [a.enc, b.enc] [] (iV (cf a b)) []) (xs : List House) (h1 : xs.length ≤ 12) :
  zLp prog 186 [.own 0 3 0 xs.length, iV 0, iV xs.length, fnV f] [.row 3 (xs.map House.enc)] (.tup []) [.row 3 ((v8 cf xs).map House.enc)] := by
 refine q8 func186 rfl (fun E hE => ?_); simp only [go_sem, ntmps186]
 have hw0 : IntKind.i64.wrap 1 = (1 : Int) := wrap_i64 (by omega) (by omega)
 repeat' (first | (refine Qr rfl ?_; try intro _ hK; try simp only [go_sem, *]) | (refine Qi rfl rfl rfl rfl ?_ ?_ <;> (intro hb; (try intro _ hK); have hc := hb; try simp only [go_sem] at hc; simp only [go_sem, *])) | refine Qh rfl ?_ | refine Qd rfl (by kernel_rfl) ?_ | (refine Qc rfl rfl ?_ ?_ <;> (intro hb; have hc := hb; try simp only [go_sem] at hc)) | refine q6 rfl ?_ | (refine Qb ?_ ?_; focus kernel_rfl) | ((with_reducible apply And.intro); focus omega) | (refine z8 hK ?_; clear hK; simp only [go_sem, *]) | simp only [z6, z7, go_sem, *])
 refine u4 rfl (xs.length) (fun i (cur : List House) => C7 cf xs cur i) 53 (fun i cur => [(8, iV ((i : Int) + 1)), (0, .own 0 3 0 xs.length), (1, iV 0), (2, iV xs.length), (3, fnV f)]) (fun i cur => [.row 3 (cur.map House.enc)]) [some 0] [] (xs) (by exact zGX cf xs) ?_; intro i cur hi hP
 have hw : i < xs.length → IntKind.i64.wrap ((i : Int) + 1 + 1) = (((i + 1 : Nat) : Int) + 1) := fun h => by rw [wrap_i64 (by omega) (by omega)]; omega
 have hcm : ((i : Int) + 1 < (xs.length : Int)) = (i + 1 < xs.length) := by simp only [eq_iff_iff]; omega
 repeat' (first | (refine Qr rfl ?_; try intro _ hK; try simp only [go_sem, *]) | (refine Qi rfl rfl rfl rfl ?_ ?_ <;> (intro hb; (try intro _ hK); have hc := hb; try simp only [go_sem] at hc; simp only [go_sem, *])) | refine Qh rfl ?_ | refine Qd rfl (by kernel_rfl) ?_ | (refine Qc rfl rfl ?_ ?_ <;> (intro hb; have hc := hb; try simp only [go_sem] at hc)) | refine q6 rfl ?_ | (refine Qb ?_ ?_; focus kernel_rfl) | ((with_reducible apply And.intro); focus omega) | (refine z8 hK ?_; clear hK; simp only [go_sem, *]) | simp only [z6, z7, go_sem, *])
 ·have hlt : i + 1 < xs.length := by assumption
  have hlt' : i < xs.length := by omega
  obtain ⟨S, hS⟩ : ∃ S, S = v8 cf (xs.take (i + 1)) := ⟨_, rfl⟩
  have hSl : S.length = i + 1 := by rw [hS, F3]; simp; try omega
  obtain ⟨x, hx⟩ : ∃ x, x = xs.getD (i + 1) default := ⟨_, rfl⟩
  obtain ⟨R, hR⟩ : ∃ R, R = xs.drop (i + 1 + 1) := ⟨_, rfl⟩
  have hcur : cur = S ++ x :: R := by
   unfold C7 at hP
   rw [hP, hS, hx, hR, u0 hlt]
  have hfin : zL5 cf S x ++ R = v8 cf (xs.take (i + 1 + 1)) ++ xs.drop (i + 1 + 1) := by
   rw [hS, hx, hR, zDR hlt, zCB]
  have hst : InsP cf S x R cur 0 := by rw [hcur]; exact InsP.start cf S x R
  have hRl : R.length = xs.length - (i + 2) := by rw [hR]; simp; try omega
  clear hS hx hR hcur hP
  refine u4 rfl (i + 1) (fun d (cur : List House) => InsP cf S x R cur d) 53 (fun d cur => [(9, iV (((i + 1) - d : Nat) : Int)), (8, iV ((i : Int) + 1)), (0, .own 0 3 0 xs.length), (1, iV 0), (2, iV xs.length), (3, fnV f)]) (fun d cur => [.row 3 (cur.map House.enc)]) [some 0] [] (cur) (by exact hst) ?_; intro d cur hd hQ
  have hcl : cur.length = xs.length := by rw [hQ.1, zBS]; omega
  have gx : cur.getD (i + 1 - d) default = x := by rw [hQ.1, ← hSl]; exact zBT S x R (by omega)
  have gy : d < i + 1 → cur.getD (i + 1 - d - 1) default = S.getD (i + 1 - d - 1) default := fun h => by rw [hQ.1, ← hSl]; exact zBU S x R (by omega)
  have hwk : 0 < i + 1 - d → IntKind.i64.wrap (((i + 1 - d : Nat) : Int) - 1) = ((i + 1 - d - 1 : Nat) : Int) := fun h => by rw [wrap_i64 (by omega) (by omega)]; omega
  have hnx : i + 1 - (d + 1) = i + 1 - d - 1 := by omega
  have hkl : i + 1 - d < xs.length := by omega
  have hkl1 : i + 1 - d - 1 < xs.length := by omega
  have hd1 : 0 < i + 1 - d → d < i + 1 := fun h => by omega
  repeat' (first | (refine Qr rfl ?_; try intro _ hK; try simp only [go_sem, *]) | (refine Qi rfl rfl rfl rfl ?_ ?_ <;> (intro hb; (try intro _ hK); have hc := hb; try simp only [go_sem] at hc; simp only [go_sem, *])) | refine Qh rfl ?_ | refine Qd rfl (by kernel_rfl) ?_ | (refine Qc rfl rfl ?_ ?_ <;> (intro hb; have hc := hb; try simp only [go_sem] at hc)) | refine q6 rfl ?_ | (refine Qb ?_ ?_; focus kernel_rfl) | (refine y4 (hf _ _) ?_; simp only [go_sem, *]) | ((with_reducible apply And.intro); focus omega) | (refine z8 hK ?_; clear hK; simp only [go_sem, *]) | simp only [z6, z7, go_sem, *])
  ·exact w6 (i' := d + 1) [some 0] [] ((cur.set (i + 1 - d) (S.getD (i + 1 - d - 1) default)).set (i + 1 - d - 1) x) (by have := InsP.next cf hQ (by omega) (by rw [hSl]; assumption); rwa [hSl] at this)
  ·have hs := InsP.stop cf hQ (by omega) (fun _ => by rw [hSl]; omega)
   exact w6 (i' := i + 1) [some 0] [] (cur) (by rw [hs]; exact hfin)
  ·have hs := InsP.stop cf hQ (by omega) (fun h => by omega)
   exact w6 (i' := i + 1) [some 0] [] (cur) (by rw [hs]; exact hfin)
 ·refine ⟨[], [some 0], [], trivial, ?_⟩
  have e1 : xs.take (i + 1) = xs := List.take_of_length_le (by omega)
  have e2 : xs.drop (i + 1) = [] := u7 (by omega)
  unfold C7 at hP
  rw [e1, e2, List.append_nil] at hP
  rw [hP]
  simp only [go_sem, Y0, *]
end Go.Abs

namespace Go.Abs
open Go Go.Proofs Tryz
attribute [local irreducible] y6 Hold x8
theorem wrap_u64 {n : Int} (h0 : 0 ≤ n) (h1 : n ≤ 1000) : IntKind.u64.wrap n = n := by
 simp [IntKind.wrap, IntKind.signed, IntKind.bits]; omega
theorem zIX {n : Int} (h0 : 0 ≤ n) (h1 : n ≤ 200) : IntKind.u8.wrap n = n := by
 simp [IntKind.wrap, IntKind.signed, IntKind.bits]; omega
theorem zHW (n : Nat) (h : n ≤ 12) : zLp prog 185 [.raw (.int .u64 n)] [] .any [] := by
 have hw8 : IntKind.u8.wrap (n : Int) = (n : Int) := zIX (by omega) (by omega)
 have h1 : ((4294967296 : Int) ≤ (n : Int)) = False := by simp only [eq_iff_iff, iff_false]; omega
 have h2 : ((65536 : Int) ≤ (n : Int)) = False := by simp only [eq_iff_iff, iff_false]; omega
 have h3 : ((256 : Int) ≤ (n : Int)) = False := by simp only [eq_iff_iff, iff_false]; omega
 refine q8 func185 rfl (fun E hE => ?_); simp only [go_sem, ntmps185]
 repeat' (first | (refine Qr rfl ?_; try intro _ hK; try simp only [go_sem, *]) | refine Qh rfl ?_ | (refine Qc rfl rfl ?_ ?_ <;> (intro hb; have hc := hb; try simp only [go_sem] at hc)) | refine q6 rfl ?_ | ((with_reducible apply And.intro); focus omega) | (refine z8 hK ?_; clear hK; simp only [go_sem, *]) | simp only [z6, z7, go_sem, *])
 refine ⟨Nat.lt_of_le_of_lt h (by decide), ?_⟩
 repeat' (first | (refine Qr rfl ?_; try intro _ hK; try simp only [go_sem, *]) | refine Qh rfl ?_ | (refine Qc rfl rfl ?_ ?_ <;> (intro hb; have hc := hb; try simp only [go_sem] at hc)) | refine q6 rfl ?_ | ((with_reducible apply And.intro); focus omega) | (refine z8 hK ?_; clear hK; simp only [go_sem, *]) | simp only [z6, z7, go_sem, *])
 all_goals (refine ⟨[_], [], [], ⟨rfl, trivial⟩, ?_⟩; simp only [go_sem])
theorem zC1 (n : Nat) (h : n ≤ 12) : zLp prog 154 [.raw (.int .u64 n)] [] .any [] := by
 refine q8 func154 rfl (fun E hE => ?_); simp only [go_sem, ntmps154]
 repeat' (first | (refine Qr rfl ?_; try intro _ hK; try simp only [go_sem, *]) | refine Qh rfl ?_ | (refine Qc rfl rfl ?_ ?_ <;> (intro hb; have hc := hb; try simp only [go_sem] at hc)) | refine q6 rfl ?_ | (refine y4 (zHW n h) ?_; simp only [go_sem, *]) | ((with_reducible apply And.intro); focus omega) | (refine z8 hK ?_; clear hK; simp only [go_sem, *]) | simp only [z6, z7, go_sem, *])
 all_goals (refine ⟨[_], [], [], ⟨rfl, trivial⟩, ?_⟩; simp only [go_sem])
end Go.Abs

namespace Go.Abs
open Go Go.Proofs Tryz
attribute [local irreducible] y6 Hold x8
theorem zH1 {f : Nat} {cf : Plate → Plate → Int} (hcal : p9 prog f = true) (hf : ∀ a b : Plate, zLp prog f [a.enc, b.enc] [] (iV (cf a b)) []) (xs : List Plate) (h1 : xs.length ≤ 12) :
  zLp prog 153 [.own 0 2 0 xs.length, iV 0, iV xs.length, .any, fnV f] [.row 2 (xs.map Plate.enc)] (.tup []) [.row 2 ((v8 cf xs).map Plate.enc)] := by
 have hw : IntKind.i64.wrap ((xs.length : Int) - 0) = (xs.length : Int) := by rw [wrap_i64 (by omega) (by omega)]; omega
 have h12 : ((xs.length : Int) ≤ 12) = True := by simp only [eq_iff_iff, iff_true]; omega
 refine q8 func153 rfl (fun E hE => ?_); simp only [go_sem, ntmps153]
 repeat' (first | (refine Qr rfl ?_; try intro _ hK; try simp only [go_sem, *]) | (refine Qi rfl rfl rfl rfl ?_ ?_ <;> (intro hb; (try intro _ hK); have hc := hb; try simp only [go_sem] at hc; simp only [go_sem, *])) | refine Qh rfl ?_ | refine Qd rfl (by kernel_rfl) ?_ | (refine Qc rfl rfl ?_ ?_ <;> (intro hb; have hc := hb; try simp only [go_sem] at hc)) | refine q6 rfl ?_ | (refine Qb ?_ ?_; focus kernel_rfl) | ((with_reducible apply And.intro); focus omega) | (refine z8 hK ?_; clear hK; simp only [go_sem, *]) | simp only [z6, z7, go_sem, *])
 refine u3 rfl (1) (fun i => NoP i) 148 (fun i => [(0, .own 0 2 0 xs.length), (1, iV 0), (2, iV xs.length), (4, fnV f)]) (fun i => [.row 2 (xs.map Plate.enc)]) [some 0] [] (by trivial) ?_; intro i hi hP
 repeat' (first | (refine Qr rfl ?_; try intro _ hK; try simp only [go_sem, *]) | (refine Qi rfl rfl rfl rfl ?_ ?_ <;> (intro hb; (try intro _ hK); have hc := hb; try simp only [go_sem] at hc; simp only [go_sem, *])) | refine Qh rfl ?_ | refine Qd rfl (by kernel_rfl) ?_ | (refine Qc rfl rfl ?_ ?_ <;> (intro hb; have hc := hb; try simp only [go_sem] at hc)) | refine q6 rfl ?_ | (refine Qb ?_ ?_; focus kernel_rfl) | ((with_reducible apply And.intro); focus omega) | (refine z8 hK ?_; clear hK; simp only [go_sem, *]) | simp only [z6, z7, go_sem, *])
 refine y9 [0] [] (zHr hcal hf xs h1) (by simp) (by simp only [go_sem, *]) (by simp only [go_sem, AObj.live, *]) (by simp) (.inl rfl) (by simp [go_sem]) (by simp) ?_
 simp only [go_sem, *]
 repeat' (first | (refine Qr rfl ?_; try intro _ hK; try simp only [go_sem, *]) | (refine Qi rfl rfl rfl rfl ?_ ?_ <;> (intro hb; (try intro _ hK); have hc := hb; try simp only [go_sem] at hc; simp only [go_sem, *])) | refine Qh rfl ?_ | refine Qd rfl (by kernel_rfl) ?_ | (refine Qc rfl rfl ?_ ?_ <;> (intro hb; have hc := hb; try simp only [go_sem] at hc)) | refine q6 rfl ?_ | (refine Qb ?_ ?_; focus kernel_rfl) | ((with_reducible apply And.intro); focus omega) | (refine z8 hK ?_; clear hK; simp only [go_sem, *]) | simp only [z6, z7, go_sem, *])
 refine ⟨[], [some 0], [], trivial, ?_⟩
 simp only [go_sem, Y0, AObj.ren, *]
theorem M2 {f : Nat} {cf : Plate → Plate → Int} (hcal : p9 prog f = true) (hf : ∀ a b : Plate, zLp prog f [a.enc, b.enc] [] (iV (cf a b)) []) (xs : List Plate) (h1 : xs.length ≤ 12) :
  zLp prog 126 [.own 0 2 0 xs.length, fnV f] [.row 2 (xs.map Plate.enc)] (.tup []) [.row 2 ((v8 cf xs).map Plate.enc)] := by
 have hw : IntKind.u64.wrap (xs.length : Int) = (xs.length : Int) := wrap_u64 (by omega) (by omega)
 refine q8 func126 rfl (fun E hE => ?_); simp only [go_sem, ntmps126]
 repeat' (first | (refine Qr rfl ?_; try intro _ hK; try simp only [go_sem, *]) | refine Qh rfl ?_ | (refine Qc rfl rfl ?_ ?_ <;> (intro hb; have hc := hb; try simp only [go_sem] at hc)) | refine q6 rfl ?_ | (refine y4 (zC1 xs.length h1) ?_; simp only [go_sem, *]) | ((with_reducible apply And.intro); focus omega) | (refine z8 hK ?_; clear hK; simp only [go_sem, *]) | simp only [z6, z7, go_sem, *])
 refine y9 [0] [] (zH1 hcal hf xs h1) (by simp) (by simp only [go_sem, *]) (by simp only [go_sem, AObj.live, *]) (by simp) (.inl rfl) (by simp [go_sem]) (by simp) ?_
 simp only [go_sem, *]
 repeat' (first | (refine Qr rfl ?_; try intro _ hK; try simp only [go_sem, *]) | refine Qh rfl ?_ | (refine Qc rfl rfl ?_ ?_ <;> (intro hb; have hc := hb; try simp only [go_sem] at hc)) | refine q6 rfl ?_ | ((with_reducible apply And.intro); focus omega) | (refine z8 hK ?_; clear hK; simp only [go_sem, *]) | simp only [z6, z7, go_sem, *])
 refine ⟨[], [some 0], [], trivial, ?_⟩
 simp only [go_sem, Y0, AObj.ren, *]
end Go.Abs

namespace Go.Abs
open Go Go.Proofs Tryz
attribute [local irreducible] y6 Hold x8
theorem zH0 {f : Nat} {cf : House → House → Int} (hcal : p9 prog f = true) (hf : ∀ a b : House, zLp prog f [a.enc, b.enc] [] (iV (cf a b)) []) (xs : List House) (h1 : xs.length ≤ 12) :
  zLp prog 159 [.own 0 3 0 xs.length, iV 0, iV xs.length, .any, fnV f] [.row 3 (xs.map House.enc)] (.tup []) [.row 3 ((v8 cf xs).map House.enc)] := by
 have hw : IntKind.i64.wrap ((xs.length : Int) - 0) = (xs.length : Int) := by rw [wrap_i64 (by omega) (by omega)]; omega
 have h12 : ((xs.length : Int) ≤ 12) = True := by simp only [eq_iff_iff, iff_true]; omega
 refine q8 func159 rfl (fun E hE => ?_); simp only [go_sem, ntmps159]
 repeat' (first | (refine Qr rfl ?_; try intro _ hK; try simp only [go_sem, *]) | (refine Qi rfl rfl rfl rfl ?_ ?_ <;> (intro hb; (try intro _ hK); have hc := hb; try simp only [go_sem] at hc; simp only [go_sem, *])) | refine Qh rfl ?_ | refine Qd rfl (by kernel_rfl) ?_ | (refine Qc rfl rfl ?_ ?_ <;> (intro hb; have hc := hb; try simp only [go_sem] at hc)) | refine q6 rfl ?_ | (refine Qb ?_ ?_; focus kernel_rfl) | ((with_reducible apply And.intro); focus omega) | (refine z8 hK ?_; clear hK; simp only [go_sem, *]) | simp only [z6, z7, go_sem, *])
 refine u3 rfl (1) (fun i => NoP i) 148 (fun i => [(0, .own 0 3 0 xs.length), (1, iV 0), (2, iV xs.length), (4, fnV f)]) (fun i => [.row 3 (xs.map House.enc)]) [some 0] [] (by trivial) ?_; intro i hi hP
 repeat' (first | (refine Qr rfl ?_; try intro _ hK; try simp only [go_sem, *]) | (refine Qi rfl rfl rfl rfl ?_ ?_ <;> (intro hb; (try intro _ hK); have hc := hb; try simp only [go_sem] at hc; simp only [go_sem, *])) | refine Qh rfl ?_ | refine Qd rfl (by kernel_rfl) ?_ | (refine Qc rfl rfl ?_ ?_ <;> (intro hb; have hc := hb; try simp only [go_sem] at hc)) | refine q6 rfl ?_ | (refine Qb ?_ ?_; focus kernel_rfl) | ((with_reducible apply And.intro); focus omega) | (refine z8 hK ?_; clear hK; simp only [go_sem, *]) | simp only [z6, z7, go_sem, *])
 refine y9 [0] [] (zHq hcal hf xs h1) (by simp) (by simp only [go_sem, *]) (by simp only [go_sem, AObj.live, *]) (by simp) (.inl rfl) (by simp [go_sem]) (by simp) ?_
 simp only [go_sem, *]
 repeat' (first | (refine Qr rfl ?_; try intro _ hK; try simp only [go_sem, *]) | (refine Qi rfl rfl rfl rfl ?_ ?_ <;> (intro hb; (try intro _ hK); have hc := hb; try simp only [go_sem] at hc; simp only [go_sem, *])) | refine Qh rfl ?_ | refine Qd rfl (by kernel_rfl) ?_ | (refine Qc rfl rfl ?_ ?_ <;> (intro hb; have hc := hb; try simp only [go_sem] at hc)) | refine q6 rfl ?_ | (refine Qb ?_ ?_; focus kernel_rfl) | ((with_reducible apply And.intro); focus omega) | (refine z8 hK ?_; clear hK; simp only [go_sem, *]) | simp only [z6, z7, go_sem, *])
 refine ⟨[], [some 0], [], trivial, ?_⟩
 simp only [go_sem, Y0, AObj.ren, *]
theorem zHY {f : Nat} {cf : House → House → Int} (hcal : p9 prog f = true) (hf : ∀ a b : House, zLp prog f [a.enc, b.enc] [] (iV (cf a b)) []) (xs : List House) (h1 : xs.length ≤ 12) :
  zLp prog 135 [.own 0 3 0 xs.length, fnV f] [.row 3 (xs.map House.enc)] (.tup []) [.row 3 ((v8 cf xs).map House.enc)] := by
 have hw : IntKind.u64.wrap (xs.length : Int) = (xs.length : Int) := wrap_u64 (by omega) (by omega)
 refine q8 func135 rfl (fun E hE => ?_); simp only [go_sem, ntmps135]
 repeat' (first | (refine Qr rfl ?_; try intro _ hK; try simp only [go_sem, *]) | refine Qh rfl ?_ | (refine Qc rfl rfl ?_ ?_ <;> (intro hb; have hc := hb; try simp only [go_sem] at hc)) | refine q6 rfl ?_ | (refine y4 (zC1 xs.length h1) ?_; simp only [go_sem, *]) | ((with_reducible apply And.intro); focus omega) | (refine z8 hK ?_; clear hK; simp only [go_sem, *]) | simp only [z6, z7, go_sem, *])
 refine y9 [0] [] (zH0 hcal hf xs h1) (by simp) (by simp only [go_sem, *]) (by simp only [go_sem, AObj.live, *]) (by simp) (.inl rfl) (by simp [go_sem]) (by simp) ?_
 simp only [go_sem, *]
 repeat' (first | (refine Qr rfl ?_; try intro _ hK; try simp only [go_sem, *]) | refine Qh rfl ?_ | (refine Qc rfl rfl ?_ ?_ <;> (intro hb; have hc := hb; try simp only [go_sem] at hc)) | refine q6 rfl ?_ | ((with_reducible apply And.intro); focus omega) | (refine z8 hK ?_; clear hK; simp only [go_sem, *]) | simp only [z6, z7, go_sem, *])
 refine ⟨[], [some 0], [], trivial, ?_⟩
 simp only [go_sem, Y0, AObj.ren, *]
end Go.Abs

namespace Go.Abs
open Go
section
variable {α : Type} (cf : α → α → Int)
structure Ordr : Prop where
 asym : ∀ x y, cf x y < 0 → ¬ cf y x < 0
 trans : ∀ x y z, ¬ cf y x < 0 → ¬ cf z y < 0 → ¬ cf z x < 0
theorem zB7 (o : Ordr cf) (x : α) : ∀ l : List α, l.Pairwise (fun a b => ¬ cf a b < 0) → (zMG cf x l).Pairwise (fun a b => ¬ cf a b < 0)
 | [], _ => by simp [zMG]
 | y :: r, h => by
  obtain ⟨h1, h2⟩ := List.pairwise_cons.1 h
  unfold zMG
  split
  ·rename_i hc
   refine List.pairwise_cons.2 ⟨fun z hz => ?_, zB7 o x r h2⟩
   rcases List.mem_cons.1 ((zAM cf x r).mem_iff.1 hz) with rfl | hz
   ·exact o.asym _ _ hc
   ·exact h1 z hz
  ·rename_i hc
   refine List.pairwise_cons.2 ⟨fun z hz => ?_, h⟩
   rcases List.mem_cons.1 hz with rfl | hz
   ·exact hc
   ·exact o.trans _ _ _ (h1 z hz) hc
theorem zFw (o : Ordr cf) {pre : List α} (x : α) (h : pre.Pairwise (fun a b => ¬ cf b a < 0)) : (zL5 cf pre x).Pairwise (fun a b => ¬ cf b a < 0) := by
 unfold zL5
 rw [List.pairwise_reverse]
 exact zB7 cf o x _ (List.pairwise_reverse.2 h)
theorem zCC (o : Ordr cf) (xs : List α) : (v8 cf xs).Pairwise (fun a b => ¬ cf b a < 0) := by
 have key : ∀ (xs pre : List α), pre.Pairwise (fun a b => ¬ cf b a < 0) → (xs.foldl (zL5 cf) pre).Pairwise (fun a b => ¬ cf b a < 0) := by
  intro xs
  induction xs with
  | nil => intro pre h; exact h
  | cons x r ih => intro pre h; exact ih _ (zFw cf o x h)
 exact key xs [] List.Pairwise.nil
end
theorem zGW : Ordr zL0 := ⟨fun x y h => by rw [L6, Plate.lt_iff] at *; omega, fun x y z h1 h2 => by rw [L6, Plate.lt_iff] at *; omega⟩
theorem zGV : Ordr zME := ⟨fun x y h => by rw [A0, House.lt_iff] at *; omega, fun x y z h1 h2 => by rw [A0, House.lt_iff] at *; omega⟩
theorem zF2 {xs : List Plate} (hn : xs.Nodup) : (v8 zL0 xs).Pairwise (fun a b => a.lt b = true) := by
 have h1 := zCC zL0 zGW xs
 have h2 : (v8 zL0 xs).Nodup := (S2 zL0 xs).nodup_iff.2 hn
 refine (h1.and h2).imp (fun {a b} h => ?_)
 rcases Plate.lt_tri a b with h3 | h3 | h3
 ·exact h3
 ·exact absurd h3 h.2
 ·exact absurd ((L6 b a).2 h3) h.1
def zMc (i s : Nat) (b : List Plate) : List Plate := if s < i then v8 zL0 b else b
attribute [go_sem] zMc F3
@[go_sem] theorem zLg (f : Plate → AV) (b : List Plate) : ((v8 zL0 b).map f).take b.length = (v8 zL0 b).map f := List.take_of_length_le (by simp [F3])
def Bk (b : List Plate) (s : Nat) (rest tot : List House) : Prop := (b ++ (rest.filter (fun h => h.street == (s : Int))).map House.plate).Perm ((tot.filter (fun h => h.street == (s : Int))).map House.plate)
theorem Bk.start (s : Nat) (tot : List House) : Bk [] s tot tot := by simp [Bk]
theorem Bk.step_in {b : List Plate} {s : Nat} {h : House} {rest tot : List House} (hb : Bk b s (h :: rest) tot) (e : h.street = s) : Bk (b ++ [h.plate]) s rest tot := by
 unfold Bk at *
 rw [List.filter_cons, if_pos (by simp [e])] at hb
 simpa using hb
theorem Bk.step_out {b : List Plate} {s : Nat} {h : House} {rest tot : List House} (hb : Bk b s (h :: rest) tot) (e : h.street ≠ s) : Bk b s rest tot := by
 unfold Bk at *
 rw [List.filter_cons, if_neg (by simpa using e)] at hb
 exact hb
theorem Bk.perm {b : List Plate} {s : Nat} {rest rest' tot : List House} (hb : Bk b s rest tot) (hp : rest.Perm rest') : Bk b s rest' tot :=
 (List.Perm.append_left b ((hp.symm.filter _).map _)).trans hb
theorem A2 {α : Type} : ∀ (l : List α) (i : Nat) (h : i < l.length), l.Perm (l[i] :: l.eraseIdx i)
 | x :: r, 0, _ => by simp
 | x :: r, i + 1, h => by
  simp only [List.getElem_cons_succ, List.eraseIdx_cons_succ]
  exact ((A2 r i (by simpa using h)).cons x).trans (.swap _ _ _)
theorem Bk.pick {b : List Plate} {s : Nat} {rem : List House} {g : House → List House} {tot : List House} (hb : Bk b s (rem.flatMap g) tot) (i : Nat) (h : i < rem.length) : Bk b s (g rem[i] ++ (rem.eraseIdx i).flatMap g) tot := by
 refine hb.perm ?_
 have := (A2 rem i h).flatMap_right g
 simpa using this
theorem Bk.len {b : List Plate} {s : Nat} {rest tot : List House} (hb : Bk b s rest tot) : b.length ≤ (tot.filter (fun h => h.street == (s : Int))).length := by
 have := hb.length_eq
 simp at this; omega
theorem Bk.fin {b : List Plate} {s n : Nat} {tot : List House} (hb : Bk b s [] tot) (hn : tot.Nodup) (hs : s < n) : v8 zL0 b = q7 (zL6 tot n) s := by
 have hp : b.Perm ((tot.filter (fun h => h.street == (s : Int))).map House.plate) := by simpa [Bk] using hb
 have hnd : ((tot.filter (fun h => h.street == (s : Int))).map House.plate).Nodup := by
  rw [List.nodup_iff_pairwise_ne, List.pairwise_map]
  refine (hn.filter _).imp_of_mem (fun {a b} ha hb' hab e => hab ?_)
  have h1 := (List.mem_filter.1 ha).2
  have h2 := (List.mem_filter.1 hb').2
  simp at h1 h2
  cases a; cases b; simp_all
 refine zCg (zF2 (hp.nodup_iff.2 hnd)) (I3 (by omega) (by omega)) (fun z => ?_)
 rw [(S2 zL0 b).mem_iff, hp.mem_iff, S3 (by omega) (by omega)]
 simp only [List.mem_map, List.mem_filter, beq_iff_eq]
 constructor
 ·rintro ⟨h, ⟨h1, h2⟩, rfl⟩
  rw [← h2]; exact h1
 ·intro h; exact ⟨_, ⟨h, rfl⟩, rfl⟩
end Go.Abs

namespace Go.Abs
open Go Go.Proofs Tryz
attribute [local irreducible] y6 Hold x8
def zMw (g : House → List House) (hs rem : List House) (i : Nat) (b0 : List Plate) : Prop := rem.length + i = hs.length ∧ (∀ h, h ∈ rem → h ∈ hs) ∧ Bk b0 0 (rem.flatMap g) (hs.flatMap g)
def zMz (rest tot : List House) (b0 : List Plate) : Prop := Bk b0 0 rest tot ∧ True
theorem zHb (hs : List House) (g : House → List House) (hst : ∀ z, z ∈ hs.flatMap g → 0 ≤ z.street ∧ z.street < 1) (hnd : (hs.flatMap g).Nodup) (hlen : ∀ s : Nat, s < 1 → ((hs.flatMap g).filter (fun h => h.street == (s : Int))).length ≤ 12) (hsl : hs.length ≤ 1000) (hgl : ∀ h, h ∈ hs → (g h).length ≤ 1000) :
  zLp prog 89 [.fmap (hs.map House.key) (hs.map (zLs g)), iV 1] [] (x7 (zL6 (hs.flatMap g) 1)) [] := by
 have rz : List.replicate 1 (AV.raw (Value.slice none 0 0)) = [AV.raw (Value.slice none 0 0)] := rfl
 have hmt : (zMB prog 121).isSome = true := by kernel_rfl
 have hv1 : IntKind.i64.wrap 1 = (1 : Int) := wrap_i64 (by omega) (by omega)
 have hv2 : IntKind.i64.wrap 2 = (2 : Int) := wrap_i64 (by omega) (by omega)
 have hv3 : IntKind.i64.wrap 3 = (3 : Int) := wrap_i64 (by omega) (by omega)
 refine q8 func89 rfl (fun E hE => ?_); simp only [go_sem, ntmps89]
 repeat' (first | (refine Qr rfl ?_; try intro _ hK; try simp only [go_sem, *]) | refine Qh rfl ?_ | refine Qd rfl (by kernel_rfl) ?_ | (refine Qc rfl rfl ?_ ?_ <;> (intro hb; have hc := hb; try simp only [go_sem] at hc)) | refine q6 rfl ?_ | (refine Qb ?_ ?_; focus kernel_rfl) | ((with_reducible apply And.intro); focus omega) | (refine z8 hK ?_; clear hK; simp only [go_sem, *]) | simp only [z6, z7, go_sem, *])
 refine X7 rfl (fun zn zN zenv zAs => ∃ (i : Nat) (cur : Option (Value × AV)) (rem : List House) (b0 : List Plate), zn = (hs.length) - i ∧ i ≤ (hs.length) ∧ (zMw g hs rem i b0) ∧ zN = 54 ∧ zenv = [(4, .ptr 0 0), (5, .ptr 1 0), (16, .ptr 4 0)] ∧ zAs = [.box [zLz], .box [.own 2 1 0 1], .box [.own 3 2 0 b0.length], .row 2 (b0.map Plate.enc), .iter cur (rem.map House.key) (rem.map (zLs g))]) (hs.length) ⟨[some 0, some 2, some 1, none, some 3], [], _, _, _, (by (simp only [Weak, go_sem, List.map_append, List.map_set, *] <;> (try simp (disch := omega) only [t8]) <;> (try simp) <;> (try omega))), 0, none, hs, [], (by simp), (by simp), (by exact ⟨by omega, fun h hh => hh, Bk.start _ _⟩), rfl, rfl, rfl⟩ ?_; rintro _ _ _ _ ⟨i, cur, rem, b0, rfl, hi, hP, rfl, rfl, rfl⟩
 refine M0 rfl ?_
 refine D4 (o := 4) rfl rfl rfl rfl rfl rfl rfl cur (rem.map House.key) (rem.map (zLs g)) (by simp only [go_sem]) (by simp only [go_sem]) (show (17 : Nat) < 54 by decide) (show (18 : Nat) < 54 by decide) (fun hk _ => ?_) (fun r hr1 hr2 => ?_)
 ·simp only [go_sem]
  repeat' (first | (refine Qr rfl ?_; try intro _ hK; try simp only [go_sem, *]) | refine Qh rfl ?_ | refine Qd rfl (by kernel_rfl) ?_ | (refine Qc rfl rfl ?_ ?_ <;> (intro hb; have hc := hb; try simp only [go_sem] at hc)) | refine q6 rfl ?_ | (refine Qb ?_ ?_; focus kernel_rfl) | ((with_reducible apply And.intro); focus omega) | (refine z8 hK ?_; clear hK; simp only [go_sem, *]) | simp only [z6, z7, go_sem, *])
  obtain rfl : rem = [] := by simpa using hk
  obtain ⟨hlen0, hsub, p0⟩ := hP
  rw [List.flatMap_nil] at p0
  have hl0 := Nat.le_trans p0.len (hlen 0 (by omega))
  refine u3 rfl (1) (fun k => NoP k) 54 (fun k => [(46, iV k), (45, iV 1), (44, .own 2 1 0 1), (4, .ptr 0 0), (5, .ptr 1 0)]) (fun k => [.box [zLz], .box [.own 2 1 0 1], .box [.own 3 2 0 b0.length], .row 2 ((zMc k 0 b0).map Plate.enc)]) [some 0, some 1, some 2, some 3] [] (by trivial) ?_; intro k hk hK
  rcases (by omega : k = 0 ∨ k = 1) with rfl | rfl
  ·repeat' (first | (refine Qr rfl ?_; try intro _ hK; try simp only [go_sem, *]) | refine Qh rfl ?_ | refine Qd rfl (by kernel_rfl) ?_ | (refine Qc rfl rfl ?_ ?_ <;> (intro hb; have hc := hb; try simp only [go_sem] at hc)) | refine q6 rfl ?_ | (refine Qb ?_ ?_; focus kernel_rfl) | ((with_reducible apply And.intro); focus omega) | (refine z8 hK ?_; clear hK; simp only [go_sem, *]) | simp only [z6, z7, go_sem, *])
   refine y9 [3] [] (M2 (by kernel_rfl) U3 b0 (by omega)) (by simp) (by simp only [go_sem, *]) (by simp only [go_sem, AObj.live, *]) (by simp) (.inl rfl) (by simp [go_sem]) (by simp) ?_
   simp only [go_sem, AObj.ren, *]
   repeat' (first | (refine Qr rfl ?_; try intro _ hK; try simp only [go_sem, *]) | refine Qh rfl ?_ | refine Qd rfl (by kernel_rfl) ?_ | (refine Qc rfl rfl ?_ ?_ <;> (intro hb; have hc := hb; try simp only [go_sem] at hc)) | refine q6 rfl ?_ | (refine Qb ?_ ?_; focus kernel_rfl) | ((with_reducible apply And.intro); focus omega) | (refine z8 hK ?_; clear hK; simp only [go_sem, *]) | simp only [z6, z7, go_sem, *])
   exact u2 (i' := 0 + 1) [some 0, some 1, some 2, some 3] [] (by trivial)
  ·repeat' (first | (refine Qr rfl ?_; try intro _ hK; try simp only [go_sem, *]) | refine Qh rfl ?_ | refine Qd rfl (by kernel_rfl) ?_ | (refine Qc rfl rfl ?_ ?_ <;> (intro hb; have hc := hb; try simp only [go_sem] at hc)) | refine q6 rfl ?_ | (refine Qb ?_ ?_; focus kernel_rfl) | ((with_reducible apply And.intro); focus omega) | (refine z8 hK ?_; clear hK; simp only [go_sem, *]) | simp only [z6, z7, go_sem, *])
   have e : zL6 (hs.flatMap g) 1 = [v8 zL0 b0] := by
    rw [p0.fin hnd (n := 1) (by omega)]; simp [zL6, q7, List.range_succ]
   refine ⟨[.agg [.own 2 1 0 1]], [], [2, 3], ⟨by simp only [u1, go_sem], trivial⟩, ?_⟩
   simp only [go_sem, e, *]
   exact .inr (by simp)
 ·obtain ⟨hr, hrk, hrx⟩ : ∃ hr : r < rem.length, (rem.map House.key)[r] = (rem[r]).key ∧ (rem.map (zLs g))[r] = .list ((g rem[r]).map House.enc) := ⟨by simpa using hr1, by simp, by simp [zLs]⟩
  rw [hrk, hrx, ← X4, ← X4]
  generalize (rem[r]).key = kk at *
  clear hrk
  simp only [go_sem]
  repeat' (first | (refine Qr rfl ?_; try intro _ hK; try simp only [go_sem, *]) | refine Qh rfl ?_ | refine Qd rfl (by kernel_rfl) ?_ | (refine Qc rfl rfl ?_ ?_ <;> (intro hb; have hc := hb; try simp only [go_sem] at hc)) | refine q6 rfl ?_ | (refine Qb ?_ ?_; focus kernel_rfl) | ((with_reducible apply And.intro); focus omega) | (refine z8 hK ?_; clear hK; simp only [go_sem, *]) | simp only [z6, z7, go_sem, *])
  obtain ⟨hlen0, hsub, p0⟩ := hP
  have p0 := p0.pick r hr
  have hll : (g rem[r]).length ≤ 1000 := hgl _ (hsub _ (List.getElem_mem hr))
  have hsl2 : ∀ z, z ∈ g rem[r] → 0 ≤ z.street ∧ z.street < 1 := fun z hz => hst z (List.mem_flatMap.2 ⟨_, hsub _ (List.getElem_mem hr), hz⟩)
  clear hrx
  generalize g rem[r] = l at *
  refine u4 rfl (l.length) (fun j (b0 : List Plate) => zMz (l.drop j ++ (rem.eraseIdx r).flatMap g) (hs.flatMap g) b0) 54 (fun j b0 => [(23, iV j), (22, iV l.length), (21, Q3 l), (4, .ptr 0 0), (5, .ptr 1 0), (16, .ptr 4 0)]) (fun j b0 => [.box [zLz], .box [.own 2 1 0 1], .box [.own 3 2 0 b0.length], .row 2 (b0.map Plate.enc), .iter (some (kk, .list (l.map House.enc))) ((rem.eraseIdx r).map House.key) ((rem.eraseIdx r).map (zLs g))]) [some 0, some 1, some 2, some 3, some 4] [] (b0) (by exact ⟨p0, trivial⟩) ?_; intro j b0 hj hQ
  by_cases hj : j < l.length
  ·have hz := hsl2 _ (w8 hj)
   have hdj := u0 hj
   rw [hdj, List.cons_append] at hQ
   obtain ⟨q0, _⟩ := hQ
   have hl0 := Nat.le_trans q0.len (hlen 0 (by omega))
   clear hdj
   rcases (by omega : (l.getD j default).street = 0) with hs0
   ·repeat' (first | (refine Qr rfl ?_; try intro _ hK; try simp only [go_sem, *]) | refine Qh rfl ?_ | refine Qd rfl (by kernel_rfl) ?_ | (refine Qc rfl rfl ?_ ?_ <;> (intro hb; have hc := hb; try simp only [go_sem] at hc)) | refine q6 rfl ?_ | (refine Qb ?_ ?_; focus kernel_rfl) | ((with_reducible apply And.intro); focus omega) | (refine z8 hK ?_; clear hK; simp only [go_sem, *]) | simp only [z6, z7, go_sem, *])
    exact w6 (i' := j + 1) [some 0, some 1, some 2, some 7, some 4] [] (b0 ++ [(l.getD j default).plate]) (by exact ⟨q0.step_in (by rw [hs0]; rfl), trivial⟩)
  ·repeat' (first | (refine Qr rfl ?_; try intro _ hK; try simp only [go_sem, *]) | refine Qh rfl ?_ | refine Qd rfl (by kernel_rfl) ?_ | (refine Qc rfl rfl ?_ ?_ <;> (intro hb; have hc := hb; try simp only [go_sem] at hc)) | refine q6 rfl ?_ | (refine Qb ?_ ?_; focus kernel_rfl) | ((with_reducible apply And.intro); focus omega) | (refine z8 hK ?_; clear hK; simp only [go_sem, *]) | simp only [z6, z7, go_sem, *])
   rw [u7 (by omega), List.nil_append] at hQ
   refine ⟨_, (by omega), [some 0, some 1, some 2, some 3, some 4], [], _, _, _, (by (simp only [Weak, go_sem, List.map_append, List.map_set, *] <;> (try simp (disch := omega) only [t8]) <;> (try simp) <;> (try omega))), i + 1, (some (kk, .list (l.map House.enc))), rem.eraseIdx r, b0, rfl, (by omega), (by exact ⟨by rw [List.length_eraseIdx_of_lt hr]; omega, fun h hh => hsub h ((List.eraseIdx_sublist _ _).subset hh), hQ.1⟩), rfl, rfl, rfl⟩
end Go.Abs

namespace Go.Abs
open Go Go.Proofs Tryz
attribute [local irreducible] y6 Hold x8
def zMx (g : House → List House) (hs rem : List House) (i : Nat) (b0 b1 : List Plate) : Prop := rem.length + i = hs.length ∧ (∀ h, h ∈ rem → h ∈ hs) ∧ Bk b0 0 (rem.flatMap g) (hs.flatMap g) ∧ Bk b1 1 (rem.flatMap g) (hs.flatMap g)
def zM0 (rest tot : List House) (b0 b1 : List Plate) : Prop := Bk b0 0 rest tot ∧ Bk b1 1 rest tot
theorem zHc (hs : List House) (g : House → List House) (hst : ∀ z, z ∈ hs.flatMap g → 0 ≤ z.street ∧ z.street < 2) (hnd : (hs.flatMap g).Nodup) (hlen : ∀ s : Nat, s < 2 → ((hs.flatMap g).filter (fun h => h.street == (s : Int))).length ≤ 12) (hsl : hs.length ≤ 1000) (hgl : ∀ h, h ∈ hs → (g h).length ≤ 1000) :
  zLp prog 89 [.fmap (hs.map House.key) (hs.map (zLs g)), iV 2] [] (x7 (zL6 (hs.flatMap g) 2)) [] := by
 have rz : List.replicate 2 (AV.raw (Value.slice none 0 0)) = [AV.raw (Value.slice none 0 0), AV.raw (Value.slice none 0 0)] := rfl
 have hmt : (zMB prog 121).isSome = true := by kernel_rfl
 have hv1 : IntKind.i64.wrap 1 = (1 : Int) := wrap_i64 (by omega) (by omega)
 have hv2 : IntKind.i64.wrap 2 = (2 : Int) := wrap_i64 (by omega) (by omega)
 have hv3 : IntKind.i64.wrap 3 = (3 : Int) := wrap_i64 (by omega) (by omega)
 refine q8 func89 rfl (fun E hE => ?_); simp only [go_sem, ntmps89]
 repeat' (first | (refine Qr rfl ?_; try intro _ hK; try simp only [go_sem, *]) | refine Qh rfl ?_ | refine Qd rfl (by kernel_rfl) ?_ | (refine Qc rfl rfl ?_ ?_ <;> (intro hb; have hc := hb; try simp only [go_sem] at hc)) | refine q6 rfl ?_ | (refine Qb ?_ ?_; focus kernel_rfl) | ((with_reducible apply And.intro); focus omega) | (refine z8 hK ?_; clear hK; simp only [go_sem, *]) | simp only [z6, z7, go_sem, *])
 refine X7 rfl (fun zn zN zenv zAs => ∃ (i : Nat) (cur : Option (Value × AV)) (rem : List House) (b0 : List Plate) (b1 : List Plate), zn = (hs.length) - i ∧ i ≤ (hs.length) ∧ (zMx g hs rem i b0 b1) ∧ zN = 54 ∧ zenv = [(4, .ptr 0 0), (5, .ptr 1 0), (16, .ptr 5 0)] ∧ zAs = [.box [zLz], .box [.own 2 1 0 2], .box [.own 3 2 0 b0.length, .own 4 2 0 b1.length], .row 2 (b0.map Plate.enc), .row 2 (b1.map Plate.enc), .iter cur (rem.map House.key) (rem.map (zLs g))]) (hs.length) ⟨[some 0, some 2, some 1, none, none, some 3], [], _, _, _, (by (simp only [Weak, go_sem, List.map_append, List.map_set, *] <;> (try simp (disch := omega) only [t8]) <;> (try simp) <;> (try omega))), 0, none, hs, [], [], (by simp), (by simp), (by exact ⟨by omega, fun h hh => hh, Bk.start _ _, Bk.start _ _⟩), rfl, rfl, rfl⟩ ?_; rintro _ _ _ _ ⟨i, cur, rem, b0, b1, rfl, hi, hP, rfl, rfl, rfl⟩
 refine M0 rfl ?_
 refine D4 (o := 5) rfl rfl rfl rfl rfl rfl rfl cur (rem.map House.key) (rem.map (zLs g)) (by simp only [go_sem]) (by simp only [go_sem]) (show (17 : Nat) < 54 by decide) (show (18 : Nat) < 54 by decide) (fun hk _ => ?_) (fun r hr1 hr2 => ?_)
 ·simp only [go_sem]
  repeat' (first | (refine Qr rfl ?_; try intro _ hK; try simp only [go_sem, *]) | refine Qh rfl ?_ | refine Qd rfl (by kernel_rfl) ?_ | (refine Qc rfl rfl ?_ ?_ <;> (intro hb; have hc := hb; try simp only [go_sem] at hc)) | refine q6 rfl ?_ | (refine Qb ?_ ?_; focus kernel_rfl) | ((with_reducible apply And.intro); focus omega) | (refine z8 hK ?_; clear hK; simp only [go_sem, *]) | simp only [z6, z7, go_sem, *])
  obtain rfl : rem = [] := by simpa using hk
  obtain ⟨hlen0, hsub, p0, p1⟩ := hP
  rw [List.flatMap_nil] at p0 p1
  have hl0 := Nat.le_trans p0.len (hlen 0 (by omega))
  have hl1 := Nat.le_trans p1.len (hlen 1 (by omega))
  refine u3 rfl (2) (fun k => NoP k) 54 (fun k => [(46, iV k), (45, iV 2), (44, .own 2 1 0 2), (4, .ptr 0 0), (5, .ptr 1 0)]) (fun k => [.box [zLz], .box [.own 2 1 0 2], .box [.own 3 2 0 b0.length, .own 4 2 0 b1.length], .row 2 ((zMc k 0 b0).map Plate.enc), .row 2 ((zMc k 1 b1).map Plate.enc)]) [some 0, some 1, some 2, some 3, some 4] [] (by trivial) ?_; intro k hk hK
  rcases (by omega : k = 0 ∨ k = 1 ∨ k = 2) with rfl | rfl | rfl
  ·repeat' (first | (refine Qr rfl ?_; try intro _ hK; try simp only [go_sem, *]) | refine Qh rfl ?_ | refine Qd rfl (by kernel_rfl) ?_ | (refine Qc rfl rfl ?_ ?_ <;> (intro hb; have hc := hb; try simp only [go_sem] at hc)) | refine q6 rfl ?_ | (refine Qb ?_ ?_; focus kernel_rfl) | ((with_reducible apply And.intro); focus omega) | (refine z8 hK ?_; clear hK; simp only [go_sem, *]) | simp only [z6, z7, go_sem, *])
   refine y9 [3] [] (M2 (by kernel_rfl) U3 b0 (by omega)) (by simp) (by simp only [go_sem, *]) (by simp only [go_sem, AObj.live, *]) (by simp) (.inl rfl) (by simp [go_sem]) (by simp) ?_
   simp only [go_sem, AObj.ren, *]
   repeat' (first | (refine Qr rfl ?_; try intro _ hK; try simp only [go_sem, *]) | refine Qh rfl ?_ | refine Qd rfl (by kernel_rfl) ?_ | (refine Qc rfl rfl ?_ ?_ <;> (intro hb; have hc := hb; try simp only [go_sem] at hc)) | refine q6 rfl ?_ | (refine Qb ?_ ?_; focus kernel_rfl) | ((with_reducible apply And.intro); focus omega) | (refine z8 hK ?_; clear hK; simp only [go_sem, *]) | simp only [z6, z7, go_sem, *])
   exact u2 (i' := 0 + 1) [some 0, some 1, some 2, some 3, some 4] [] (by trivial)
  ·repeat' (first | (refine Qr rfl ?_; try intro _ hK; try simp only [go_sem, *]) | refine Qh rfl ?_ | refine Qd rfl (by kernel_rfl) ?_ | (refine Qc rfl rfl ?_ ?_ <;> (intro hb; have hc := hb; try simp only [go_sem] at hc)) | refine q6 rfl ?_ | (refine Qb ?_ ?_; focus kernel_rfl) | ((with_reducible apply And.intro); focus omega) | (refine z8 hK ?_; clear hK; simp only [go_sem, *]) | simp only [z6, z7, go_sem, *])
   refine y9 [4] [] (M2 (by kernel_rfl) U3 b1 (by omega)) (by simp) (by simp only [go_sem, *]) (by simp only [go_sem, AObj.live, *]) (by simp) (.inl rfl) (by simp [go_sem]) (by simp) ?_
   simp only [go_sem, AObj.ren, *]
   repeat' (first | (refine Qr rfl ?_; try intro _ hK; try simp only [go_sem, *]) | refine Qh rfl ?_ | refine Qd rfl (by kernel_rfl) ?_ | (refine Qc rfl rfl ?_ ?_ <;> (intro hb; have hc := hb; try simp only [go_sem] at hc)) | refine q6 rfl ?_ | (refine Qb ?_ ?_; focus kernel_rfl) | ((with_reducible apply And.intro); focus omega) | (refine z8 hK ?_; clear hK; simp only [go_sem, *]) | simp only [z6, z7, go_sem, *])
   exact u2 (i' := 1 + 1) [some 0, some 1, some 2, some 3, some 4] [] (by trivial)
  ·repeat' (first | (refine Qr rfl ?_; try intro _ hK; try simp only [go_sem, *]) | refine Qh rfl ?_ | refine Qd rfl (by kernel_rfl) ?_ | (refine Qc rfl rfl ?_ ?_ <;> (intro hb; have hc := hb; try simp only [go_sem] at hc)) | refine q6 rfl ?_ | (refine Qb ?_ ?_; focus kernel_rfl) | ((with_reducible apply And.intro); focus omega) | (refine z8 hK ?_; clear hK; simp only [go_sem, *]) | simp only [z6, z7, go_sem, *])
   have e : zL6 (hs.flatMap g) 2 = [v8 zL0 b0, v8 zL0 b1] := by
    rw [p0.fin hnd (n := 2) (by omega), p1.fin hnd (n := 2) (by omega)]; simp [zL6, q7, List.range_succ]
   refine ⟨[.agg [.own 2 1 0 2]], [], [2, 3, 4], ⟨by simp only [u1, go_sem], trivial⟩, ?_⟩
   simp only [go_sem, e, *]
   exact .inr (by simp)
 ·obtain ⟨hr, hrk, hrx⟩ : ∃ hr : r < rem.length, (rem.map House.key)[r] = (rem[r]).key ∧ (rem.map (zLs g))[r] = .list ((g rem[r]).map House.enc) := ⟨by simpa using hr1, by simp, by simp [zLs]⟩
  rw [hrk, hrx, ← X4, ← X4]
  generalize (rem[r]).key = kk at *
  clear hrk
  simp only [go_sem]
  repeat' (first | (refine Qr rfl ?_; try intro _ hK; try simp only [go_sem, *]) | refine Qh rfl ?_ | refine Qd rfl (by kernel_rfl) ?_ | (refine Qc rfl rfl ?_ ?_ <;> (intro hb; have hc := hb; try simp only [go_sem] at hc)) | refine q6 rfl ?_ | (refine Qb ?_ ?_; focus kernel_rfl) | ((with_reducible apply And.intro); focus omega) | (refine z8 hK ?_; clear hK; simp only [go_sem, *]) | simp only [z6, z7, go_sem, *])
  obtain ⟨hlen0, hsub, p0, p1⟩ := hP
  have p0 := p0.pick r hr
  have p1 := p1.pick r hr
  have hll : (g rem[r]).length ≤ 1000 := hgl _ (hsub _ (List.getElem_mem hr))
  have hsl2 : ∀ z, z ∈ g rem[r] → 0 ≤ z.street ∧ z.street < 2 := fun z hz => hst z (List.mem_flatMap.2 ⟨_, hsub _ (List.getElem_mem hr), hz⟩)
  clear hrx
  generalize g rem[r] = l at *
  refine O6 rfl (l.length) (fun j (b0 : List Plate) (b1 : List Plate) => zM0 (l.drop j ++ (rem.eraseIdx r).flatMap g) (hs.flatMap g) b0 b1) 54 (fun j b0 b1 => [(23, iV j), (22, iV l.length), (21, Q3 l), (4, .ptr 0 0), (5, .ptr 1 0), (16, .ptr 5 0)]) (fun j b0 b1 => [.box [zLz], .box [.own 2 1 0 2], .box [.own 3 2 0 b0.length, .own 4 2 0 b1.length], .row 2 (b0.map Plate.enc), .row 2 (b1.map Plate.enc), .iter (some (kk, .list (l.map House.enc))) ((rem.eraseIdx r).map House.key) ((rem.eraseIdx r).map (zLs g))]) [some 0, some 1, some 2, some 3, some 4, some 5] [] (b0) (b1) (by exact ⟨p0, p1⟩) ?_; intro j b0 b1 hj hQ
  by_cases hj : j < l.length
  ·have hz := hsl2 _ (w8 hj)
   have hdj := u0 hj
   rw [hdj, List.cons_append] at hQ
   obtain ⟨q0, q1⟩ := hQ
   have hl0 := Nat.le_trans q0.len (hlen 0 (by omega))
   have hl1 := Nat.le_trans q1.len (hlen 1 (by omega))
   clear hdj
   rcases (by omega : (l.getD j default).street = 0 ∨ (l.getD j default).street = 1) with hs0 | hs0
   ·repeat' (first | (refine Qr rfl ?_; try intro _ hK; try simp only [go_sem, *]) | refine Qh rfl ?_ | refine Qd rfl (by kernel_rfl) ?_ | (refine Qc rfl rfl ?_ ?_ <;> (intro hb; have hc := hb; try simp only [go_sem] at hc)) | refine q6 rfl ?_ | (refine Qb ?_ ?_; focus kernel_rfl) | ((with_reducible apply And.intro); focus omega) | (refine z8 hK ?_; clear hK; simp only [go_sem, *]) | simp only [z6, z7, go_sem, *])
    exact Z2 (i' := j + 1) [some 0, some 1, some 2, some 8, some 4, some 5] [] (b0 ++ [(l.getD j default).plate]) (b1) (by exact ⟨q0.step_in (by rw [hs0]; rfl), q1.step_out (by rw [hs0]; decide)⟩)
   ·repeat' (first | (refine Qr rfl ?_; try intro _ hK; try simp only [go_sem, *]) | refine Qh rfl ?_ | refine Qd rfl (by kernel_rfl) ?_ | (refine Qc rfl rfl ?_ ?_ <;> (intro hb; have hc := hb; try simp only [go_sem] at hc)) | refine q6 rfl ?_ | (refine Qb ?_ ?_; focus kernel_rfl) | ((with_reducible apply And.intro); focus omega) | (refine z8 hK ?_; clear hK; simp only [go_sem, *]) | simp only [z6, z7, go_sem, *])
    exact Z2 (i' := j + 1) [some 0, some 1, some 2, some 3, some 8, some 5] [] (b0) (b1 ++ [(l.getD j default).plate]) (by exact ⟨q0.step_out (by rw [hs0]; decide), q1.step_in (by rw [hs0]; rfl)⟩)
  ·repeat' (first | (refine Qr rfl ?_; try intro _ hK; try simp only [go_sem, *]) | refine Qh rfl ?_ | refine Qd rfl (by kernel_rfl) ?_ | (refine Qc rfl rfl ?_ ?_ <;> (intro hb; have hc := hb; try simp only [go_sem] at hc)) | refine q6 rfl ?_ | (refine Qb ?_ ?_; focus kernel_rfl) | ((with_reducible apply And.intro); focus omega) | (refine z8 hK ?_; clear hK; simp only [go_sem, *]) | simp only [z6, z7, go_sem, *])
   rw [u7 (by omega), List.nil_append] at hQ
   refine ⟨_, (by omega), [some 0, some 1, some 2, some 3, some 4, some 5], [], _, _, _, (by (simp only [Weak, go_sem, List.map_append, List.map_set, *] <;> (try simp (disch := omega) only [t8]) <;> (try simp) <;> (try omega))), i + 1, (some (kk, .list (l.map House.enc))), rem.eraseIdx r, b0, b1, rfl, (by omega), (by exact ⟨by rw [List.length_eraseIdx_of_lt hr]; omega, fun h hh => hsub h ((List.eraseIdx_sublist _ _).subset hh), hQ⟩), rfl, rfl, rfl⟩
end Go.Abs

namespace Go.Abs
open Go Go.Proofs Tryz
attribute [local irreducible] y6 Hold x8
def zMy (g : House → List House) (hs rem : List House) (i : Nat) (b0 b1 b2 : List Plate) : Prop := rem.length + i = hs.length ∧ (∀ h, h ∈ rem → h ∈ hs) ∧ Bk b0 0 (rem.flatMap g) (hs.flatMap g) ∧ Bk b1 1 (rem.flatMap g) (hs.flatMap g) ∧ Bk b2 2 (rem.flatMap g) (hs.flatMap g)
def zM1 (rest tot : List House) (b0 b1 b2 : List Plate) : Prop := Bk b0 0 rest tot ∧ Bk b1 1 rest tot ∧ Bk b2 2 rest tot
theorem zHd (hs : List House) (g : House → List House) (hst : ∀ z, z ∈ hs.flatMap g → 0 ≤ z.street ∧ z.street < 3) (hnd : (hs.flatMap g).Nodup) (hlen : ∀ s : Nat, s < 3 → ((hs.flatMap g).filter (fun h => h.street == (s : Int))).length ≤ 12) (hsl : hs.length ≤ 1000) (hgl : ∀ h, h ∈ hs → (g h).length ≤ 1000) :
  zLp prog 89 [.fmap (hs.map House.key) (hs.map (zLs g)), iV 3] [] (x7 (zL6 (hs.flatMap g) 3)) [] := by
 have rz : List.replicate 3 (AV.raw (Value.slice none 0 0)) = [AV.raw (Value.slice none 0 0), AV.raw (Value.slice none 0 0), AV.raw (Value.slice none 0 0)] := rfl
 have hmt : (zMB prog 121).isSome = true := by kernel_rfl
 have hv1 : IntKind.i64.wrap 1 = (1 : Int) := wrap_i64 (by omega) (by omega)
 have hv2 : IntKind.i64.wrap 2 = (2 : Int) := wrap_i64 (by omega) (by omega)
 have hv3 : IntKind.i64.wrap 3 = (3 : Int) := wrap_i64 (by omega) (by omega)
 refine q8 func89 rfl (fun E hE => ?_); simp only [go_sem, ntmps89]
 repeat' (first | (refine Qr rfl ?_; try intro _ hK; try simp only [go_sem, *]) | refine Qh rfl ?_ | refine Qd rfl (by kernel_rfl) ?_ | (refine Qc rfl rfl ?_ ?_ <;> (intro hb; have hc := hb; try simp only [go_sem] at hc)) | refine q6 rfl ?_ | (refine Qb ?_ ?_; focus kernel_rfl) | ((with_reducible apply And.intro); focus omega) | (refine z8 hK ?_; clear hK; simp only [go_sem, *]) | simp only [z6, z7, go_sem, *])
 refine X7 rfl (fun zn zN zenv zAs => ∃ (i : Nat) (cur : Option (Value × AV)) (rem : List House) (b0 : List Plate) (b1 : List Plate) (b2 : List Plate), zn = (hs.length) - i ∧ i ≤ (hs.length) ∧ (zMy g hs rem i b0 b1 b2) ∧ zN = 54 ∧ zenv = [(4, .ptr 0 0), (5, .ptr 1 0), (16, .ptr 6 0)] ∧ zAs = [.box [zLz], .box [.own 2 1 0 3], .box [.own 3 2 0 b0.length, .own 4 2 0 b1.length, .own 5 2 0 b2.length], .row 2 (b0.map Plate.enc), .row 2 (b1.map Plate.enc), .row 2 (b2.map Plate.enc), .iter cur (rem.map House.key) (rem.map (zLs g))]) (hs.length) ⟨[some 0, some 2, some 1, none, none, none, some 3], [], _, _, _, (by (simp only [Weak, go_sem, List.map_append, List.map_set, *] <;> (try simp (disch := omega) only [t8]) <;> (try simp) <;> (try omega))), 0, none, hs, [], [], [], (by simp), (by simp), (by exact ⟨by omega, fun h hh => hh, Bk.start _ _, Bk.start _ _, Bk.start _ _⟩), rfl, rfl, rfl⟩ ?_; rintro _ _ _ _ ⟨i, cur, rem, b0, b1, b2, rfl, hi, hP, rfl, rfl, rfl⟩
 refine M0 rfl ?_
 refine D4 (o := 6) rfl rfl rfl rfl rfl rfl rfl cur (rem.map House.key) (rem.map (zLs g)) (by simp only [go_sem]) (by simp only [go_sem]) (show (17 : Nat) < 54 by decide) (show (18 : Nat) < 54 by decide) (fun hk _ => ?_) (fun r hr1 hr2 => ?_)
 ·simp only [go_sem]
  repeat' (first | (refine Qr rfl ?_; try intro _ hK; try simp only [go_sem, *]) | refine Qh rfl ?_ | refine Qd rfl (by kernel_rfl) ?_ | (refine Qc rfl rfl ?_ ?_ <;> (intro hb; have hc := hb; try simp only [go_sem] at hc)) | refine q6 rfl ?_ | (refine Qb ?_ ?_; focus kernel_rfl) | ((with_reducible apply And.intro); focus omega) | (refine z8 hK ?_; clear hK; simp only [go_sem, *]) | simp only [z6, z7, go_sem, *])
  obtain rfl : rem = [] := by simpa using hk
  obtain ⟨hlen0, hsub, p0, p1, p2⟩ := hP
  rw [List.flatMap_nil] at p0 p1 p2
  have hl0 := Nat.le_trans p0.len (hlen 0 (by omega))
  have hl1 := Nat.le_trans p1.len (hlen 1 (by omega))
  have hl2 := Nat.le_trans p2.len (hlen 2 (by omega))
  refine u3 rfl (3) (fun k => NoP k) 54 (fun k => [(46, iV k), (45, iV 3), (44, .own 2 1 0 3), (4, .ptr 0 0), (5, .ptr 1 0)]) (fun k => [.box [zLz], .box [.own 2 1 0 3], .box [.own 3 2 0 b0.length, .own 4 2 0 b1.length, .own 5 2 0 b2.length], .row 2 ((zMc k 0 b0).map Plate.enc), .row 2 ((zMc k 1 b1).map Plate.enc), .row 2 ((zMc k 2 b2).map Plate.enc)]) [some 0, some 1, some 2, some 3, some 4, some 5] [] (by trivial) ?_; intro k hk hK
  rcases (by omega : k = 0 ∨ k = 1 ∨ k = 2 ∨ k = 3) with rfl | rfl | rfl | rfl
  ·repeat' (first | (refine Qr rfl ?_; try intro _ hK; try simp only [go_sem, *]) | refine Qh rfl ?_ | refine Qd rfl (by kernel_rfl) ?_ | (refine Qc rfl rfl ?_ ?_ <;> (intro hb; have hc := hb; try simp only [go_sem] at hc)) | refine q6 rfl ?_ | (refine Qb ?_ ?_; focus kernel_rfl) | ((with_reducible apply And.intro); focus omega) | (refine z8 hK ?_; clear hK; simp only [go_sem, *]) | simp only [z6, z7, go_sem, *])
   refine y9 [3] [] (M2 (by kernel_rfl) U3 b0 (by omega)) (by simp) (by simp only [go_sem, *]) (by simp only [go_sem, AObj.live, *]) (by simp) (.inl rfl) (by simp [go_sem]) (by simp) ?_
   simp only [go_sem, AObj.ren, *]
   repeat' (first | (refine Qr rfl ?_; try intro _ hK; try simp only [go_sem, *]) | refine Qh rfl ?_ | refine Qd rfl (by kernel_rfl) ?_ | (refine Qc rfl rfl ?_ ?_ <;> (intro hb; have hc := hb; try simp only [go_sem] at hc)) | refine q6 rfl ?_ | (refine Qb ?_ ?_; focus kernel_rfl) | ((with_reducible apply And.intro); focus omega) | (refine z8 hK ?_; clear hK; simp only [go_sem, *]) | simp only [z6, z7, go_sem, *])
   exact u2 (i' := 0 + 1) [some 0, some 1, some 2, some 3, some 4, some 5] [] (by trivial)
  ·repeat' (first | (refine Qr rfl ?_; try intro _ hK; try simp only [go_sem, *]) | refine Qh rfl ?_ | refine Qd rfl (by kernel_rfl) ?_ | (refine Qc rfl rfl ?_ ?_ <;> (intro hb; have hc := hb; try simp only [go_sem] at hc)) | refine q6 rfl ?_ | (refine Qb ?_ ?_; focus kernel_rfl) | ((with_reducible apply And.intro); focus omega) | (refine z8 hK ?_; clear hK; simp only [go_sem, *]) | simp only [z6, z7, go_sem, *])
   refine y9 [4] [] (M2 (by kernel_rfl) U3 b1 (by omega)) (by simp) (by simp only [go_sem, *]) (by simp only [go_sem, AObj.live, *]) (by simp) (.inl rfl) (by simp [go_sem]) (by simp) ?_
   simp only [go_sem, AObj.ren, *]
   repeat' (first | (refine Qr rfl ?_; try intro _ hK; try simp only [go_sem, *]) | refine Qh rfl ?_ | refine Qd rfl (by kernel_rfl) ?_ | (refine Qc rfl rfl ?_ ?_ <;> (intro hb; have hc := hb; try simp only [go_sem] at hc)) | refine q6 rfl ?_ | (refine Qb ?_ ?_; focus kernel_rfl) | ((with_reducible apply And.intro); focus omega) | (refine z8 hK ?_; clear hK; simp only [go_sem, *]) | simp only [z6, z7, go_sem, *])
   exact u2 (i' := 1 + 1) [some 0, some 1, some 2, some 3, some 4, some 5] [] (by trivial)
  ·repeat' (first | (refine Qr rfl ?_; try intro _ hK; try simp only [go_sem, *]) | refine Qh rfl ?_ | refine Qd rfl (by kernel_rfl) ?_ | (refine Qc rfl rfl ?_ ?_ <;> (intro hb; have hc := hb; try simp only [go_sem] at hc)) | refine q6 rfl ?_ | (refine Qb ?_ ?_; focus kernel_rfl) | ((with_reducible apply And.intro); focus omega) | (refine z8 hK ?_; clear hK; simp only [go_sem, *]) | simp only [z6, z7, go_sem, *])
   refine y9 [5] [] (M2 (by kernel_rfl) U3 b2 (by omega)) (by simp) (by simp only [go_sem, *]) (by simp only [go_sem, AObj.live, *]) (by simp) (.inl rfl) (by simp [go_sem]) (by simp) ?_
   simp only [go_sem, AObj.ren, *]
   repeat' (first | (refine Qr rfl ?_; try intro _ hK; try simp only [go_sem, *]) | refine Qh rfl ?_ | refine Qd rfl (by kernel_rfl) ?_ | (refine Qc rfl rfl ?_ ?_ <;> (intro hb; have hc := hb; try simp only [go_sem] at hc)) | refine q6 rfl ?_ | (refine Qb ?_ ?_; focus kernel_rfl) | ((with_reducible apply And.intro); focus omega) | (refine z8 hK ?_; clear hK; simp only [go_sem, *]) | simp only [z6, z7, go_sem, *])
   exact u2 (i' := 2 + 1) [some 0, some 1, some 2, some 3, some 4, some 5] [] (by trivial)
  ·repeat' (first | (refine Qr rfl ?_; try intro _ hK; try simp only [go_sem, *]) | refine Qh rfl ?_ | refine Qd rfl (by kernel_rfl) ?_ | (refine Qc rfl rfl ?_ ?_ <;> (intro hb; have hc := hb; try simp only [go_sem] at hc)) | refine q6 rfl ?_ | (refine Qb ?_ ?_; focus kernel_rfl) | ((with_reducible apply And.intro); focus omega) | (refine z8 hK ?_; clear hK; simp only [go_sem, *]) | simp only [z6, z7, go_sem, *])
   have e : zL6 (hs.flatMap g) 3 = [v8 zL0 b0, v8 zL0 b1, v8 zL0 b2] := by
    rw [p0.fin hnd (n := 3) (by omega), p1.fin hnd (n := 3) (by omega), p2.fin hnd (n := 3) (by omega)]; simp [zL6, q7, List.range_succ]
   refine ⟨[.agg [.own 2 1 0 3]], [], [2, 3, 4, 5], ⟨by simp only [u1, go_sem], trivial⟩, ?_⟩
   simp only [go_sem, e, *]
   exact .inr (by simp)
 ·obtain ⟨hr, hrk, hrx⟩ : ∃ hr : r < rem.length, (rem.map House.key)[r] = (rem[r]).key ∧ (rem.map (zLs g))[r] = .list ((g rem[r]).map House.enc) := ⟨by simpa using hr1, by simp, by simp [zLs]⟩
  rw [hrk, hrx, ← X4, ← X4]
  generalize (rem[r]).key = kk at *
  clear hrk
  simp only [go_sem]
  repeat' (first | (refine Qr rfl ?_; try intro _ hK; try simp only [go_sem, *]) | refine Qh rfl ?_ | refine Qd rfl (by kernel_rfl) ?_ | (refine Qc rfl rfl ?_ ?_ <;> (intro hb; have hc := hb; try simp only [go_sem] at hc)) | refine q6 rfl ?_ | (refine Qb ?_ ?_; focus kernel_rfl) | ((with_reducible apply And.intro); focus omega) | (refine z8 hK ?_; clear hK; simp only [go_sem, *]) | simp only [z6, z7, go_sem, *])
  obtain ⟨hlen0, hsub, p0, p1, p2⟩ := hP
  have p0 := p0.pick r hr
  have p1 := p1.pick r hr
  have p2 := p2.pick r hr
  have hll : (g rem[r]).length ≤ 1000 := hgl _ (hsub _ (List.getElem_mem hr))
  have hsl2 : ∀ z, z ∈ g rem[r] → 0 ≤ z.street ∧ z.street < 3 := fun z hz => hst z (List.mem_flatMap.2 ⟨_, hsub _ (List.getElem_mem hr), hz⟩)
  clear hrx
  generalize g rem[r] = l at *
  refine X7 rfl (fun zn zN zenv zAs => ∃ (j : Nat) (b0 : List Plate) (b1 : List Plate) (b2 : List Plate), zn = (l.length) - j ∧ j ≤ (l.length) ∧ (zM1 (l.drop j ++ (rem.eraseIdx r).flatMap g) (hs.flatMap g) b0 b1 b2) ∧ zN = 54 ∧ zenv = [(23, iV j), (22, iV l.length), (21, Q3 l), (4, .ptr 0 0), (5, .ptr 1 0), (16, .ptr 6 0)] ∧ zAs = [.box [zLz], .box [.own 2 1 0 3], .box [.own 3 2 0 b0.length, .own 4 2 0 b1.length, .own 5 2 0 b2.length], .row 2 (b0.map Plate.enc), .row 2 (b1.map Plate.enc), .row 2 (b2.map Plate.enc), .iter (some (kk, .list (l.map House.enc))) ((rem.eraseIdx r).map House.key) ((rem.eraseIdx r).map (zLs g))]) (l.length) ⟨[some 0, some 1, some 2, some 3, some 4, some 5, some 6], [], _, _, _, (by (simp only [Weak, go_sem, List.map_append, List.map_set, *] <;> (try simp (disch := omega) only [t8]) <;> (try simp) <;> (try omega))), 0, b0, b1, b2, (by simp), (by simp), (by exact ⟨p0, p1, p2⟩), rfl, rfl, rfl⟩ ?_; rintro _ _ _ _ ⟨j, b0, b1, b2, rfl, hj, hQ, rfl, rfl, rfl⟩
  by_cases hj : j < l.length
  ·have hz := hsl2 _ (w8 hj)
   have hdj := u0 hj
   rw [hdj, List.cons_append] at hQ
   obtain ⟨q0, q1, q2⟩ := hQ
   have hl0 := Nat.le_trans q0.len (hlen 0 (by omega))
   have hl1 := Nat.le_trans q1.len (hlen 1 (by omega))
   have hl2 := Nat.le_trans q2.len (hlen 2 (by omega))
   clear hdj
   rcases (by omega : (l.getD j default).street = 0 ∨ (l.getD j default).street = 1 ∨ (l.getD j default).street = 2) with hs0 | hs0 | hs0
   ·repeat' (first | (refine Qr rfl ?_; try intro _ hK; try simp only [go_sem, *]) | refine Qh rfl ?_ | refine Qd rfl (by kernel_rfl) ?_ | (refine Qc rfl rfl ?_ ?_ <;> (intro hb; have hc := hb; try simp only [go_sem] at hc)) | refine q6 rfl ?_ | (refine Qb ?_ ?_; focus kernel_rfl) | ((with_reducible apply And.intro); focus omega) | (refine z8 hK ?_; clear hK; simp only [go_sem, *]) | simp only [z6, z7, go_sem, *])
    refine ⟨_, (by omega), [some 0, some 1, some 2, some 9, some 4, some 5, some 6], [], _, _, _, (by (simp only [Weak, go_sem, List.map_append, List.map_set, *] <;> (try simp (disch := omega) only [t8]) <;> (try simp) <;> (try omega))), j + 1, b0 ++ [(l.getD j default).plate], b1, b2, rfl, (by omega), (by exact ⟨q0.step_in (by rw [hs0]; rfl), q1.step_out (by rw [hs0]; decide), q2.step_out (by rw [hs0]; decide)⟩), rfl, rfl, rfl⟩
   ·repeat' (first | (refine Qr rfl ?_; try intro _ hK; try simp only [go_sem, *]) | refine Qh rfl ?_ | refine Qd rfl (by kernel_rfl) ?_ | (refine Qc rfl rfl ?_ ?_ <;> (intro hb; have hc := hb; try simp only [go_sem] at hc)) | refine q6 rfl ?_ | (refine Qb ?_ ?_; focus kernel_rfl) | ((with_reducible apply And.intro); focus omega) | (refine z8 hK ?_; clear hK; simp only [go_sem, *]) | simp only [z6, z7, go_sem, *])
    refine ⟨_, (by omega), [some 0, some 1, some 2, some 3, some 9, some 5, some 6], [], _, _, _, (by (simp only [Weak, go_sem, List.map_append, List.map_set, *] <;> (try simp (disch := omega) only [t8]) <;> (try simp) <;> (try omega))), j + 1, b0, b1 ++ [(l.getD j default).plate], b2, rfl, (by omega), (by exact ⟨q0.step_out (by rw [hs0]; decide), q1.step_in (by rw [hs0]; rfl), q2.step_out (by rw [hs0]; decide)⟩), rfl, rfl, rfl⟩
   ·repeat' (first | (refine Qr rfl ?_; try intro _ hK; try simp only [go_sem, *]) | refine Qh rfl ?_ | refine Qd rfl (by kernel_rfl) ?_ | (refine Qc rfl rfl ?_ ?_ <;> (intro hb; have hc := hb; try simp only [go_sem] at hc)) | refine q6 rfl ?_ | (refine Qb ?_ ?_; focus kernel_rfl) | ((with_reducible apply And.intro); focus omega) | (refine z8 hK ?_; clear hK; simp only [go_sem, *]) | simp only [z6, z7, go_sem, *])
    refine ⟨_, (by omega), [some 0, some 1, some 2, some 3, some 4, some 9, some 6], [], _, _, _, (by (simp only [Weak, go_sem, List.map_append, List.map_set, *] <;> (try simp (disch := omega) only [t8]) <;> (try simp) <;> (try omega))), j + 1, b0, b1, b2 ++ [(l.getD j default).plate], rfl, (by omega), (by exact ⟨q0.step_out (by rw [hs0]; decide), q1.step_out (by rw [hs0]; decide), q2.step_in (by rw [hs0]; rfl)⟩), rfl, rfl, rfl⟩
  ·repeat' (first | (refine Qr rfl ?_; try intro _ hK; try simp only [go_sem, *]) | refine Qh rfl ?_ | refine Qd rfl (by kernel_rfl) ?_ | (refine Qc rfl rfl ?_ ?_ <;> (intro hb; have hc := hb; try simp only [go_sem] at hc)) | refine q6 rfl ?_ | (refine Qb ?_ ?_; focus kernel_rfl) | ((with_reducible apply And.intro); focus omega) | (refine z8 hK ?_; clear hK; simp only [go_sem, *]) | simp only [z6, z7, go_sem, *])
   rw [u7 (by omega), List.nil_append] at hQ
   refine ⟨_, (by omega), [some 0, some 1, some 2, some 3, some 4, some 5, some 6], [], _, _, _, (by (simp only [Weak, go_sem, List.map_append, List.map_set, *] <;> (try simp (disch := omega) only [t8]) <;> (try simp) <;> (try omega))), i + 1, (some (kk, .list (l.map House.enc))), rem.eraseIdx r, b0, b1, b2, rfl, (by omega), (by exact ⟨by rw [List.length_eraseIdx_of_lt hr]; omega, fun h hh => hsub h ((List.eraseIdx_sublist _ _).subset hh), hQ⟩), rfl, rfl, rfl⟩
end Go.Abs

namespace Go.Abs
open Go Go.Proofs Tryz
attribute [local irreducible] y6 Hold x8
theorem Y5 (x : Plate) : (x.number == 0 && x.letter == 0) = decide (x = zeroPlate) := zGd x zeroPlate
theorem bf {a : Bool} (h : ¬ a = true) : a = false := by simpa using h
theorem zAt (p : zLo) (c : Change) (v : Valid p) :
  (can p c ≠ 0 → zLp prog 125 [x7 p, c.enc] [] (.tup [.raw (.map none), iV (can p c)]) []) ∧
  (can p c = 0 → zLp prog 125 [x7 p, c.enc] [] (.tup [.mp 0, iV 0]) [.mapo (w5 p) (w4 p (mv p c))]) := by
 have hl : p.length ≤ 1000 := by have := v.len; omega
 unfold can
 by_cases hk : zLr c.kind 1 7 = true
 rotate_left
 ·rw [if_pos (bf hk)]; exact ⟨fun _ => zEU p c hl (bf hk), fun h => absurd h (by omega)⟩
 rw [if_neg (by simp [hk])]
 by_cases hs : zLr c.street 0 ((p.length : Int) - 1) = true
 rotate_left
 ·rw [if_pos (bf hs)]; exact ⟨fun _ => zEZ p c hl hk (bf hs), fun h => absurd h (by omega)⟩
 rw [if_neg (by simp [hs])]
 have hk' := betw_iff.1 hk
 have hs' := betw_iff.1 hs
 by_cases h4 : c.kind = 4
 ·have k4 : (c.kind == 4) = true := by simp [h4]
  have k7 : (c.kind == 7) = false := by simp [h4]
  have k5 : decide (c.kind ≥ 5) = false := by simp [h4]
  by_cases ho : zLr c.other 0 ((p.length : Int) - 1) = true
  rotate_left
  ·rw [if_pos ⟨.inl h4, bf ho⟩]; exact ⟨fun _ => zEV p c hl hk hs k4 (bf ho), fun h => absurd h (by omega)⟩
  rw [if_neg (by simp [ho])]
  have ho' := betw_iff.1 ho
  by_cases hr : c.other = c.street
  ·rw [if_pos ⟨.inl h4, hr⟩]; exact ⟨fun _ => zEX p c hl hk hs k4 ho (by simp [hr]), fun h => absurd h (by omega)⟩
  rw [if_neg (by simp [hr])]
  have hr' : (c.other == c.street) = false := by simp [hr]
  by_cases hz : c.src = zeroPlate
  rotate_left
  ·rw [if_pos (.inr (.inl ⟨by omega, hz⟩))]; exact ⟨fun _ => zEJ p c hl hk hs k4 ho hr' k5 (by rw [Y5]; simp [hz]), fun h => absurd h (by omega)⟩
  have hz' : (c.src.number == 0 && c.src.letter == 0) = true := by rw [Y5]; simp [hz]
  by_cases hd : c.dst = zeroPlate
  rotate_left
  ·rw [if_pos (.inr (.inr ⟨by omega, hd⟩))]; exact ⟨fun _ => zEL p c hl hk hs k4 k7 ho hr' k5 hz' (by rw [Y5]; simp [hd]), fun h => absurd h (by omega)⟩
  have hd' : (c.dst.number == 0 && c.dst.letter == 0) = true := by rw [Y5]; simp [hd]
  rw [if_neg (by simp [h4, hz, hd])]
  have sp := zEQ p c v ⟨hk', by omega, fun _ => by omega⟩ h4 ho hr' hz' hd'
  exact ⟨fun h => by simpa [zLu, zLt, h] using sp, fun h => by simpa [zLu, zLt, h] using sp⟩
 ·by_cases h7 : c.kind = 7
  ·have k4 : (c.kind == 4) = false := by simp [h7]
   have k7 : (c.kind == 7) = true := by simp [h7]
   by_cases ho : zLr c.other 0 ((p.length : Int) - 1) = true
   rotate_left
   ·rw [if_pos ⟨.inr h7, bf ho⟩]; exact ⟨fun _ => zEW p c hl hk hs k4 k7 (bf ho), fun h => absurd h (by omega)⟩
   rw [if_neg (by simp [ho])]
   have ho' := betw_iff.1 ho
   by_cases hr : c.other = c.street
   ·rw [if_pos ⟨.inr h7, hr⟩]; exact ⟨fun _ => zEY p c hl hk hs k4 k7 ho (by simp [hr]), fun h => absurd h (by omega)⟩
   rw [if_neg (by simp [hr])]
   rw [if_neg (by simp [h7])]
   have sp := zET p c v ⟨hk', by omega, fun _ => by omega⟩ h7 ho (by simp [hr])
   exact ⟨fun h => by simpa [zLu, zLt, h] using sp, fun h => by simpa [zLu, zLt, h] using sp⟩
  ·have k4 : (c.kind == 4) = false := by simp [h4]
   have k7 : (c.kind == 7) = false := by simp [h7]
   rw [if_neg (by simp [h4, h7]), if_neg (by simp [h4, h7])]
   by_cases ho : c.other = 0
   rotate_left
   ·rw [if_pos (.inl ⟨by simp [h4, h7], ho⟩)]; exact ⟨fun _ => zEH p c hl hk hs k4 k7 (by simp [ho]), fun h => absurd h (by omega)⟩
   have ho' : (c.other != 0) = false := by simp [ho]
   by_cases h5 : 5 ≤ c.kind
   ·have k5 : decide (c.kind ≥ 5) = true := by simp; omega
    by_cases hd : c.dst = zeroPlate
    rotate_left
    ·rw [if_pos (.inr (.inr ⟨h7, hd⟩))]; exact ⟨fun _ => zEM p c hl hk hs k4 k7 ho' k5 (by rw [Y5]; simp [hd]), fun h => absurd h (by omega)⟩
    have hd' : (c.dst.number == 0 && c.dst.letter == 0) = true := by rw [Y5]; simp [hd]
    rw [if_neg (by simp [h4, h7, ho, h5, hd])]
    have f : Pre p c := ⟨hk', by omega, fun _ => by omega⟩
    rcases (by omega : c.kind = 5 ∨ c.kind = 6) with k | k
    ·have sp := zER p c v f k ho' hd'
     exact ⟨fun h => by simpa [zLu, zLt, h] using sp, fun h => by simpa [zLu, zLt, h] using sp⟩
    ·have sp := zES p c v f k ho' hd'
     exact ⟨fun h => by simpa [zLu, zLt, h] using sp, fun h => by simpa [zLu, zLt, h] using sp⟩
   ·have k5 : decide (c.kind ≥ 5) = false := by simp; omega
    by_cases hz : c.src = zeroPlate
    rotate_left
    ·rw [if_pos (.inr (.inl ⟨h5, hz⟩))]; exact ⟨fun _ => zEI p c hl hk hs k4 k7 ho' k5 (by rw [Y5]; simp [hz]), fun h => absurd h (by omega)⟩
    have hz' : (c.src.number == 0 && c.src.letter == 0) = true := by rw [Y5]; simp [hz]
    by_cases hd : c.dst = zeroPlate
    rotate_left
    ·rw [if_pos (.inr (.inr ⟨h7, hd⟩))]; exact ⟨fun _ => zEK p c hl hk hs k4 k7 ho' k5 hz' (by rw [Y5]; simp [hd]), fun h => absurd h (by omega)⟩
    have hd' : (c.dst.number == 0 && c.dst.letter == 0) = true := by rw [Y5]; simp [hd]
    rw [if_neg (by simp [h4, h7, ho, hz, hd])]
    have f : Pre p c := ⟨hk', by omega, fun _ => by omega⟩
    rcases (by omega : c.kind = 1 ∨ c.kind = 2 ∨ c.kind = 3) with k | k | k
    ·have sp := zEN p c v f k ho' hz' hd'
     exact ⟨fun h => by simpa [zLu, zLt, h] using sp, fun h => by simpa [zLu, zLt, h] using sp⟩
    ·have sp := zEO p c v f k ho' hz' hd'
     exact ⟨fun h => by simpa [zLu, zLt, h] using sp, fun h => by simpa [zLu, zLt, h] using sp⟩
    ·have sp := zEP p c v f k ho' hz' hd'
     exact ⟨fun h => by simpa [zLu, zLt, h] using sp, fun h => by simpa [zLu, zLt, h] using sp⟩
theorem zIL {p : zLo} {c : Change} (f : Fit p c) (x : Plate) : (toP p c x).length ≤ 2 := by
 rcases K7 f.kind with k | k | k | k | k | k | k
 ·rw [M5 k]; simp
 ·rw [R7 k]; simp
 ·rw [M4 k]; simp
 ·rw [R6 k]; simp
 ·rw [U7 k]; split <;> simp
 ·rw [R5 k]; split <;> simp
 ·rw [R4 k]; split <;> simp
theorem zAb {p : zLo} {c : Change} (f : Fit p c) (h : House) : (mv p c h).length ≤ 2 := by
 unfold mv; split
 ·exact zIL f _
 ·simp
theorem zDz {p : zLo} {c : Change} (v : Valid p) (f : Fit p c) (s : Nat) (hs : s < p.length) : ((j8 p c).filter (fun h => h.street == (s : Int))).length ≤ 8 := by
 have h := zBC v f (s := s) (by omega) (by omega)
 refine Nat.le_trans ?_ h
 rw [← List.length_map (f := House.plate)]
 have hnd : (((j8 p c).filter (fun h => h.street == (s : Int))).map House.plate).Nodup := by
  rw [List.nodup_iff_pairwise_ne, List.pairwise_map]
  refine ((zBk v f).filter _).imp_of_mem (fun {a b} ha hb' hab e => hab ?_)
  have h1 := (List.mem_filter.1 ha).2
  have h2 := (List.mem_filter.1 hb').2
  simp at h1 h2
  cases a; cases b; simp_all
 refine N2 hnd (fun x hx => ?_)
 obtain ⟨z, hz, rfl⟩ := List.mem_map.1 hx
 obtain ⟨h1, h2⟩ := List.mem_filter.1 hz
 rw [s9, S3 (by omega) (by omega)]
 simp at h2
 rw [← h2]; exact h1
theorem zAq (p : zLo) (c : Change) (v : Valid p) (f : Fit p c) : zLp prog 89 [.fmap (w5 p) (w4 p (mv p c)), iV p.length] [] (x7 (s9 p c)) [] := by
 have hst : ∀ z, z ∈ (q9 p).flatMap (mv p c) → 0 ≤ z.street ∧ z.street < p.length := fun z hz => by have := G5 v f (z := z) hz; omega
 have hlen : ∀ s : Nat, s < p.length → (((q9 p).flatMap (mv p c)).filter (fun h => h.street == (s : Int))).length ≤ 12 := fun s hs => by have := zDz v f s hs; unfold j8 at this; omega
 have hsl : (q9 p).length ≤ 1000 := by have := v.count; omega
 have hgl : ∀ h, h ∈ q9 p → (mv p c h).length ≤ 1000 := fun h _ => by have := zAb f h; omega
 have hnd := zBk v f
 have h0 := v.ne
 have h3 := v.len
 unfold s9 j8
 rcases (by omega : p.length = 1 ∨ p.length = 2 ∨ p.length = 3) with e | e | e <;> rw [e] at hst hlen ⊢
 ·exact zHb _ _ hst hnd hlen hsl hgl
 ·exact zHc _ _ hst hnd hlen hsl hgl
 ·exact zHd _ _ hst hnd hlen hsl hgl
theorem zHy (p : zLo) (c : Change) (hp : p.length ≤ 4294967296) :
  (o4 p c ≠ 0 → zLp prog 88 [x7 p, c.enc] [] (.tup [.raw (.map none), iV (o4 p c)]) []) ∧
  (o4 p c = 0 → zLp prog 88 [x7 p, c.enc] [] (.tup [.mp 0, iV 0]) [.mapo (w5 p) (w4 p (mv p c))]) := by
 by_cases hc : check p = 0
 ·have v := (T1 p).1 hc
  have e : o4 p c = can p c := by simp [o4, hc]
  rw [e]
  obtain ⟨s1, s2⟩ := zAt p c v
  refine ⟨fun h => ?_, fun h => ?_⟩
  ·have s := s1 h
   refine q8 func88 rfl (fun E hE => ?_); simp only [go_sem, ntmps88]
   repeat' (first | (refine Qr rfl ?_; try intro _ hK; try simp only [go_sem, *]) | refine Qh rfl ?_ | (refine Qc rfl rfl ?_ ?_ <;> (intro hb; have hc := hb; try simp only [go_sem] at hc)) | refine q6 rfl ?_ | ((first | refine y4 (Z5 p hp) ?_ | refine y4 (s) ?_); simp only [go_sem, *]) | ((with_reducible apply And.intro); focus omega) | (refine z8 hK ?_; clear hK; simp only [go_sem, *]) | simp only [z6, z7, go_sem, *])
   all_goals (refine ⟨[_, _], [], [], ⟨rfl, rfl, trivial⟩, ?_⟩; simp only [go_sem, *])
  ·have s := s2 h
   refine q8 func88 rfl (fun E hE => ?_); simp only [go_sem, ntmps88]
   repeat' (first | (refine Qr rfl ?_; try intro _ hK; try simp only [go_sem, *]) | refine Qh rfl ?_ | (refine Qc rfl rfl ?_ ?_ <;> (intro hb; have hc := hb; try simp only [go_sem] at hc)) | refine q6 rfl ?_ | (refine y4 (Z5 p hp) ?_; simp only [go_sem, *]) | (refine s8 (s) ?_; simp only [go_sem, *]) | ((with_reducible apply And.intro); focus omega) | (refine z8 hK ?_; clear hK; simp only [go_sem, *]) | simp only [z6, z7, go_sem, *])
   refine ⟨[_, _], [some 2], [], ⟨rfl, rfl, trivial⟩, ?_⟩
   simp only [go_sem]
 ·have e : o4 p c = check p := by simp [o4, hc]
  rw [e]
  refine ⟨fun h => ?_, fun h => absurd h hc⟩
  refine q8 func88 rfl (fun E hE => ?_); simp only [go_sem, ntmps88]
  repeat' (first | (refine Qr rfl ?_; try intro _ hK; try simp only [go_sem, *]) | refine Qh rfl ?_ | (refine Qc rfl rfl ?_ ?_ <;> (intro hb; have hc := hb; try simp only [go_sem] at hc)) | refine q6 rfl ?_ | (refine y4 (Z5 p hp) ?_; simp only [go_sem, *]) | ((with_reducible apply And.intro); focus omega) | (refine z8 hK ?_; clear hK; simp only [go_sem, *]) | simp only [z6, z7, go_sem, *])
  all_goals first | contradiction | (refine ⟨[_, _], [], [], ⟨rfl, rfl, trivial⟩, ?_⟩; simp only [go_sem, *])
theorem o7 {P : Program} {f : FuncId} {avs args : List AV} {H : Nat → AObj} {nx : Nat} {K : Cont} {r : AV} {out : List AObj} {gone : List Nat} (sp : zLp P f args [] r out) (ha : (avs.map fun x => (zLq H 3 x).1) = args) (hg : (avs.map fun x => (zLq H 3 x).2).flatten = gone)
  (hx : XpL (fun o => if o ∈ gone then .dead else H o) [] [] args args) (hu : ∀ j, j < out.length → (if nx + j ∈ gone then AObj.dead else H (nx + j)) = .unb) (h7 : ∀ A, A ∈ out → A ≠ .unb)
  (hk : K (r.ren (v7 [] nx)) (gone ++ i4 [] nx out) (v6 gone ++ r6 [] nx out)) : x8 P f avs H nx K := by
 refine zBL ?_
 rw [ha, hg]
 exact B5 [] [] sp (by simp) hx trivial (by simp) (.inl rfl) (fun j hj => hu j (by simpa using hj)) h7 (by simpa using hk)
theorem zHA (p : zLo) (c : Change) (hp : p.length ≤ 4294967296) :
    zLp prog 25 [x7 p, c.enc] [] (.tup [x7 (if o4 p c = 0 then s9 p c else []), iV (o4 p c)]) [] := by
  obtain ⟨s1, s2⟩ := zHy p c hp
  by_cases e : o4 p c = 0
  · have hc : check p = 0 := by
      unfold o4 at e
      split at e <;> assumption
    have hcan : can p c = 0 := by unfold o4 at e; rw [if_pos hc] at e; exact e
    have v := (T1 p).1 hc
    have f := Fit.of_can hcan
    have s := s2 e
    have sa := zAq p c v f
    rw [if_pos e, e]
    clear s1 s2
    refine q8 func25 rfl (fun E hE => ?_); simp only [go_sem, ntmps25]
    repeat' (first | (refine Qr rfl ?_; try intro _ hK; try simp only [go_sem, *]) | refine Qh rfl ?_ | (refine Qc rfl rfl ?_ ?_ <;> (intro hb; have hc := hb; try simp only [go_sem] at hc)) | refine q6 rfl ?_ | (refine s8 (s) ?_; simp only [go_sem, *]) | ((with_reducible apply And.intro); focus omega) | (refine z8 hK ?_; clear hK; simp only [go_sem, *]) | simp only [z6, z7, go_sem, *])
    refine o7 (gone := [3]) sa (by simp only [go_sem]) (by simp only [go_sem]) (by simp only [go_sem]) (by simp) (by simp) ?_
    simp only [go_sem, v6]
    repeat' (first | (refine Qr rfl ?_; try intro _ hK; try simp only [go_sem, *]) | refine Qh rfl ?_ | (refine Qc rfl rfl ?_ ?_ <;> (intro hb; have hc := hb; try simp only [go_sem] at hc)) | refine q6 rfl ?_ | ((with_reducible apply And.intro); focus omega) | (refine z8 hK ?_; clear hK; simp only [go_sem, *]) | simp only [z6, z7, go_sem, *])
    refine ⟨[x7 (s9 p c), iV 0], [], [], ⟨(by simp only [u1, go_sem]), rfl, trivial⟩, ?_⟩; simp only [go_sem, *]
  · have s := s1 e
    rw [if_neg e]
    clear s1 s2
    refine q8 func25 rfl (fun E hE => ?_); simp only [go_sem, ntmps25]
    repeat' (first | (refine Qr rfl ?_; try intro _ hK; try simp only [go_sem, *]) | refine Qh rfl ?_ | (refine Qc rfl rfl ?_ ?_ <;> (intro hb; have hc := hb; try simp only [go_sem] at hc)) | refine q6 rfl ?_ | (refine y4 (s) ?_; simp only [go_sem, *]) | ((with_reducible apply And.intro); focus omega) | (refine z8 hK ?_; clear hK; simp only [go_sem, *]) | simp only [z6, z7, go_sem, *])
    all_goals try contradiction
    refine ⟨[.agg [zLz], iV (o4 p c)], [], [], ⟨(by simp only [u1, go_sem]), rfl, trivial⟩, ?_⟩; simp only [go_sem, *]
end Go.Abs

namespace Go.Abs
open Go Go.Proofs Tryz
attribute [local irreducible] y6 Hold x8
section
variable {α : Type} {a b : List α} {i : Nat}
theorem W3 (ha : a.length ≤ i) (hl : a.length = b.length) (h : a.take i = b.take i) : a = b := by
 rwa [List.take_of_length_le ha, List.take_of_length_le (by omega)] at h
variable [Inhabited α]
theorem zDS {l : List α} (h : i < l.length) : l.take (i + 1) = l.take i ++ [l.getD i default] := by
 rw [List.take_add_one]; simp [List.getD, h]
theorem W4 (ha : i < a.length) (hb : i < b.length) (h : a.take i = b.take i) (e : a.getD i default = b.getD i default) : a.take (i + 1) = b.take (i + 1) := by
 rw [zDS ha, zDS hb, h, e]
theorem W5 (e : ¬ a.getD i default = b.getD i default) : ¬ a = b := fun h => e (by rw [h])
end
theorem X1 {α : Type} {a b : List α} (h : ¬ a.length = b.length) : ¬ a = b := fun e => h (by rw [e])
theorem zHR (a b : List Plate) (h1 : a.length ≤ 4294967296) : zLp prog 146 [y7 a, y7 b] [] (bV (decide (a = b))) [] := by
 refine q8 func146 rfl (fun E hE => ?_); simp only [go_sem, ntmps146]
 repeat' (first | (refine Qr rfl ?_; try intro _ hK; try simp only [go_sem, *]) | refine Qh rfl ?_ | refine Qd rfl (by kernel_rfl) ?_ | (refine Qc rfl rfl ?_ ?_ <;> (intro hb; have hc := hb; try simp only [go_sem] at hc)) | refine q6 rfl ?_ | (refine Qb ?_ ?_; focus kernel_rfl) | ((with_reducible apply And.intro); focus omega) | (refine z8 hK ?_; clear hK; simp only [go_sem, *]) | simp only [z6, z7, go_sem, *])
 ·(refine ⟨[_], [], [], ⟨rfl, trivial⟩, ?_⟩; simp only [go_sem, *])
  simp [X1 (a := a) (b := b) (by assumption)]
 ·have hlb : a.length = b.length := by assumption
  refine u3 rfl (b.length) (fun i => a.take i = b.take i) 26 (fun i => [(13, iV i), (12, iV b.length), (0, y7 a), (1, y7 b)]) (fun i => []) [] [] (by simp) ?_; intro i hi hP
  repeat' (first | (refine Qr rfl ?_; try intro _ hK; try simp only [go_sem, *]) | refine Qh rfl ?_ | refine Qd rfl (by kernel_rfl) ?_ | (refine Qc rfl rfl ?_ ?_ <;> (intro hb; have hc := hb; try simp only [go_sem] at hc)) | refine q6 rfl ?_ | (refine Qb ?_ ?_; focus kernel_rfl) | ((with_reducible apply And.intro); focus omega) | (refine z8 hK ?_; clear hK; simp only [go_sem, *]) | simp only [z6, z7, go_sem, *])
  ·(refine ⟨[_], [], [], ⟨rfl, trivial⟩, ?_⟩; simp only [go_sem, *])
   simp [W5 (a := a) (b := b) (i := i) (by assumption)]
  ·exact u2 (i' := i + 1) [] [] (by exact W4 (by omega) (by omega) hP (by assumption))
  ·(refine ⟨[_], [], [], ⟨rfl, trivial⟩, ?_⟩; simp only [go_sem, *])
   simp [W3 (by omega) hlb hP]
theorem zHP (a b : zLo) (h1 : a.length ≤ 4294967296) (hrl : ∀ l, l ∈ a → l.length ≤ 4294967296) : zLp prog 145 [.list (a.map y7), .list (b.map y7), fnV 146] [] (bV (decide (a = b))) [] := by
 have hca : p9 prog 146 = true := by kernel_rfl
 refine q8 func145 rfl (fun E hE => ?_); simp only [go_sem, ntmps145]
 repeat' (first | (refine Qr rfl ?_; try intro _ hK; try simp only [go_sem, *]) | refine Qh rfl ?_ | (refine Qc rfl rfl ?_ ?_ <;> (intro hb; have hc := hb; try simp only [go_sem] at hc)) | refine q6 rfl ?_ | ((with_reducible apply And.intro); focus omega) | (refine z8 hK ?_; clear hK; simp only [go_sem, *]) | simp only [z6, z7, go_sem, *])
 ·(refine ⟨[_], [], [], ⟨rfl, trivial⟩, ?_⟩; simp only [go_sem, *])
  simp [X1 (a := a) (b := b) (by assumption)]
 ·have hlb : a.length = b.length := by assumption
  refine u3 rfl (b.length) (fun i => a.take i = b.take i) 32 (fun i => [(17, iV i), (16, iV b.length), (15, .list (a.map y7)), (1, .list (b.map y7)), (2, fnV 146)]) (fun i => []) [] [] (by simp) ?_; intro i hi hP
  repeat' (first | (refine Qr rfl ?_; try intro _ hK; try simp only [go_sem, *]) | refine Qh rfl ?_ | (refine Qc rfl rfl ?_ ?_ <;> (intro hb; have hc := hb; try simp only [go_sem] at hc)) | refine q6 rfl ?_ | (refine y4 (zHR (List.getD a i default) (List.getD b i default) (hrl _ (w8 (by omega)))) ?_; simp only [go_sem, *]) | ((with_reducible apply And.intro); focus omega) | (refine z8 hK ?_; clear hK; simp only [go_sem, *]) | simp only [z6, z7, go_sem, *])
  ·(refine ⟨[_], [], [], ⟨rfl, trivial⟩, ?_⟩; simp only [go_sem, *])
   simp [W5 (a := a) (b := b) (i := i) (by assumption)]
  ·exact u2 (i' := i + 1) [] [] (by exact W4 (by omega) (by omega) hP (by assumption))
  ·(refine ⟨[_], [], [], ⟨rfl, trivial⟩, ?_⟩; simp only [go_sem, *])
   simp [W3 (by omega) hlb hP]
theorem zH3 (a b : zLo) (h1 : a.length ≤ 4294967296) (hrl : ∀ l, l ∈ a → l.length ≤ 4294967296) : zLp prog 111 [x7 a, x7 b] [] (bV (decide (a = b))) [] := by
 refine q8 func111 rfl (fun E hE => ?_); simp only [go_sem, ntmps111]
 repeat' (first | (refine Qr rfl ?_; try intro _ hK; try simp only [go_sem, *]) | refine Qh rfl ?_ | (refine Qc rfl rfl ?_ ?_ <;> (intro hb; have hc := hb; try simp only [go_sem] at hc)) | refine q6 rfl ?_ | (refine y4 (zHP a b h1 hrl) ?_; simp only [go_sem, *]) | ((with_reducible apply And.intro); focus omega) | (refine z8 hK ?_; clear hK; simp only [go_sem, *]) | simp only [z6, z7, go_sem, *])
 all_goals (refine ⟨[_], [], [], ⟨rfl, trivial⟩, ?_⟩; simp only [go_sem, *])
end Go.Abs

namespace Go.Abs
open Go Go.Proofs Tryz
attribute [local irreducible] y6 Hold x8
def j9 (kind : Int) (p : zLo) (s : Nat) : List Change :=
 if kind = 4 then ((List.range p.length).filter (fun o => decide (o ≠ s))).map fun o => ⟨4, s, (o : Nat), zeroPlate, zeroPlate⟩
 else if kind = 5 ∨ kind = 6 then (p.getD s default).map fun x => ⟨kind, s, 0, x, zeroPlate⟩
 else [⟨kind, s, 0, zeroPlate, zeroPlate⟩]
def l9 (kind : Int) (p : zLo) (s : Nat) : List Change := (List.range' s (p.length - s)).flatMap (j9 kind p)
def k8 : Nat → zLo → List Change
 | 0, _ => []
 | m + 1, p => l9 (6 - (m : Nat)) p 0 ++ k8 m p
def s7 (p : zLo) : List Change := k8 6 p
theorem zFW {kind : Int} {p : zLo} {s : Nat} (h : s < p.length) : l9 kind p s = j9 kind p s ++ l9 kind p (s + 1) := by
 unfold l9
 rw [show p.length - s = (p.length - (s + 1)) + 1 by omega, List.range'_succ, List.flatMap_cons]
theorem zFU {kind : Int} {p : zLo} {s : Nat} (h : p.length ≤ s) : l9 kind p s = [] := by
 unfold l9
 rw [show p.length - s = 0 by omega]; rfl
theorem zFT {kind : Int} {p : zLo} (v : Valid p) (s : Nat) : (j9 kind p s).length ≤ 8 := by
 unfold j9
 have := v.len
 have h := (v.row s).len
 unfold q7 at h
 split
 ·simp only [List.length_map]
  have := List.length_filter_le (fun o => decide (o ≠ s)) (List.range p.length)
  simp at this ⊢; omega
 ·split
  ·simpa using h
  ·simp
theorem zFV {kind : Int} {p : zLo} (v : Valid p) (s : Nat) : (l9 kind p s).length ≤ 24 := by
 have key : ∀ n s, ((List.range' s n).flatMap (j9 kind p)).length ≤ n * 8 := by
  intro n
  induction n with
  | zero => intro s; simp
  | succ n ih => intro s; have := ih (s + 1); have := zFT (kind := kind) v s; simp only [List.range'_succ, List.flatMap_cons, List.length_append]; omega
 have := key (p.length - s) s
 have := v.len
 unfold l9; omega
theorem zAF {p : zLo} (v : Valid p) : ∀ m, (k8 m p).length ≤ m * 24
 | 0 => by simp [k8]
 | m + 1 => by
  have := zAF v m
  have := zFV (kind := 6 - (m : Nat)) v 0
  simp only [k8, List.length_append]; omega
def a8 (p : zLo) (s o : Nat) : List Change := ((List.range' o (p.length - o)).filter (fun o => decide (o ≠ s))).map fun o => ⟨4, s, (o : Nat), zeroPlate, zeroPlate⟩
theorem zFS {p : zLo} {s : Nat} : j9 4 p s = a8 p s 0 := by simp [j9, a8, List.range_eq_range']
theorem zF4 {p : zLo} {s o : Nat} (h : o < p.length) (e : o ≠ s) : a8 p s o = ⟨4, s, o, zeroPlate, zeroPlate⟩ :: a8 p s (o + 1) := by
 unfold a8
 rw [show p.length - o = (p.length - (o + 1)) + 1 by omega, List.range'_succ, List.filter_cons, if_pos (by simpa using e), List.map_cons]
theorem zF5 {p : zLo} {s o : Nat} (h : o < p.length) (e : o = s) : a8 p s o = a8 p s (o + 1) := by
 unfold a8
 rw [show p.length - o = (p.length - (o + 1)) + 1 by omega, List.range'_succ, List.filter_cons, if_neg (by simpa using e)]
theorem zF3 {p : zLo} {s o : Nat} (h : p.length ≤ o) : a8 p s o = [] := by
 unfold a8
 rw [show p.length - o = 0 by omega]; rfl
theorem zFP {kind : Int} {p : zLo} {s : Nat} (h4 : ¬ kind = 4) (h : kind = 5 ∨ kind = 6) : j9 kind p s = (p.getD s default).map fun x => ⟨kind, s, 0, x, zeroPlate⟩ := by
 unfold j9; rw [if_neg h4, if_pos h]
theorem zFQ {kind : Int} {p : zLo} {s : Nat} (h4 : ¬ kind = 4) (h : ¬ (kind = 5 ∨ kind = 6)) : j9 kind p s = [⟨kind, s, 0, zeroPlate, zeroPlate⟩] := by
 unfold j9; rw [if_neg h4, if_neg h]
theorem zHn (p : zLo) (v : Valid p) : zLp prog 131 [x7 p] [] (.list ((s7 p).map Change.enc)) [] := by
 have hp3 := v.len
 have hgl := zAF v 6
 refine q8 func131 rfl (fun E hE => ?_); simp only [go_sem, ntmps131]
 repeat' (first | (refine Qr rfl ?_; try intro _ hK; try simp only [go_sem, *]) | refine Qh rfl ?_ | (refine Qc rfl rfl ?_ ?_ <;> (intro hb; have hc := hb; try simp only [go_sem] at hc)) | refine q6 rfl ?_ | ((with_reducible apply And.intro); focus omega) | (refine z8 hK ?_; clear hK; simp only [go_sem, *]) | simp only [z6, z7, go_sem, *])
 refine u4 rfl (6) (fun m (acc : List Change) => acc ++ k8 (6 - m) p = s7 p) 67 (fun m acc => [(4, iV ((m : Int) + 1)), (3, .own 1 7 0 acc.length), (1, .ptr 0 0)]) (fun m acc => [zL3 p, .row 7 (acc.map Change.enc)]) [some 0, none] [] ([]) (by rfl) ?_; intro m acc hm hP
 have hw : m < 6 → IntKind.i64.wrap ((m : Int) + 1 + 1) = (((m + 1 : Nat) : Int) + 1) := fun h => by rw [wrap_i64 (by omega) (by omega)]; omega
 have hm6 : ((m : Int) + 1 ≤ 6) = (m < 6) := by simp only [eq_iff_iff]; omega
 repeat' (first | (refine Qr rfl ?_; try intro _ hK; try simp only [go_sem, *]) | refine Qh rfl ?_ | (refine Qc rfl rfl ?_ ?_ <;> (intro hb; have hc := hb; try simp only [go_sem] at hc)) | refine q6 rfl ?_ | ((with_reducible apply And.intro); focus omega) | (refine z8 hK ?_; clear hK; simp only [go_sem, *]) | simp only [z6, z7, go_sem, *])
 ·have hm : m < 6 := by assumption
  obtain ⟨kk, hkk⟩ : ∃ kk : Int, kk = (m : Int) + 1 := ⟨_, rfl⟩
  have hstep : k8 (6 - m) p = l9 kk p 0 ++ k8 (6 - (m + 1)) p := by
   rw [show 6 - m = (6 - (m + 1)) + 1 by omega, k8, hkk]
   congr 2
   omega
  rw [hstep] at hP
  have hw2 : IntKind.i64.wrap (kk + 1) = ((m + 1 : Nat) : Int) + 1 := by rw [hkk, hw hm]
  clear hw
  rw [← hkk] at *
  clear hstep
  refine u4 rfl (p.length) (fun s (acc : List Change) => acc ++ (l9 kk p s ++ k8 (6 - (m + 1)) p) = s7 p) 67 (fun s acc => [(17, iV s), (16, iV p.length), (15, .list (p.map y7)), (4, iV kk), (3, .own 1 7 0 acc.length), (1, .ptr 0 0)]) (fun s acc => [zL3 p, .row 7 (acc.map Change.enc)]) [some 0, some 1] [] (acc) (by exact hP) ?_; intro s acc hs hQ
  clear hP
  have hqle := congrArg List.length hQ
  simp only [List.length_append] at hqle
  unfold s7 at hqle
  by_cases hs : s < p.length
  ·rw [zFW hs] at hQ
   have hrow : (p.getD s default).length ≤ 8 := (v.rows _ (w8 hs)).len
   by_cases k4 : kk = 4
   ·subst k4
    rw [zFS] at hQ
    repeat' (first | (refine Qr rfl ?_; try intro _ hK; try simp only [go_sem, *]) | refine Qh rfl ?_ | (refine Qc rfl rfl ?_ ?_ <;> (intro hb; have hc := hb; try simp only [go_sem] at hc)) | refine q6 rfl ?_ | ((with_reducible apply And.intro); focus omega) | (refine z8 hK ?_; clear hK; simp only [go_sem, *]) | simp only [z6, z7, go_sem, *])
    refine u4 rfl (p.length) (fun o (acc : List Change) => acc ++ (a8 p s o ++ l9 4 p (s + 1)) ++ k8 (6 - (m + 1)) p = s7 p) 67 (fun o acc => [(34, iV o), (33, iV p.length), (5, iV s), (17, iV s), (16, iV p.length), (15, .list (p.map y7)), (4, iV 4), (3, .own 1 7 0 acc.length), (1, .ptr 0 0)]) (fun o acc => [zL3 p, .row 7 (acc.map Change.enc)]) [some 0, some 1] [] (acc) (by simpa using hQ) ?_; intro o acc ho hR
    clear hQ hqle
    have hqle := congrArg List.length hR
    simp only [List.length_append] at hqle
    unfold s7 at hqle
    repeat' (first | (refine Qr rfl ?_; try intro _ hK; try simp only [go_sem, *]) | refine Qh rfl ?_ | (refine Qc rfl rfl ?_ ?_ <;> (intro hb; have hc := hb; try simp only [go_sem] at hc)) | refine q6 rfl ?_ | ((with_reducible apply And.intro); focus omega) | (refine z8 hK ?_; clear hK; simp only [go_sem, *]) | simp only [z6, z7, go_sem, *])
    ·exact w6 (i' := o + 1) [some 0, some 3] [] (acc ++ [⟨4, s, o, zeroPlate, zeroPlate⟩]) (by rw [← hR, zF4 (o := o) (by assumption) (by omega)]; simp)
    ·exact w6 (i' := o + 1) [some 0, some 1] [] (acc) (by rw [← hR, zF5 (o := o) (by assumption) (by omega)])
    ·rw [zF3 (by omega), List.nil_append] at hR
     exact w6 (i' := s + 1) [some 0, some 1] [] (acc) (by simpa using hR)
   ·by_cases k5 : kk = 5 ∨ kk = 6
    ·rw [zFP k4 k5] at hQ
     generalize hll : p.getD s default = l at *
     have hd : (kk == 4) = false := by simpa using k4
     rcases k5 with k5 | k5
     ·have h5 : (kk == 5) = true := by simp [k5]
      clear k5
      repeat' (first | (refine Qr rfl ?_; try intro _ hK; try simp only [go_sem, *]) | refine Qh rfl ?_ | (refine Qc rfl rfl ?_ ?_ <;> (intro hb; have hc := hb; try simp only [go_sem] at hc)) | refine q6 rfl ?_ | ((with_reducible apply And.intro); focus omega) | (refine z8 hK ?_; clear hK; simp only [go_sem, *]) | simp only [z6, z7, go_sem, *])
      refine u4 rfl (l.length) (fun o (acc : List Change) => acc ++ ((l.drop o).map (fun x => (⟨kk, s, 0, x, zeroPlate⟩ : Change)) ++ l9 kk p (s + 1)) ++ k8 (6 - (m + 1)) p = s7 p) 67 (fun o acc => [(53, iV o), (52, iV l.length), (51, y7 l), (5, iV s), (17, iV s), (16, iV p.length), (15, .list (p.map y7)), (4, iV kk), (3, .own 1 7 0 acc.length), (1, .ptr 0 0)]) (fun o acc => [zL3 p, .row 7 (acc.map Change.enc)]) [some 0, some 1] [] (acc) (by simpa using hQ) ?_; intro o acc ho hR
      clear hQ hqle
      have hqle := congrArg List.length hR
      simp only [List.length_append] at hqle
      unfold s7 at hqle
      repeat' (first | (refine Qr rfl ?_; try intro _ hK; try simp only [go_sem, *]) | refine Qh rfl ?_ | (refine Qc rfl rfl ?_ ?_ <;> (intro hb; have hc := hb; try simp only [go_sem] at hc)) | refine q6 rfl ?_ | ((with_reducible apply And.intro); focus omega) | (refine z8 hK ?_; clear hK; simp only [go_sem, *]) | simp only [z6, z7, go_sem, *])
      ·have ed : l.drop o = l.getD o default :: l.drop (o + 1) := u0 (by assumption)
       exact w6 (i' := o + 1) [some 0, some 4] [] (acc ++ [⟨kk, s, 0, l.getD o default, zeroPlate⟩]) (by rw [← hR, ed]; simp)
      ·rw [u7 (by omega), List.map_nil, List.nil_append] at hR
       exact w6 (i' := s + 1) [some 0, some 1] [] (acc) (by simpa using hR)
     ·have h5 : (kk == 5) = false := by simp [k5]
      have h6 : (kk == 6) = true := by simp [k5]
      clear k5
      repeat' (first | (refine Qr rfl ?_; try intro _ hK; try simp only [go_sem, *]) | refine Qh rfl ?_ | (refine Qc rfl rfl ?_ ?_ <;> (intro hb; have hc := hb; try simp only [go_sem] at hc)) | refine q6 rfl ?_ | ((with_reducible apply And.intro); focus omega) | (refine z8 hK ?_; clear hK; simp only [go_sem, *]) | simp only [z6, z7, go_sem, *])
      refine u4 rfl (l.length) (fun o (acc : List Change) => acc ++ ((l.drop o).map (fun x => (⟨kk, s, 0, x, zeroPlate⟩ : Change)) ++ l9 kk p (s + 1)) ++ k8 (6 - (m + 1)) p = s7 p) 67 (fun o acc => [(53, iV o), (52, iV l.length), (51, y7 l), (5, iV s), (17, iV s), (16, iV p.length), (15, .list (p.map y7)), (4, iV kk), (3, .own 1 7 0 acc.length), (1, .ptr 0 0)]) (fun o acc => [zL3 p, .row 7 (acc.map Change.enc)]) [some 0, some 1] [] (acc) (by simpa using hQ) ?_; intro o acc ho hR
      clear hQ hqle
      have hqle := congrArg List.length hR
      simp only [List.length_append] at hqle
      unfold s7 at hqle
      repeat' (first | (refine Qr rfl ?_; try intro _ hK; try simp only [go_sem, *]) | refine Qh rfl ?_ | (refine Qc rfl rfl ?_ ?_ <;> (intro hb; have hc := hb; try simp only [go_sem] at hc)) | refine q6 rfl ?_ | ((with_reducible apply And.intro); focus omega) | (refine z8 hK ?_; clear hK; simp only [go_sem, *]) | simp only [z6, z7, go_sem, *])
      ·have ed : l.drop o = l.getD o default :: l.drop (o + 1) := u0 (by assumption)
       exact w6 (i' := o + 1) [some 0, some 4] [] (acc ++ [⟨kk, s, 0, l.getD o default, zeroPlate⟩]) (by rw [← hR, ed]; simp)
      ·rw [u7 (by omega), List.map_nil, List.nil_append] at hR
       exact w6 (i' := s + 1) [some 0, some 1] [] (acc) (by simpa using hR)
    ·rw [zFQ k4 k5] at hQ
     have h4 : (kk == 4) = false := by simpa using k4
     have h5 : (kk == 5) = false := by simp only [not_or] at k5; simpa using k5.1
     have h6 : (kk == 6) = false := by simp only [not_or] at k5; simpa using k5.2
     repeat' (first | (refine Qr rfl ?_; try intro _ hK; try simp only [go_sem, *]) | refine Qh rfl ?_ | (refine Qc rfl rfl ?_ ?_ <;> (intro hb; have hc := hb; try simp only [go_sem] at hc)) | refine q6 rfl ?_ | ((with_reducible apply And.intro); focus omega) | (refine z8 hK ?_; clear hK; simp only [go_sem, *]) | simp only [z6, z7, go_sem, *])
     exact w6 (i' := s + 1) [some 0, some 3] [] (acc ++ [⟨kk, s, 0, zeroPlate, zeroPlate⟩]) (by simpa using hQ)
  ·repeat' (first | (refine Qr rfl ?_; try intro _ hK; try simp only [go_sem, *]) | refine Qh rfl ?_ | (refine Qc rfl rfl ?_ ?_ <;> (intro hb; have hc := hb; try simp only [go_sem] at hc)) | refine q6 rfl ?_ | ((with_reducible apply And.intro); focus omega) | (refine z8 hK ?_; clear hK; simp only [go_sem, *]) | simp only [z6, z7, go_sem, *])
   rw [zFU (by omega), List.nil_append] at hQ
   exact w6 (i' := m + 1) [some 0, some 1] [] (acc) (by exact hQ)
 ·refine ⟨[_], [], [1], ⟨rfl, trivial⟩, ?_⟩
  have h6 : 6 - m = 0 := by omega
  rw [h6] at hP
  simp only [k8, List.append_nil] at hP
  simp only [go_sem, hP, *]
  simp
end Go.Abs

namespace Go.Abs
open Go Go.Proofs Tryz
attribute [local irreducible] y6 Hold x8
theorem H9 {α β : Type} (f : α → List β) (p : β → Bool) : ∀ l : List α, (l.flatMap f).filter p = l.flatMap fun a => (f a).filter p
 | [] => rfl
 | a :: r => by simp only [List.flatMap_cons, List.filter_append, H9 f p r]
theorem G4 {α β : Type} {f g : α → List β} : ∀ {l : List α}, (∀ a, a ∈ l → f a = g a) → l.flatMap f = l.flatMap g
 | [], _ => rfl
 | a :: r, h => by
  have e1 := h a (by simp)
  have e2 := G4 (l := r) (fun b hb => h b (by simp [hb]))
  rw [List.flatMap_cons, List.flatMap_cons, e1, e2]
theorem zD7 {p : zLo} {s : Int} : can p ⟨4, s, s, zeroPlate, zeroPlate⟩ ≠ 0 := by
 unfold can
 simp only
 split
 ·omega
 split
 ·omega
 split
 ·omega
 rw [if_pos (by simp)]; omega
theorem zFR (kind : Int) (p : zLo) (s : Nat) : (j9 kind p s).filter (fun c => decide (can p c = 0)) = (B8 kind p s).filter (fun c => decide (can p c = 0)) := by
 unfold j9 B8
 split
 ·rw [List.filter_map, List.filter_map, List.filter_filter]
  congr 1
  refine List.filter_congr (fun o _ => ?_)
  simp only [Function.comp]
  by_cases e : o = s
  ·subst e
   have := @zD7 p (o : Int)
   simp [this]
  ·simp [e]
 ·rfl
theorem zFX (p : zLo) : s7 p = ([1, 2, 3, 4, 5, 6] : List Int).flatMap fun k => l9 k p 0 := by
 simp [s7, k8]
theorem zEB (p : zLo) : B9 p = (s7 p).filter (fun c => decide (can p c = 0)) := by
 rw [zFX, H9]
 unfold B9
 refine G4 (fun k _ => ?_)
 unfold l9
 rw [H9, Nat.sub_zero, ← List.range_eq_range']
 exact G4 (fun s _ => (zFR k p s).symm)
theorem zBd {α β : Type} {f : α → Option β} : ∀ {l : List α} {b : β}, l3 f l = some b → ∃ a, a ∈ l ∧ f a = some b
 | [], _, h => by simp [l3] at h
 | a :: r, b, h => by
  rw [l3] at h
  cases e : f a with
  | some x => rw [e] at h; simp only [Option.some.injEq] at h; subst h; exact ⟨a, by simp, e⟩
  | none =>
   rw [e] at h
   obtain ⟨c, hc1, hc2⟩ := zBd h
   exact ⟨c, by simp [hc1], hc2⟩
theorem zBw : ∀ {n : Nat} {p q : zLo} {l : List Change}, r7 n p q = some l → l.length ≤ n
 | 0, p, q, l, h => by
  unfold r7 at h
  split at h
  ·simp at h; subst h; simp
  ·simp at h
 | n + 1, p, q, l, h => by
  rw [r7] at h
  obtain ⟨c, _, h2⟩ := zBd h
  cases e : r7 n (s9 p c) q with
  | none => rw [e] at h2; simp at h2
  | some r =>
   rw [e] at h2
   simp at h2
   subst h2
   have := zBw e
   simp; omega
def zMb (o : Option (List Change)) : List Change := o.getD []
@[go_sem] theorem zK2 (l : List Change) : zMb (some l) = l := rfl
@[go_sem] theorem zK1 : zMb none = [] := rfl
theorem zC6 : ∀ (n : Nat), n ≤ 2 → ∀ (p q : zLo), Valid p → zLp prog 96 [x7 p, x7 q, iV n] [] (.tup [.list ((zMb (r7 n p q)).map Change.enc), bV (r7 n p q).isSome]) []
 | 0, _, p, q, v => by
  have e1 : (r7 0 p q).isSome = decide (p = q) := by unfold r7; split <;> simp [*]
  have e2 : zMb (r7 0 p q) = [] := by unfold r7; split <;> rfl
  refine q8 func96 rfl (fun E hE => ?_); simp only [go_sem, ntmps96]
  repeat' (first | (refine Qr rfl ?_; try intro _ hK; try simp only [go_sem, *]) | refine Qh rfl ?_ | refine Qd rfl (by kernel_rfl) ?_ | (refine Qc rfl rfl ?_ ?_ <;> (intro hb; have hc := hb; try simp only [go_sem] at hc)) | refine q6 rfl ?_ | (refine Qb ?_ ?_; focus kernel_rfl) | (refine y4 (zH3 p q (by have := v.len; omega) (fun l hl => by have := (v.rows l hl).len; omega)) ?_; simp only [go_sem, *]) | ((with_reducible apply And.intro); focus omega) | (refine z8 hK ?_; clear hK; simp only [go_sem, *]) | simp only [z6, z7, go_sem, *])
  (refine ⟨[_, _], [], [], ⟨rfl, rfl, trivial⟩, ?_⟩; simp only [go_sem, *])
 | n + 1, hn, p, q, v => by
  have IH := zC6 n (by omega)
  have hw : IntKind.i64.wrap (((n + 1 : Nat) : Int) - 1) = (n : Int) := by rw [wrap_i64 (by omega) (by omega)]; omega
  have hn0 : (((n + 1 : Nat) : Int) == 0) = false := by simp; omega
  have hgl := zAF v 6
  have hglL : (s7 p).length ≤ 144 := hgl
  have hG : r7 (n + 1) p q = l3 (fun c => (r7 n (s9 p c) q).map (c :: ·)) ((s7 p).filter (fun c => decide (can p c = 0))) := by
   rw [r7, zEB]
  obtain ⟨G, hGe⟩ : ∃ G, G = r7 (n + 1) p q := ⟨_, rfl⟩
  rw [← hGe] at hG ⊢
  clear hGe
  have hG0 : l3 (fun c => (r7 n (s9 p c) q).map (c :: ·)) (((s7 p).drop 0).filter (fun c => decide (can p c = 0))) = G := hG.symm
  clear hG
  refine q8 func96 rfl (fun E hE => ?_); simp only [go_sem, ntmps96]
  repeat' (first | (refine Qr rfl ?_; try intro _ hK; try simp only [go_sem, *]) | refine Qh rfl ?_ | refine Qd rfl (by kernel_rfl) ?_ | (refine Qc rfl rfl ?_ ?_ <;> (intro hb; have hc := hb; try simp only [go_sem] at hc)) | refine q6 rfl ?_ | (refine Qb ?_ ?_; focus kernel_rfl) | (refine y4 (zHn p v) ?_; simp only [go_sem, *]) | ((with_reducible apply And.intro); focus omega) | (refine z8 hK ?_; clear hK; simp only [go_sem, *]) | simp only [z6, z7, go_sem, *])
  refine u3 rfl ((s7 p).length) (fun i => l3 (fun c => (r7 n (s9 p c) q).map (c :: ·)) (((s7 p).drop i).filter (fun c => decide (can p c = 0))) = G) 52 (fun i => [(22, iV i), (21, iV (s7 p).length), (20, .list ((s7 p).map Change.enc)), (2, iV (n + 1 : Nat)), (3, .ptr 0 0), (4, .ptr 1 0)]) (fun i => [zL3 p, zL3 q]) [some 0, some 1] [] (by exact hG0) ?_; intro i hi hP
  by_cases hi2 : i < (s7 p).length
  ·obtain ⟨s1, s2⟩ := zAt p ((s7 p).getD i default) v
   rw [u0 hi2] at hP
   by_cases hcan : can p ((s7 p).getD i default) = 0
   ·have s := s2 hcan
    have f := Fit.of_can hcan
    have sa := zAq p _ v f
    have sr := IH (s9 p ((s7 p).getD i default)) q (zDW v f)
    rw [List.filter_cons, if_pos (by simpa using hcan)] at hP
    clear s1 s2 hcan IH
    repeat' (first | (refine Qr rfl ?_; try intro _ hK; try simp only [go_sem, *]) | refine Qh rfl ?_ | refine Qd rfl (by kernel_rfl) ?_ | (refine Qc rfl rfl ?_ ?_ <;> (intro hb; have hc := hb; try simp only [go_sem] at hc)) | refine q6 rfl ?_ | (refine Qb ?_ ?_; focus kernel_rfl) | (refine s8 (s) ?_; simp only [go_sem, *]) | ((with_reducible apply And.intro); focus omega) | (refine z8 hK ?_; clear hK; simp only [go_sem, *]) | simp only [z6, z7, go_sem, *])
    refine o7 (gone := [3]) sa (by simp only [go_sem]) (by simp only [go_sem]) (by simp only [go_sem]) (by simp) (by simp) ?_
    simp only [go_sem, v6]
    cases hgn : r7 n (s9 p ((s7 p).getD i default)) q with
    | none =>
     rw [hgn] at sr
     rw [l3, hgn] at hP
     simp only [Option.map_none] at hP
     repeat' (first | (refine Qr rfl ?_; try intro _ hK; try simp only [go_sem, *]) | refine Qh rfl ?_ | refine Qd rfl (by kernel_rfl) ?_ | (refine Qc rfl rfl ?_ ?_ <;> (intro hb; have hc := hb; try simp only [go_sem] at hc)) | refine q6 rfl ?_ | (refine Qb ?_ ?_; focus kernel_rfl) | (refine y4 (sr) ?_; simp only [go_sem, *]) | ((with_reducible apply And.intro); focus omega) | (refine z8 hK ?_; clear hK; simp only [go_sem, *]) | simp only [z6, z7, go_sem, *])
     all_goals try contradiction
     exact u2 (i' := i + 1) [some 0, some 1] [] (by exact hP)
    | some l =>
     rw [hgn] at sr
     rw [l3, hgn] at hP
     simp only [Option.map_some] at hP
     have hll := zBw hgn
     subst hP
     repeat' (first | (refine Qr rfl ?_; try intro _ hK; try simp only [go_sem, *]) | refine Qh rfl ?_ | refine Qd rfl (by kernel_rfl) ?_ | (refine Qc rfl rfl ?_ ?_ <;> (intro hb; have hc := hb; try simp only [go_sem] at hc)) | refine q6 rfl ?_ | (refine Qb ?_ ?_; focus kernel_rfl) | (refine y4 (sr) ?_; simp only [go_sem, *]) | ((with_reducible apply And.intro); focus omega) | (refine z8 hK ?_; clear hK; simp only [go_sem, *]) | simp only [z6, z7, go_sem, *])
     all_goals try contradiction
     refine ⟨fun y hy => ?_, fun y hy => ?_, by omega, Nat.le_trans (by omega) (by decide : 3 ≤ 9223372036854775807), ?_⟩
     ·obtain ⟨c, _, rfl⟩ := List.mem_map.1 hy
      simp [Change.enc, go_sem]
     ·obtain ⟨c, _, rfl⟩ := List.mem_map.1 hy
      simp [Change.enc, go_sem]
     ·repeat' (first | (refine Qr rfl ?_; try intro _ hK; try simp only [go_sem, *]) | refine Qh rfl ?_ | refine Qd rfl (by kernel_rfl) ?_ | (refine Qc rfl rfl ?_ ?_ <;> (intro hb; have hc := hb; try simp only [go_sem] at hc)) | refine q6 rfl ?_ | (refine Qb ?_ ?_; focus kernel_rfl) | ((with_reducible apply And.intro); focus omega) | (refine z8 hK ?_; clear hK; simp only [go_sem, *]) | simp only [z6, z7, go_sem, *])
      refine ⟨[_, _], [], [5], ⟨rfl, rfl, trivial⟩, ?_⟩
      simp only [go_sem, *]
      simp [Nat.add_comm, Change.enc, List.take_of_length_le]
   ·have s := s1 hcan
    rw [List.filter_cons, if_neg (by simpa using hcan)] at hP
    clear s1 s2 IH
    repeat' (first | (refine Qr rfl ?_; try intro _ hK; try simp only [go_sem, *]) | refine Qh rfl ?_ | refine Qd rfl (by kernel_rfl) ?_ | (refine Qc rfl rfl ?_ ?_ <;> (intro hb; have hc := hb; try simp only [go_sem] at hc)) | refine q6 rfl ?_ | (refine Qb ?_ ?_; focus kernel_rfl) | (refine y4 (s) ?_; simp only [go_sem, *]) | ((with_reducible apply And.intro); focus omega) | (refine z8 hK ?_; clear hK; simp only [go_sem, *]) | simp only [z6, z7, go_sem, *])
    all_goals try contradiction
    exact u2 (i' := i + 1) [some 0, some 1] [] (by exact hP)
  ·rw [u7 (by omega), List.filter_nil, l3] at hP
   subst hP
   repeat' (first | (refine Qr rfl ?_; try intro _ hK; try simp only [go_sem, *]) | refine Qh rfl ?_ | refine Qd rfl (by kernel_rfl) ?_ | (refine Qc rfl rfl ?_ ?_ <;> (intro hb; have hc := hb; try simp only [go_sem] at hc)) | refine q6 rfl ?_ | (refine Qb ?_ ?_; focus kernel_rfl) | ((with_reducible apply And.intro); focus omega) | (refine z8 hK ?_; clear hK; simp only [go_sem, *]) | simp only [z6, z7, go_sem, *])
   (refine ⟨[_, _], [], [], ⟨rfl, rfl, trivial⟩, ?_⟩; simp only [go_sem, *])
   all_goals simp
def a7 (p q : zLo) : Int :=
 if check p = 0 then if check q = 0 then if p.length = q.length then if (O0 p q).isSome then 0 else 11 else 11 else check q else check p
theorem zHT (p q : zLo) (h1 : check p = 0) (h2 : check q = 0) (h3 : p.length = q.length) (G : Option (List Change)) (hG : l3 (fun n => r7 n p q) ([0, 1, 2].drop 0) = G) :
  zLp prog 31 [x7 p, x7 q] [] (.tup [.list ((zMb G).map Change.enc), iV (if G.isSome = true then 0 else 11)]) [] := by
 have v := (T1 p).1 h1
 have w := (T1 q).1 h2
 have s1 := Z5 p (by have := v.len; omega)
 have s2 := Z5 q (by have := w.len; omega)
 have s3 := fun n hn => zC6 n hn p q v
 rw [h1] at s1
 rw [h2] at s2
 clear h1 h2 w
 refine q8 func31 rfl (fun E hE => ?_); simp only [go_sem, ntmps31]
 repeat' (first | (refine Qr rfl ?_; try intro _ hK; try simp only [go_sem, *]) | refine Qh rfl ?_ | (refine Qc rfl rfl ?_ ?_ <;> (intro hb; have hc := hb; try simp only [go_sem] at hc)) | refine q6 rfl ?_ | ((first | refine y4 (s1) ?_ | refine y4 (s2) ?_); simp only [go_sem, *]) | ((with_reducible apply And.intro); focus omega) | (refine z8 hK ?_; clear hK; simp only [go_sem, *]) | simp only [z6, z7, go_sem, *])
 refine u3 rfl (3) (fun i => l3 (fun n => r7 n p q) ([0, 1, 2].drop i) = G) 41 (fun i => [(28, iV i), (2, .ptr 0 0), (3, .ptr 1 0)]) (fun i => [zL3 p, zL3 q]) [some 0, some 1] [] (by exact hG) ?_; intro i hi hP
 by_cases hi2 : i < 3
 ·have s := s3 i (by omega)
  have hi3 : (i : Int) < 3 := by omega
  have hd : ([0, 1, 2] : List Nat).drop i = i :: [0, 1, 2].drop (i + 1) := by
   match i, hi2 with
   | 0, _ => rfl
   | 1, _ => rfl
   | 2, _ => rfl
  rw [hd, l3] at hP
  cases hgn : r7 i p q with
  | none =>
   rw [hgn] at s hP
   simp only at hP
   repeat' (first | (refine Qr rfl ?_; try intro _ hK; try simp only [go_sem, *]) | refine Qh rfl ?_ | (refine Qc rfl rfl ?_ ?_ <;> (intro hb; have hc := hb; try simp only [go_sem] at hc)) | refine q6 rfl ?_ | (refine y4 (s) ?_; simp only [go_sem, *]) | ((with_reducible apply And.intro); focus omega) | (refine z8 hK ?_; clear hK; simp only [go_sem, *]) | simp only [z6, z7, go_sem, *])
   all_goals try contradiction
   exact u2 (i' := i + 1) [some 0, some 1] [] (by exact hP)
  | some l =>
   rw [hgn] at s hP
   simp only at hP
   subst hP
   repeat' (first | (refine Qr rfl ?_; try intro _ hK; try simp only [go_sem, *]) | refine Qh rfl ?_ | (refine Qc rfl rfl ?_ ?_ <;> (intro hb; have hc := hb; try simp only [go_sem] at hc)) | refine q6 rfl ?_ | (refine y4 (s) ?_; simp only [go_sem, *]) | ((with_reducible apply And.intro); focus omega) | (refine z8 hK ?_; clear hK; simp only [go_sem, *]) | simp only [z6, z7, go_sem, *])
   all_goals try contradiction
   (refine ⟨[_, _], [], [], ⟨rfl, rfl, trivial⟩, ?_⟩; simp only [go_sem, *])
 ·have hi3 : ¬ (i : Int) < 3 := by omega
  rw [show ([0, 1, 2] : List Nat).drop i = [] from List.drop_of_length_le (by simp; omega), l3] at hP
  subst hP
  repeat' (first | (refine Qr rfl ?_; try intro _ hK; try simp only [go_sem, *]) | refine Qh rfl ?_ | (refine Qc rfl rfl ?_ ?_ <;> (intro hb; have hc := hb; try simp only [go_sem] at hc)) | refine q6 rfl ?_ | ((with_reducible apply And.intro); focus omega) | (refine z8 hK ?_; clear hK; simp only [go_sem, *]) | simp only [z6, z7, go_sem, *])
  (refine ⟨[_, _], [], [], ⟨rfl, rfl, trivial⟩, ?_⟩; simp only [go_sem, *])
  all_goals simp
theorem zHS (p q : zLo) (hp : p.length ≤ 4294967296) (hq : q.length ≤ 4294967296) :
  zLp prog 31 [x7 p, x7 q] [] (.tup [.list ((zMb (if a7 p q = 0 then O0 p q else none)).map Change.enc), iV (a7 p q)]) [] := by
 by_cases h1 : check p = 0
 ·by_cases h2 : check q = 0
  ·by_cases h3 : p.length = q.length
   ·have s := zHT p q h1 h2 h3 (O0 p q) rfl
    have e : a7 p q = if (O0 p q).isSome = true then 0 else 11 := by simp [a7, h1, h2, h3]
    rw [e]
    cases hg : O0 p q with
    | none => rw [hg] at s; simpa using s
    | some l => rw [hg] at s; simpa using s
   ·have e : a7 p q = 11 := by simp [a7, h1, h2, h3]
    have s1 := Z5 p hp
    have s2 := Z5 q hq
    rw [h1] at s1
    rw [h2] at s2
    rw [e, if_neg (by decide)]
    have h4 : ((p.length : Int) == (q.length : Int)) = false := by simp; omega
    clear h1 h2
    refine q8 func31 rfl (fun E hE => ?_); simp only [go_sem, ntmps31]
    repeat' (first | (refine Qr rfl ?_; try intro _ hK; try simp only [go_sem, *]) | refine Qh rfl ?_ | (refine Qc rfl rfl ?_ ?_ <;> (intro hb; have hc := hb; try simp only [go_sem] at hc)) | refine q6 rfl ?_ | ((first | refine y4 (s1) ?_ | refine y4 (s2) ?_); simp only [go_sem, *]) | ((with_reducible apply And.intro); focus omega) | (refine z8 hK ?_; clear hK; simp only [go_sem, *]) | simp only [z6, z7, go_sem, *])
    all_goals try contradiction
    all_goals (refine ⟨[_, _], [], [], ⟨rfl, rfl, trivial⟩, ?_⟩; simp only [go_sem, *])
  ·have e : a7 p q = check q := by simp [a7, h1, h2]
   have s1 := Z5 p hp
   have s2 := Z5 q hq
   rw [h1] at s1
   rw [e, if_neg h2]
   have h4 : (check q == 0) = false := by simpa using h2
   have h5 : (check q != 0) = true := by simpa using h2
   clear h1 e h2
   generalize check q = k at *
   refine q8 func31 rfl (fun E hE => ?_); simp only [go_sem, ntmps31]
   repeat' (first | (refine Qr rfl ?_; try intro _ hK; try simp only [go_sem, *]) | refine Qh rfl ?_ | (refine Qc rfl rfl ?_ ?_ <;> (intro hb; have hc := hb; try simp only [go_sem] at hc)) | refine q6 rfl ?_ | ((first | refine y4 (s1) ?_ | refine y4 (s2) ?_); simp only [go_sem, *]) | ((with_reducible apply And.intro); focus omega) | (refine z8 hK ?_; clear hK; simp only [go_sem, *]) | simp only [z6, z7, go_sem, *])
   all_goals try contradiction
   all_goals (refine ⟨[_, _], [], [], ⟨rfl, rfl, trivial⟩, ?_⟩; simp only [go_sem, *])
 ·have e : a7 p q = check p := by simp [a7, h1]
  have s1 := Z5 p hp
  rw [e, if_neg h1]
  have h4 : (check p == 0) = false := by simpa using h1
  have h5 : (check p != 0) = true := by simpa using h1
  clear e h1
  generalize check p = k at *
  refine q8 func31 rfl (fun E hE => ?_); simp only [go_sem, ntmps31]
  repeat' (first | (refine Qr rfl ?_; try intro _ hK; try simp only [go_sem, *]) | refine Qh rfl ?_ | (refine Qc rfl rfl ?_ ?_ <;> (intro hb; have hc := hb; try simp only [go_sem] at hc)) | refine q6 rfl ?_ | (refine y4 (s1) ?_; simp only [go_sem, *]) | ((with_reducible apply And.intro); focus omega) | (refine z8 hK ?_; clear hK; simp only [go_sem, *]) | simp only [z6, z7, go_sem, *])
  all_goals try contradiction
  all_goals (refine ⟨[_, _], [], [], ⟨rfl, rfl, trivial⟩, ?_⟩; simp only [go_sem, *])
end Go.Abs

