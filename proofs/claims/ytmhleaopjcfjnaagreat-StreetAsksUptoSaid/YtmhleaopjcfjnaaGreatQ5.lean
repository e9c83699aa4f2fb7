/-
  WHAT THE PROOF STANDS ON, PART 5: contracts of the program's functions and the logic that they are proved in. No condition.
-/
import Derived.Scope
import Derived.Test.YtmhleaopjcfjnaaGreatQ4
set_option maxRecDepth 100000
set_option maxHeartbeats 4000000
set_option linter.unusedVariables false
set_option linter.unusedSimpArgs false
set_option linter.unusedSectionVars false
namespace Go.Abs
open Go Go.Proofs Tryz
attribute [local irreducible] y6 Hold x8
theorem zQo (p : zLo) (h1 : p.length ≤ 4294967296) : zLp prog 28 [x7 p] [] (iV (check p)) [] := by
  have e0 : p.length = 0 → check p = 7 := fun h => by unfold check; rw [if_pos h]
  have e1 : ¬ p.length = 0 → 3 < p.length → check p = 6 := fun h h' => by unfold check; rw [if_neg h, if_pos h']
  have e2 : ¬ p.length = 0 → ¬ 3 < p.length → check p = j3 p := fun h h' => by unfold check; rw [if_neg h, if_neg h']
  refine q8 func28 rfl (fun E hE => ?_); simp only [go_sem, ntmps28]
  repeat' (first | (refine Qr rfl ?_; try intro _ hK; try simp only [go_sem, *]) | (refine Qi rfl rfl rfl rfl ?_ ?_ <;> (intro hb; (try intro _ hK); have hc := hb; try simp only [go_sem] at hc; simp only [go_sem, *])) | refine Qh rfl ?_ | refine Qd rfl (by kernel_rfl) ?_ | (refine Qc rfl rfl ?_ ?_ <;> (intro hb; have hc := hb; try simp only [go_sem] at hc)) | refine q6 rfl ?_ | (refine Qb ?_ ?_; focus kernel_rfl) | ((with_reducible apply And.intro); focus omega) | (refine z8 hK ?_; clear hK; simp only [go_sem, *]) | simp only [z6, z7, go_sem, *])
  · (refine ⟨[_], [], [], ⟨rfl, trivial⟩, ?_⟩; simp only [go_sem, *])
    rw [e0 (by omega)]
  · (refine ⟨[_], [], [], ⟨rfl, trivial⟩, ?_⟩; simp only [go_sem, *])
    rw [e1 (by omega) (by omega)]
  · have e3 := e2 (by omega) (by omega)
    clear e0 e1 e2
    refine u3 rfl (p.length) (fun i => j3 (p.drop i) = j3 p) 56 (fun i => [(3, iV i), (1, .ptr 0 0)]) (fun i => [.box [.list (p.map y7)]]) [some 0] [] (by simp) ?_; intro i hi hP
    repeat' (first | (refine Qr rfl ?_; try intro _ hK; try simp only [go_sem, *]) | (refine Qi rfl rfl rfl rfl ?_ ?_ <;> (intro hb; (try intro _ hK); have hc := hb; try simp only [go_sem] at hc; simp only [go_sem, *])) | refine Qh rfl ?_ | refine Qd rfl (by kernel_rfl) ?_ | (refine Qc rfl rfl ?_ ?_ <;> (intro hb; have hc := hb; try simp only [go_sem] at hc)) | refine q6 rfl ?_ | (refine Qb ?_ ?_; focus kernel_rfl) | ((with_reducible apply And.intro); focus omega) | (refine z8 hK ?_; clear hK; simp only [go_sem, *]) | simp only [z6, z7, go_sem, *])
    · (refine ⟨[_], [], [], ⟨rfl, trivial⟩, ?_⟩; simp only [go_sem, *])
      rw [← hP, zCm (by omega), if_pos (by omega)]
    · have hl : (p.getD i default).length ≤ 8 := by omega
      have hi' : i < p.length := by omega
      rw [zCm hi', if_neg (by omega)] at hP
      generalize hll : p.getD i default = l at *
      refine u3 rfl (l.length) (fun k => p4 (N8 l k) (l.drop k) = p4 none l) 56 (fun k => [(5, iV k), (4, y7 l), (3, iV i), (1, .ptr 0 0)]) (fun k => [.box [.list (p.map y7)]]) [some 0] [] (by simp [N8]) ?_; intro k hk hK
      have hw : 0 < k → IntKind.i64.wrap ((k : Int) - 1) = ((k - 1 : Nat) : Int) := fun h => by rw [wrap_i64 (by omega) (by omega)]; omega
      have hk1 : k < l.length → k - 1 < l.length := fun h => by omega
      have hstep : ∀ h : k < l.length, _ := fun h => zEC h (N8 l k) rfl
      repeat' (first | (refine Qr rfl ?_; try intro _ hK; try simp only [go_sem, *]) | (refine Qi rfl rfl rfl rfl ?_ ?_ <;> (intro hb; (try intro _ hK); have hc := hb; try simp only [go_sem] at hc; simp only [go_sem, *])) | refine Qh rfl ?_ | refine Qd rfl (by kernel_rfl) ?_ | (refine Qc rfl rfl ?_ ?_ <;> (intro hb; have hc := hb; try simp only [go_sem] at hc)) | refine q6 rfl ?_ | (refine Qb ?_ ?_; focus kernel_rfl) | ((first | refine y4 (zLU _) ?_ | refine y4 (zHE _ _) ?_); simp only [go_sem, *]) | ((with_reducible apply And.intro); focus omega) | (refine z8 hK ?_; clear hK; simp only [go_sem, *]) | simp only [z6, z7, go_sem, *])
      · (refine ⟨[_], [], [], ⟨rfl, trivial⟩, ?_⟩; simp only [go_sem, *])
        rw [hstep (by omega), if_neg (by simp_all)] at hK
        rw [← hK, if_neg (by omega)] at hP
        rw [← hP]
      · (refine ⟨[_], [], [], ⟨rfl, trivial⟩, ?_⟩; simp only [go_sem, *])
        rw [hstep (by omega), if_pos (by assumption), if_neg (by intro h; rcases h with h | h; · omega
                                                                 · simp_all)] at hK
        rw [← hK, if_neg (by omega)] at hP
        rw [← hP]
      · exact u2 (i' := k + 1) [some 0] [] (by rw [← hK, hstep (by omega), if_pos (by assumption), if_pos (.inr (by assumption)), zCh])
      · exact u2 (i' := k + 1) [some 0] [] (by rw [← hK, hstep (by omega), if_pos (by assumption), if_pos (.inl (by omega)), zCh])
      · rw [u7 (by omega)] at hK
        have h0 : p4 none l = 0 := by rw [← hK]; cases N8 l k <;> rfl
        rw [if_pos h0] at hP
        exact u2 (i' := i + 1) [some 0] [] (by exact hP)
    · (refine ⟨[_], [], [], ⟨rfl, trivial⟩, ?_⟩; simp only [go_sem, *])
      rw [← hP, u7 (by omega), j3]
end Go.Abs

namespace Go.Abs
open Go
def zR2 (p : zLo) (l : List Change) : List Change := l.filter fun c => decide (can p c = 0)
def zPk (kind : Int) (p : zLo) (s : Nat) : List Change := (List.range' s (p.length - s)).flatMap fun s => zR2 p (B8 kind p s)
def chK : Nat → zLo → List Change
 | 0, _ => []
 | m + 1, p => zPk (6 - (m : Nat)) p 0 ++ chK m p
def g1 (q : zLo) (p : zLo) (c : Change) : Option (List Change) := (r7 0 (s9 p c) q).map (c :: ·)
def g2 (q : zLo) (p : zLo) (c : Change) : Option (List Change) := (r7 1 (s9 p c) q).map (c :: ·)
end Go.Abs

namespace Go.Abs
open Go
def suf (s : Story) : Nat → Nat → List (List Int)
 | 0, _ => [[]]
 | n + 1, k => (List.range' 0 (w9 s k).length).flatMap fun (i : Nat) => (suf s n (k + 1)).map fun r => (i : Int) :: r
def zRk (s : Story) (n k i : Nat) : List (List Int) := (List.range' i ((w9 s k).length - i)).flatMap fun (i : Nat) => (suf s n (k + 1)).map fun r => (i : Int) :: r
def zRr (s : Story) (t : Truth) (i : Int) : Change := (w9 s t.ways.length).getD i.toNat default
def zRo (s : Story) : List Int → Truth → Option Truth
 | [], t => some t
 | i :: r, t => if can t.fin (zRr s t i) = 0 then zRo s r (n0 t (zRr s t i) i.toNat) else none
theorem zOw {s : Story} {i : Int} {r : List Int} {t : Truth} (h : can t.fin (zRr s t i) = 0) : zRo s (i :: r) t = zRo s r (n0 t (zRr s t i) i.toNat) := by rw [zRo, if_pos h]
theorem zOv {s : Story} {i : Int} {r : List Int} {t : Truth} (h : ¬ can t.fin (zRr s t i) = 0) : zRo s (i :: r) t = none := by rw [zRo, if_neg h]
theorem zPN (t : Truth) (c : Change) (i : Nat) : (n0 t c i).ways.length = t.ways.length + 1 := by simp [n0]
def zRa (s : Story) (w : List Int) : Bool := match zRo s w (Y8 s) with
 | some t => f7 s.facts t
 | none => false
def zOZ (s : Story) : List (List Int) := suf s s.steps.length 0
end Go.Abs

namespace Go.Abs
open Go
def zNF : List Nat → Nat → Int → Nat → Int × Nat
 | [], _, b, m => (b, m)
 | x :: r, i, b, m => if x < m then zNF r (i + 1) i x else zNF r (i + 1) b m
theorem zPc {g : List Nat} {i m : Nat} {b : Int} (h : i < g.length) (e : g.getD i default < m) : zNF (g.drop i) i b m = zNF (g.drop (i + 1)) (i + 1) i (g.getD i default) := by rw [u0 h, zNF, if_pos e]
theorem zPb {g : List Nat} {i m : Nat} {b : Int} (h : i < g.length) (e : ¬ g.getD i default < m) : zNF (g.drop i) i b m = zNF (g.drop (i + 1)) (i + 1) b m := by rw [u0 h, zNF, if_neg e]
def BeR (g : List Nat) (n : Nat) (a b : Int) (m : Nat) : Prop := (b = -1 ∧ m = n ∧ (a < 0 ∨ n ≤ g.getD a.toNat 0)) ∨ (0 ≤ a ∧ b = a ∧ m = g.getD a.toNat 0 ∧ m < n)
theorem zOW (g : List Nat) (n : Nat) : ∀ (r : List Nat) (i : Nat) (a b : Int) (m : Nat), g.drop i = r → BeR g n a b m → BeR g n (Q6 g r i a) (zNF r i b m).1 (zNF r i b m).2
  | [], i, a, b, m, _, h => by rw [Q6, zNF]; exact h
  | x :: r, i, a, b, m, hr, h => by
    have hi : i < g.length := by
      by_cases q : i < g.length
      · exact q
      · rw [u7 (by omega)] at hr; cases hr
    have hd := u0 hi
    rw [hr] at hd
    injection hd with hx hr2
    have hgx : g.getD i 0 = x := by
      rw [hx]; rfl
    rw [Q6, zNF]
    have go := zOW g n r (i + 1)
    rcases h with ⟨rfl, rfl, h⟩ | ⟨h0, rfl, rfl, h⟩
    · by_cases c : x < m
      · have c1 : a < 0 ∨ x < g.getD a.toNat 0 := by
          rcases h with h | h
          · exact .inl h
          · exact .inr (by omega)
        rw [if_pos c1, if_pos c]
        exact go _ _ _ hr2.symm (.inr ⟨by omega, rfl, by rw [Int.toNat_natCast, hgx], c⟩)
      · rw [if_neg c]
        by_cases c1 : a < 0 ∨ x < g.getD a.toNat 0
        · rw [if_pos c1]
          exact go _ _ _ hr2.symm (.inl ⟨rfl, rfl, .inr (by rw [Int.toNat_natCast, hgx]; omega)⟩)
        · rw [if_neg c1]
          exact go _ _ _ hr2.symm (.inl ⟨rfl, rfl, h⟩)
    · by_cases c : x < g.getD b.toNat 0
      · rw [if_pos (.inr c), if_pos c]
        exact go _ _ _ hr2.symm (.inr ⟨by omega, rfl, by rw [Int.toNat_natCast, hgx], by omega⟩)
      · rw [if_neg (by rintro (c1 | c1)
                       · omega
                       · exact c c1), if_neg c]
        exact go _ _ _ hr2.symm (.inr ⟨h0, rfl, rfl, h⟩)
theorem zPd (s : Story) (b : Int) (m : Nat) (e : zNF (T7 s) 0 (-1) (r5 s).length = (b, m)) :
  (b = -1 ∧ H3 s = none) ∨ (0 ≤ b ∧ b.toNat < (q9 s.first).length ∧ H3 s = some ((q9 s.first).getD b.toNat default, m)) := by
 have h := zOW (T7 s) (r5 s).length (T7 s) 0 (-1) (-1) (r5 s).length rfl (.inl ⟨rfl, rfl, .inl (by decide)⟩)
 rw [e] at h
 have hle : Q6 (T7 s) (T7 s) 0 (-1) = Z0 (T7 s) := rfl
 rw [hle] at h
 unfold H3
 have hg : ∀ k, (T7 s).getD k 0 ≤ (r5 s).length := fun k => by
  by_cases q : k < (T7 s).length
  ·have hm : (T7 s).getD k 0 ∈ T7 s := by simp [List.getD, q]
   generalize (T7 s).getD k 0 = z at *
   unfold T7 at hm
   obtain ⟨y, _, rfl⟩ := List.mem_map.1 hm
   exact zBo _ _
  ·simp [List.getD, q]
 rcases h with ⟨h1, h2, h3⟩ | ⟨h0, h1, h2, h3⟩
 ·left
  refine ⟨h1, if_pos ?_⟩
  rcases h3 with h3 | h3
  ·exact .inr (.inl h3)
  ·exact .inr (.inr (Nat.le_antisymm (hg _) h3))
 ·right
  simp only at h1 h2 h3
  have hlt : (Z0 (T7 s)).toNat < (q9 s.first).length := by
   by_cases q : (Z0 (T7 s)).toNat < (q9 s.first).length
   ·exact q
   ·exfalso
    by_cases q0 : 0 < (T7 s).length
    ·have := zF8 q0
     have e2 : (T7 s).length = (q9 s.first).length := by simp [T7]
     omega
    ·have e3 : T7 s = [] := List.eq_nil_of_length_eq_zero (by omega)
     rw [e3] at h0
     exact absurd h0 (by decide)
  rw [h1]
  refine ⟨h0, hlt, ?_⟩
  rw [if_neg (by rintro (c | c | c) <;> omega), h2]
end Go.Abs

namespace Go.Abs
open Go
def zNC (x y : Truth) (hs : List House) : Bool := hs.all fun h => decide (x.now h = y.now h)
def okT (l : List Truth) (hs some : List House) (a b : Nat) : Bool := !zNC (l.getD a default) (l.getD b default) some || zNC (l.getD a default) (l.getD b default) hs
def zNA (l : List Truth) (hs some : List House) : Bool := (List.range l.length).all fun a => (List.range a).all fun b => okT l hs some a b
theorem settlesT_iff {l : List Truth} {hs some : List House} : zNA l hs some = true ↔ ∀ a, a < l.length → ∀ b, b < a → okT l hs some a b = true := by
 simp only [zNA, List.all_eq_true, List.mem_range]
theorem zO3 (l : List Truth) (hs : List House) : zNA l hs hs = true := by
 rw [settlesT_iff]
 intro a _ b _
 unfold okT
 cases zNC (l.getD a default) (l.getD b default) hs <;> rfl
def zM7 (n : Nat) : Nat → Nat → List (List Int)
 | 0, _ => [[]]
 | _ + 1, 0 => []
 | m + 1, r + 1 => (zM7 n m r).map (fun l => (((n - (r + 1) : Nat) : Int)) :: l) ++ zM7 n (m + 1) r
theorem zNt (n r : Nat) : zM7 n 0 r = [[]] := by cases r <;> rfl
theorem zNs (n : Nat) : ∀ (r m : Nat), r < m → zM7 n m r = []
 | 0, 0, h => by omega
 | 0, m + 1, _ => rfl
 | r + 1, 0, h => by omega
 | r + 1, m + 1, h => by
  rw [zM7, zNs n r m (by omega), zNs n r (m + 1) (by omega)]
  rfl
theorem zNi (n : Nat) : ∀ (r m : Nat) (l : List Int), r ≤ n → l ∈ zM7 n m r → l.length = m ∧ ∀ k, k ∈ l → 0 ≤ k ∧ k < n
 | r, 0, l, _, h => by
  rw [zNt] at h
  rw [List.mem_singleton.1 h]
  exact ⟨rfl, fun k hk => by cases hk⟩
 | 0, m + 1, l, _, h => by cases h
 | r + 1, m + 1, l, hr, h => by
  rw [zM7] at h
  rcases List.mem_append.1 h with h | h
  ·obtain ⟨q, hq, rfl⟩ := List.mem_map.1 h
   obtain ⟨h1, h2⟩ := zNi n r m q (by omega) hq
   refine ⟨by simp [h1], fun k hk => ?_⟩
   rcases List.mem_cons.1 hk with rfl | hk
   ·omega
   ·exact h2 k hk
  ·exact zNi n r (m + 1) l (by omega) h
theorem zOK (n : Nat) : ∀ (r m : Nat), (zM7 n m r).length ≤ 2 ^ r
 | r, 0 => by rw [zNt]; exact Nat.one_le_two_pow
 | 0, m + 1 => Nat.zero_le _
 | r + 1, m + 1 => by
  have h1 := zOK n r m
  have h2 := zOK n r (m + 1)
  rw [zM7, List.length_append, List.length_map, Nat.pow_succ]
  omega
def zM6 (hs : List House) (l : List Int) : List House := l.map fun k => hs.getD k.toNat default
theorem zPn {hs : List House} {r : Nat} (h : r + 1 ≤ hs.length) : hs.drop (hs.length - (r + 1)) = hs.getD (hs.length - (r + 1)) default :: hs.drop (hs.length - r) := by
 have e : hs.length - (r + 1) + 1 = hs.length - r := by omega
 rw [← e, u0 (by omega)]
theorem zPO (hs : List House) : ∀ (r : Nat), r ≤ hs.length → ∃ l, zM7 hs.length r r = [l] ∧ zM6 hs l = hs.drop (hs.length - r)
 | 0, _ => ⟨[], rfl, by simp [zM6]⟩
 | r + 1, h => by
  obtain ⟨l, h1, h2⟩ := zPO hs r (by omega)
  refine ⟨((hs.length - (r + 1) : Nat) : Int) :: l, ?_, ?_⟩
  ·rw [zM7, h1, zNs _ _ _ (by omega)]
   rfl
  ·rw [zPn h, ← h2]
   simp [zM6]
def zRn (S : List House → Bool) (hs : List House) : Nat → Nat → List House → List House × Bool
 | 0, _, pre => (pre, S pre)
 | _ + 1, 0, _ => ([], false)
 | m + 1, r + 1, pre => if (zRn S hs m r (pre ++ [hs.getD (hs.length - (r + 1)) default])).2 then ((zRn S hs m r (pre ++ [hs.getD (hs.length - (r + 1)) default])).1, true) else zRn S hs (m + 1) r pre
theorem zN8 (S : List House → Bool) (hs pre : List House) (r : Nat) : zRn S hs 0 r pre = (pre, S pre) := by cases r <;> rfl
theorem zPp (S : List House → Bool) (hs : List House) (m i : Nat) (pre : List House) (hi : i < hs.length) : zRn S hs (m + 1) (hs.length - i) pre =
  if (zRn S hs m (hs.length - (i + 1)) (pre ++ [hs.getD i default])).2 then ((zRn S hs m (hs.length - (i + 1)) (pre ++ [hs.getD i default])).1, true) else zRn S hs (m + 1) (hs.length - (i + 1)) pre := by
 obtain ⟨r, hr⟩ : ∃ r, hs.length - (i + 1) = r := ⟨_, rfl⟩
 have e : hs.length - i = r + 1 := by omega
 have e2 : hs.length - (r + 1) = i := by omega
 rw [e, hr, zRn, e2]
theorem zN7 (S : List House → Bool) (hs : List House) : ∀ (r m : Nat) (pre : List House), r < m → zRn S hs m r pre = ([], false)
 | 0, 0, _, h => by omega
 | 0, m + 1, _, _ => rfl
 | r + 1, 0, _, h => by omega
 | r + 1, m + 1, pre, h => by rw [zRn, zN7 S hs r m _ (by omega), zN7 S hs r (m + 1) _ (by omega)]; rfl
theorem zN6 (S : List House → Bool) (hs : List House) : ∀ (r m : Nat) (pre : List House), (zRn S hs m r pre).1.length ≤ pre.length + m
 | r, 0, pre => by rw [zN8]; exact Nat.le_refl _
 | 0, m + 1, pre => Nat.zero_le _
 | r + 1, m + 1, pre => by
  have h1 := zN6 S hs r m (pre ++ [hs.getD (hs.length - (r + 1)) default])
  have h2 := zN6 S hs r (m + 1) pre
  rw [List.length_append, List.length_singleton] at h1
  rw [zRn]
  split
  ·simp only; omega
  ·exact h2
theorem zNp (S : List House → Bool) (hs : List House) : ∀ (r m : Nat) (pre : List House),
  match (zM7 hs.length m r).find? fun l => S (pre ++ zM6 hs l) with
  | some l => zRn S hs m r pre = (pre ++ zM6 hs l, true)
  | .none => (zRn S hs m r pre).2 = false
 | r, 0, pre => by
  rw [zNt, zN8]
  cases e : S pre with
  | true => simp [zM6, e]
  | false => simp [zM6, e]
 | 0, m + 1, pre => by simp [zM7, zRn]
 | r + 1, m + 1, pre => by
  have h1 := zNp S hs r m (pre ++ [hs.getD (hs.length - (r + 1)) default])
  have h2 := zNp S hs r (m + 1) pre
  have e : (fun l => S (pre ++ zM6 hs l)) ∘ (fun l => (((hs.length - (r + 1) : Nat) : Int)) :: l) = fun l => S ((pre ++ [hs.getD (hs.length - (r + 1)) default]) ++ zM6 hs l) := by
   funext l
   simp [zM6]
  rw [zM7, List.find?_append, List.find?_map, e, zRn]
  cases q : (zM7 hs.length m r).find? (fun l => S ((pre ++ [hs.getD (hs.length - (r + 1)) default]) ++ zM6 hs l)) with
  | some l =>
   rw [q] at h1
   simp only [Option.map_some, Option.some_or] at h1 ⊢
   rw [h1]
   simp [zM6]
  | none =>
   rw [q] at h1
   simp only [Option.map_none, Option.none_or] at h1 ⊢
   rw [h1]
   simpa using h2
end Go.Abs

namespace Go.Abs
open Go
theorem zP2 (f : Nat → Bool) : ∀ (n : Nat), f n = true → ∃ M, M ≤ n ∧ f M = true ∧ ∀ m, m < M → f m = false
  | 0, h => ⟨0, Nat.le_refl _, h, fun m hm => by omega⟩
  | n + 1, h => by
    by_cases q : ∃ k, k ≤ n ∧ f k = true
    · obtain ⟨k, h1, h2⟩ := q
      have key : ∀ (n k : Nat), k ≤ n → f k = true → ∃ M, M ≤ n ∧ f M = true ∧ ∀ m, m < M → f m = false := by
        intro n
        induction n with
        | zero => intro k hk hf; obtain rfl : k = 0 := by omega
                  exact ⟨0, Nat.le_refl _, hf, fun m hm => by omega⟩
        | succ n ih =>
          intro k hk hf
          by_cases q : ∃ j, j ≤ n ∧ f j = true
          · obtain ⟨j, h1, h2⟩ := q
            obtain ⟨M, h3, h4⟩ := ih j h1 h2
            exact ⟨M, by omega, h4⟩
          · refine ⟨n + 1, Nat.le_refl _, ?_, fun m hm => ?_⟩
            · by_cases e : k = n + 1
              · rw [← e]; exact hf
              · exact absurd ⟨k, by omega, hf⟩ q
            · cases e : f m with
              | false => rfl
              | true => exact absurd ⟨m, by omega, e⟩ q
      obtain ⟨M, h3, h4⟩ := key n k h1 h2
      exact ⟨M, by omega, h4⟩
    · refine ⟨n + 1, Nat.le_refl _, h, fun m hm => ?_⟩
      cases e : f m with
      | false => rfl
      | true => exact absurd ⟨m, by omega, e⟩ q
theorem zOf {α : Type} [Inhabited α] {f : α → Bool} : ∀ {l : List α} {i : Nat}, (∀ j, j < i → f (l.getD j default) = false) → i < l.length → f (l.getD i default) = true → l.find? f = some (l.getD i default)
 | [], i, _, h, _ => by cases h
 | x :: r, 0, _, _, h => by
  rw [List.find?_cons]
  have : f x = true := h
  rw [this]; rfl
 | x :: r, i + 1, h, hi, h2 => by
  have h0 : f x = false := h 0 (by omega)
  rw [List.find?_cons, h0]
  exact zOf (l := r) (i := i) (fun j hj => h (j + 1) (by omega)) (by simpa using hi) h2
theorem zPr {α : Type} [Inhabited α] {f : α → Bool} {l : List α} (h : ∀ j, j < l.length → f (l.getD j default) = false) : l.find? f = none := by
 rw [List.find?_eq_none]
 intro x hx
 obtain ⟨j, hj, rfl⟩ := List.mem_iff_getElem.1 hx
 have := h j hj
 simp only [List.getD, List.getElem?_eq_getElem hj, Option.getD_some] at this
 rw [this]; simp
structure Least (S : List House → Bool) (hs : List House) (M : Nat) (out : List House) : Prop where
 le : M ≤ hs.length
 hit : zRn S hs M hs.length [] = (out, true)
 min : ∀ m, m < M → (zRn S hs m hs.length []).2 = false
theorem zOm (S : List House → Bool) (hs : List House) (h : S hs = true) : ∃ M out, Least S hs M out := by
 have hn : (zRn S hs hs.length hs.length []).2 = true := by
  have h1 := zNp S hs hs.length hs.length []
  obtain ⟨l, h2, h3⟩ := zPO hs hs.length (Nat.le_refl _)
  rw [h2] at h1
  rw [Nat.sub_self, List.drop_zero] at h3
  simp only [List.nil_append, List.find?_cons, h3, h] at h1
  rw [h1]
 obtain ⟨M, h1, h2, h3⟩ := zP2 (fun m => (zRn S hs m hs.length []).2) hs.length hn
 exact ⟨M, (zRn S hs M hs.length []).1, h1, by rw [← h2], h3⟩
theorem Least.yes {S : List House → Bool} {hs out : List House} {M k i : Nat} (h : Least S hs M out) (hk : k ≤ M) (hi : i < (zM7 hs.length k hs.length).length) (h1 : ∀ j, j < i → S (zM6 hs ((zM7 hs.length k hs.length).getD j default)) = false)
  (h2 : S (zM6 hs ((zM7 hs.length k hs.length).getD i default)) = true) : out = zM6 hs ((zM7 hs.length k hs.length).getD i default) := by
 have e := zNp S hs hs.length k []
 simp only [List.nil_append] at e
 rw [zOf (f := fun l => S (zM6 hs l)) h1 hi h2] at e
 have hkM : k = M := by
  rcases Nat.lt_or_ge k M with q | q
  ·have := h.min k q
   simp only at e
   rw [e] at this; cases this
  ·omega
 subst hkM
 have := h.hit
 simp only at e
 rw [e] at this
 injection this with a b
 exact a.symm
theorem Least.no {S : List House → Bool} {hs out : List House} {M k : Nat} (h : Least S hs M out) (hk : k ≤ M) (h1 : ∀ j, j < (zM7 hs.length k hs.length).length → S (zM6 hs ((zM7 hs.length k hs.length).getD j default)) = false) : k + 1 ≤ M := by
 have e := zNp S hs hs.length k []
 simp only [List.nil_append] at e
 rw [zPr (f := fun l => S (zM6 hs l)) h1] at e
 simp only at e
 rcases Nat.lt_or_ge k M with q | q
 ·exact q
 ·obtain rfl : k = M := by omega
  rw [h.hit] at e; cases e
def zNc (x y : Truth) (hs : List House) (k : Nat) : Bool := (List.range k).all fun j => decide (x.now (hs.getD j default) = y.now (hs.getD j default))
def zNg (x y : Truth) (hs : List House) (l : List Int) (k : Nat) : Bool := (List.range k).all fun j => !decide ((j : Int) ∈ l) || decide (x.now (hs.getD j default) = y.now (hs.getD j default))
theorem zN3 {a b : Bool} (h : a = true ↔ b = true) : a = b := by cases a <;> cases b <;> simp_all
def zNV (l : List Truth) (hs pre : List House) (a b : Nat) : Bool := (List.range b).all fun b => okT l hs pre a b
def zNU (l : List Truth) (hs pre : List House) (a : Nat) : Bool := (List.range a).all fun a => zNV l hs pre a a
end Go.Abs

namespace Go.Abs
open Go Go.Proofs Tryz
attribute [local irreducible] y6 Hold x8
def zNa (p : zLo) : Bool := p.any fun l => decide (20 < l.length)
def zNR (p : zLo) : Bool := decide (20 < p.length) || zNa p
theorem zRM {p : zLo} {i : Nat} (h : i < p.length) : zNa (p.drop i) = (decide (20 < (p.getD i default).length) || zNa (p.drop (i + 1))) := by
 unfold zNa; rw [u0 h, List.any_cons]
theorem zQ3 (p : zLo) (h1 : p.length ≤ 4294967296) (W : Bool) (hW : zNR p = W) : zLp prog 19 [x7 p] [] (bV W) [] := by
 unfold zNR at hW
 by_cases q : 20 < p.length
 ·have q2 : (p.length : Int) > 20 := by omega
  have e : decide (20 < p.length) = true := by simpa using q
  rw [e, Bool.true_or] at hW
  subst hW
  clear e q
  refine q8 func19 rfl (fun E hE => ?_); simp only [go_sem, ntmps19]
  repeat' (first | (refine Qr rfl ?_; try intro _ hK; try simp only [go_sem, *]) | refine Qh rfl ?_ | (refine Qc rfl rfl ?_ ?_ <;> (intro hb; have hc := hb; try simp only [go_sem] at hc)) | refine q6 rfl ?_ | ((with_reducible apply And.intro); focus omega) | (refine z8 hK ?_; clear hK; simp only [go_sem, *]) | simp only [z6, z7, go_sem, *])
  all_goals first | contradiction | omega | skip
  (refine ⟨[_], [], [], ⟨rfl, trivial⟩, ?_⟩; simp only [go_sem, *])
 ·have q2 : ¬ (p.length : Int) > 20 := by omega
  have e : decide (20 < p.length) = false := by simpa using q
  rw [e, Bool.false_or] at hW
  have hW0 : zNa (p.drop 0) = W := hW
  clear e hW
  refine q8 func19 rfl (fun E hE => ?_); simp only [go_sem, ntmps19]
  repeat' (first | (refine Qr rfl ?_; try intro _ hK; try simp only [go_sem, *]) | refine Qh rfl ?_ | (refine Qc rfl rfl ?_ ?_ <;> (intro hb; have hc := hb; try simp only [go_sem] at hc)) | refine q6 rfl ?_ | ((with_reducible apply And.intro); focus omega) | (refine z8 hK ?_; clear hK; simp only [go_sem, *]) | simp only [z6, z7, go_sem, *])
  all_goals first | contradiction | omega | skip
  refine u3 rfl (p.length) (fun i => zNa (p.drop i) = W) 22 (fun i => [(3, iV i), (1, .ptr 0 0)]) (fun i => [zL3 p]) [some 0] [] (by exact hW0) ?_; intro i hi hP
  by_cases hi2 : i < p.length
  ·rw [zRM hi2] at hP
   by_cases r : 20 < (p.getD i default).length
   ·have r2 : ((p.getD i default).length : Int) > 20 := by omega
    have e : decide (20 < (p.getD i default).length) = true := by simpa using r
    rw [e, Bool.true_or] at hP
    subst hP
    clear e r
    repeat' (first | (refine Qr rfl ?_; try intro _ hK; try simp only [go_sem, *]) | refine Qh rfl ?_ | (refine Qc rfl rfl ?_ ?_ <;> (intro hb; have hc := hb; try simp only [go_sem] at hc)) | refine q6 rfl ?_ | ((with_reducible apply And.intro); focus omega) | (refine z8 hK ?_; clear hK; simp only [go_sem, *]) | simp only [z6, z7, go_sem, *])
    all_goals first | contradiction | omega | skip
    (refine ⟨[_], [], [], ⟨rfl, trivial⟩, ?_⟩; simp only [go_sem, *])
   ·have r2 : ¬ ((p.getD i default).length : Int) > 20 := by omega
    have e : decide (20 < (p.getD i default).length) = false := by simpa using r
    rw [e, Bool.false_or] at hP
    clear e r
    repeat' (first | (refine Qr rfl ?_; try intro _ hK; try simp only [go_sem, *]) | refine Qh rfl ?_ | (refine Qc rfl rfl ?_ ?_ <;> (intro hb; have hc := hb; try simp only [go_sem] at hc)) | refine q6 rfl ?_ | ((with_reducible apply And.intro); focus omega) | (refine z8 hK ?_; clear hK; simp only [go_sem, *]) | simp only [z6, z7, go_sem, *])
    all_goals first | contradiction | omega | skip
    exact u2 (i' := i + 1) [some 0] [] (by exact hP)
  ·rw [u7 (by omega)] at hP
   have hP2 : false = W := hP
   subst hP2
   repeat' (first | (refine Qr rfl ?_; try intro _ hK; try simp only [go_sem, *]) | refine Qh rfl ?_ | (refine Qc rfl rfl ?_ ?_ <;> (intro hb; have hc := hb; try simp only [go_sem] at hc)) | refine q6 rfl ?_ | ((with_reducible apply And.intro); focus omega) | (refine z8 hK ?_; clear hK; simp only [go_sem, *]) | simp only [z6, z7, go_sem, *])
   (refine ⟨[_], [], [], ⟨rfl, trivial⟩, ?_⟩; simp only [go_sem, *])
end Go.Abs

namespace Go.Abs
open Go Go.Proofs Tryz
attribute [local irreducible] y6 Hold x8
end Go.Abs

namespace Go.Abs
open Go Go.Proofs Tryz
attribute [local irreducible] y6 Hold x8
def bkt (L : List House) (i s : Nat) : List Plate := ((L.take i).filter (fun h => h.street == (s : Int))).map House.plate
theorem zNe {L : List House} {i s : Nat} (h : i < L.length) (e : (L.getD i default).street = (s : Int)) : bkt L (i + 1) s = bkt L i s ++ [(L.getD i default).plate] := by
 have q : ((L.getD i default).street == (s : Int)) = true := by rw [beq_iff_eq]; exact e
 unfold bkt
 rw [Z8 h, List.filter_append, List.map_append, List.filter_cons, if_pos q]; rfl
theorem zNQ {L : List House} {i s : Nat} (h : i < L.length) (e : (L.getD i default).street ≠ (s : Int)) : bkt L (i + 1) s = bkt L i s := by
 have q : ¬ ((L.getD i default).street == (s : Int)) = true := by rw [beq_iff_eq]; exact e
 unfold bkt
 rw [Z8 h, List.filter_append, List.map_append, List.filter_cons, if_neg q]; simp
theorem zN2 (L : List House) (i s : Nat) : (bkt L i s).length ≤ L.length := by
 unfold bkt; rw [List.length_map]
 exact Nat.le_trans (List.length_filter_le _ _) (by simp; omega)
theorem zNd {L : List House} {i s : Nat} (h : L.length ≤ i) : bkt L i s = (L.filter (fun h => h.street == (s : Int))).map House.plate := by
 unfold bkt; rw [List.take_of_length_le h]
theorem zQp (l : List House) (hst : ∀ z, z ∈ l → 0 ≤ z.street ∧ z.street < 1) (hl : l.length ≤ 4294967296) : zLp prog 127 [.list (l.map House.enc), iV 1] [] (x7 (zL6 l 1)) [] := by
 have rz : List.replicate 1 (AV.raw (Value.slice none 0 0)) = [AV.raw (Value.slice none 0 0)] := rfl
 have hv : IntKind.i64.wrap 1 = (1 : Int) := wrap_i64 (by omega) (by omega)
 have ss := zLb l hl
 have hsl : (s6 l).length ≤ l.length := by have := zFF l []; simpa [s6] using this
 have hsm : ∀ z, z ∈ s6 l → 0 ≤ z.street ∧ z.street < 1 := fun z hz => hst z (mem_sortH.1 hz)
 have he : zL6 l 1 = [((s6 l).filter (fun h => h.street == ((0 : Nat) : Int))).map House.plate] := by simp [zL6, List.range_succ]
 rw [he]
 clear he hst
 generalize s6 l = L at *
 have hlb := fun i s => zN2 L i s
 have z0 : bkt L 0 0 = [] := rfl
 have z1 : bkt L 0 1 = [] := rfl
 have z2 : bkt L 0 2 = [] := rfl
 refine q8 func127 rfl (fun E hE => ?_); simp only [go_sem, ntmps127]
 repeat' (first | (refine Qr rfl ?_; try intro _ hK; try simp only [go_sem, *]) | refine Qh rfl ?_ | refine Qd rfl (by kernel_rfl) ?_ | (refine Qc rfl rfl ?_ ?_ <;> (intro hb; have hc := hb; try simp only [go_sem] at hc)) | refine q6 rfl ?_ | (refine Qb ?_ ?_; focus kernel_rfl) | (refine y4 (ss) ?_; simp only [go_sem, *]) | ((with_reducible apply And.intro); focus omega) | (refine z8 hK ?_; clear hK; simp only [go_sem, *]) | simp only [z6, z7, go_sem, *])
 refine u3 rfl (L.length) (fun i => NoP i) 43 (fun i => [(6, iV i), (5, .ptr 1 0), (4, .ptr 0 0), (0, .list (L.map House.enc))]) (fun i => [.box [zLz], .box [.own 2 1 0 1], .box [.own 3 2 0 (bkt L i 0).length], .row 2 ((bkt L i 0).map Plate.enc)]) [some 0, some 2, some 1, none] [] (by trivial) ?_; intro i hi hP
 have hb0 := hlb i 0
 clear hlb z0 z1 z2
 by_cases hi2 : i < L.length
 ·have hz := hsm _ (w8 hi2)
  rcases (by omega : (L.getD i default).street = 0) with hs0
  ·have e0 := zNe (s := 0) hi2 (by rw [hs0]; rfl)
   repeat' (first | (refine Qr rfl ?_; try intro _ hK; try simp only [go_sem, *]) | refine Qh rfl ?_ | refine Qd rfl (by kernel_rfl) ?_ | (refine Qc rfl rfl ?_ ?_ <;> (intro hb; have hc := hb; try simp only [go_sem] at hc)) | refine q6 rfl ?_ | (with_reducible (show (∀ _ : AV, _ → _) ∧ _); refine And.intro ?_ ?_; (focus (intro y hy; first | (obtain ⟨z, _, rfl⟩ := List.mem_map.1 (hy); simp [go_sem]; done) | (obtain ⟨z, _, rfl⟩ := List.mem_map.1 (List.mem_of_mem_take hy); simp [go_sem]; done) | (obtain ⟨z, _, rfl⟩ := List.mem_map.1 (List.mem_of_mem_drop hy); simp [go_sem]; done) | (obtain ⟨z, _, rfl⟩ := List.mem_map.1 (List.mem_of_mem_drop (List.mem_of_mem_take hy)); simp [go_sem]; done)))) | (refine Qb ?_ ?_; focus kernel_rfl) | ((with_reducible apply And.intro); focus omega) | (refine z8 hK ?_; clear hK; simp only [go_sem, *]) | simp only [z6, z7, go_sem, *])
   all_goals try contradiction
   exact u2 (i' := i + 1) [some 0, some 1, some 2, some 5] [] (by trivial)
 ·have e0 := zNd (L := L) (i := i) (s := 0) (by omega)
  repeat' (first | (refine Qr rfl ?_; try intro _ hK; try simp only [go_sem, *]) | refine Qh rfl ?_ | refine Qd rfl (by kernel_rfl) ?_ | (refine Qc rfl rfl ?_ ?_ <;> (intro hb; have hc := hb; try simp only [go_sem] at hc)) | refine q6 rfl ?_ | (refine Qb ?_ ?_; focus kernel_rfl) | ((with_reducible apply And.intro); focus omega) | (refine z8 hK ?_; clear hK; simp only [go_sem, *]) | simp only [z6, z7, go_sem, *])
  refine ⟨[.agg [.own 2 1 0 1]], [], [2, 3], ⟨by simp only [u1, go_sem], trivial⟩, ?_⟩
  simp only [go_sem, *]
  try simp [List.take_of_length_le]
theorem zQq (l : List House) (hst : ∀ z, z ∈ l → 0 ≤ z.street ∧ z.street < 2) (hl : l.length ≤ 4294967296) : zLp prog 127 [.list (l.map House.enc), iV 2] [] (x7 (zL6 l 2)) [] := by
 have rz : List.replicate 2 (AV.raw (Value.slice none 0 0)) = [AV.raw (Value.slice none 0 0), AV.raw (Value.slice none 0 0)] := rfl
 have hv : IntKind.i64.wrap 2 = (2 : Int) := wrap_i64 (by omega) (by omega)
 have ss := zLb l hl
 have hsl : (s6 l).length ≤ l.length := by have := zFF l []; simpa [s6] using this
 have hsm : ∀ z, z ∈ s6 l → 0 ≤ z.street ∧ z.street < 2 := fun z hz => hst z (mem_sortH.1 hz)
 have he : zL6 l 2 = [((s6 l).filter (fun h => h.street == ((0 : Nat) : Int))).map House.plate, ((s6 l).filter (fun h => h.street == ((1 : Nat) : Int))).map House.plate] := by simp [zL6, List.range_succ]
 rw [he]
 clear he hst
 generalize s6 l = L at *
 have hlb := fun i s => zN2 L i s
 have z0 : bkt L 0 0 = [] := rfl
 have z1 : bkt L 0 1 = [] := rfl
 have z2 : bkt L 0 2 = [] := rfl
 refine q8 func127 rfl (fun E hE => ?_); simp only [go_sem, ntmps127]
 repeat' (first | (refine Qr rfl ?_; try intro _ hK; try simp only [go_sem, *]) | refine Qh rfl ?_ | refine Qd rfl (by kernel_rfl) ?_ | (refine Qc rfl rfl ?_ ?_ <;> (intro hb; have hc := hb; try simp only [go_sem] at hc)) | refine q6 rfl ?_ | (refine Qb ?_ ?_; focus kernel_rfl) | (refine y4 (ss) ?_; simp only [go_sem, *]) | ((with_reducible apply And.intro); focus omega) | (refine z8 hK ?_; clear hK; simp only [go_sem, *]) | simp only [z6, z7, go_sem, *])
 refine u3 rfl (L.length) (fun i => NoP i) 43 (fun i => [(6, iV i), (5, .ptr 1 0), (4, .ptr 0 0), (0, .list (L.map House.enc))]) (fun i => [.box [zLz], .box [.own 2 1 0 2], .box [.own 3 2 0 (bkt L i 0).length, .own 4 2 0 (bkt L i 1).length], .row 2 ((bkt L i 0).map Plate.enc), .row 2 ((bkt L i 1).map Plate.enc)]) [some 0, some 2, some 1, none, none] [] (by trivial) ?_; intro i hi hP
 have hb0 := hlb i 0
 have hb1 := hlb i 1
 clear hlb z0 z1 z2
 by_cases hi2 : i < L.length
 ·have hz := hsm _ (w8 hi2)
  rcases (by omega : (L.getD i default).street = 0 ∨ (L.getD i default).street = 1) with hs0 | hs0
  ·have e0 := zNe (s := 0) hi2 (by rw [hs0]; rfl)
   have e1 := zNQ (s := 1) hi2 (by rw [hs0]; decide)
   repeat' (first | (refine Qr rfl ?_; try intro _ hK; try simp only [go_sem, *]) | refine Qh rfl ?_ | refine Qd rfl (by kernel_rfl) ?_ | (refine Qc rfl rfl ?_ ?_ <;> (intro hb; have hc := hb; try simp only [go_sem] at hc)) | refine q6 rfl ?_ | (with_reducible (show (∀ _ : AV, _ → _) ∧ _); refine And.intro ?_ ?_; (focus (intro y hy; first | (obtain ⟨z, _, rfl⟩ := List.mem_map.1 (hy); simp [go_sem]; done) | (obtain ⟨z, _, rfl⟩ := List.mem_map.1 (List.mem_of_mem_take hy); simp [go_sem]; done) | (obtain ⟨z, _, rfl⟩ := List.mem_map.1 (List.mem_of_mem_drop hy); simp [go_sem]; done) | (obtain ⟨z, _, rfl⟩ := List.mem_map.1 (List.mem_of_mem_drop (List.mem_of_mem_take hy)); simp [go_sem]; done)))) | (refine Qb ?_ ?_; focus kernel_rfl) | ((with_reducible apply And.intro); focus omega) | (refine z8 hK ?_; clear hK; simp only [go_sem, *]) | simp only [z6, z7, go_sem, *])
   all_goals try contradiction
   exact u2 (i' := i + 1) [some 0, some 1, some 2, some 6, some 4] [] (by trivial)
  ·have e0 := zNQ (s := 0) hi2 (by rw [hs0]; decide)
   have e1 := zNe (s := 1) hi2 (by rw [hs0]; rfl)
   repeat' (first | (refine Qr rfl ?_; try intro _ hK; try simp only [go_sem, *]) | refine Qh rfl ?_ | refine Qd rfl (by kernel_rfl) ?_ | (refine Qc rfl rfl ?_ ?_ <;> (intro hb; have hc := hb; try simp only [go_sem] at hc)) | refine q6 rfl ?_ | (with_reducible (show (∀ _ : AV, _ → _) ∧ _); refine And.intro ?_ ?_; (focus (intro y hy; first | (obtain ⟨z, _, rfl⟩ := List.mem_map.1 (hy); simp [go_sem]; done) | (obtain ⟨z, _, rfl⟩ := List.mem_map.1 (List.mem_of_mem_take hy); simp [go_sem]; done) | (obtain ⟨z, _, rfl⟩ := List.mem_map.1 (List.mem_of_mem_drop hy); simp [go_sem]; done) | (obtain ⟨z, _, rfl⟩ := List.mem_map.1 (List.mem_of_mem_drop (List.mem_of_mem_take hy)); simp [go_sem]; done)))) | (refine Qb ?_ ?_; focus kernel_rfl) | ((with_reducible apply And.intro); focus omega) | (refine z8 hK ?_; clear hK; simp only [go_sem, *]) | simp only [z6, z7, go_sem, *])
   all_goals try contradiction
   exact u2 (i' := i + 1) [some 0, some 1, some 2, some 3, some 6] [] (by trivial)
 ·have e0 := zNd (L := L) (i := i) (s := 0) (by omega)
  have e1 := zNd (L := L) (i := i) (s := 1) (by omega)
  repeat' (first | (refine Qr rfl ?_; try intro _ hK; try simp only [go_sem, *]) | refine Qh rfl ?_ | refine Qd rfl (by kernel_rfl) ?_ | (refine Qc rfl rfl ?_ ?_ <;> (intro hb; have hc := hb; try simp only [go_sem] at hc)) | refine q6 rfl ?_ | (refine Qb ?_ ?_; focus kernel_rfl) | ((with_reducible apply And.intro); focus omega) | (refine z8 hK ?_; clear hK; simp only [go_sem, *]) | simp only [z6, z7, go_sem, *])
  refine ⟨[.agg [.own 2 1 0 2]], [], [2, 3, 4], ⟨by simp only [u1, go_sem], trivial⟩, ?_⟩
  simp only [go_sem, *]
  try simp [List.take_of_length_le]
theorem zQr (l : List House) (hst : ∀ z, z ∈ l → 0 ≤ z.street ∧ z.street < 3) (hl : l.length ≤ 4294967296) : zLp prog 127 [.list (l.map House.enc), iV 3] [] (x7 (zL6 l 3)) [] := by
 have rz : List.replicate 3 (AV.raw (Value.slice none 0 0)) = [AV.raw (Value.slice none 0 0), AV.raw (Value.slice none 0 0), AV.raw (Value.slice none 0 0)] := rfl
 have hv : IntKind.i64.wrap 3 = (3 : Int) := wrap_i64 (by omega) (by omega)
 have ss := zLb l hl
 have hsl : (s6 l).length ≤ l.length := by have := zFF l []; simpa [s6] using this
 have hsm : ∀ z, z ∈ s6 l → 0 ≤ z.street ∧ z.street < 3 := fun z hz => hst z (mem_sortH.1 hz)
 have he : zL6 l 3 = [((s6 l).filter (fun h => h.street == ((0 : Nat) : Int))).map House.plate, ((s6 l).filter (fun h => h.street == ((1 : Nat) : Int))).map House.plate, ((s6 l).filter (fun h => h.street == ((2 : Nat) : Int))).map House.plate] := by simp [zL6, List.range_succ]
 rw [he]
 clear he hst
 generalize s6 l = L at *
 have hlb := fun i s => zN2 L i s
 have z0 : bkt L 0 0 = [] := rfl
 have z1 : bkt L 0 1 = [] := rfl
 have z2 : bkt L 0 2 = [] := rfl
 refine q8 func127 rfl (fun E hE => ?_); simp only [go_sem, ntmps127]
 repeat' (first | (refine Qr rfl ?_; try intro _ hK; try simp only [go_sem, *]) | refine Qh rfl ?_ | refine Qd rfl (by kernel_rfl) ?_ | (refine Qc rfl rfl ?_ ?_ <;> (intro hb; have hc := hb; try simp only [go_sem] at hc)) | refine q6 rfl ?_ | (refine Qb ?_ ?_; focus kernel_rfl) | (refine y4 (ss) ?_; simp only [go_sem, *]) | ((with_reducible apply And.intro); focus omega) | (refine z8 hK ?_; clear hK; simp only [go_sem, *]) | simp only [z6, z7, go_sem, *])
 refine u3 rfl (L.length) (fun i => NoP i) 43 (fun i => [(6, iV i), (5, .ptr 1 0), (4, .ptr 0 0), (0, .list (L.map House.enc))]) (fun i => [.box [zLz], .box [.own 2 1 0 3], .box [.own 3 2 0 (bkt L i 0).length, .own 4 2 0 (bkt L i 1).length, .own 5 2 0 (bkt L i 2).length], .row 2 ((bkt L i 0).map Plate.enc), .row 2 ((bkt L i 1).map Plate.enc), .row 2 ((bkt L i 2).map Plate.enc)]) [some 0, some 2, some 1, none, none, none] [] (by trivial) ?_; intro i hi hP
 have hb0 := hlb i 0
 have hb1 := hlb i 1
 have hb2 := hlb i 2
 clear hlb z0 z1 z2
 by_cases hi2 : i < L.length
 ·have hz := hsm _ (w8 hi2)
  rcases (by omega : (L.getD i default).street = 0 ∨ (L.getD i default).street = 1 ∨ (L.getD i default).street = 2) with hs0 | hs0 | hs0
  ·have e0 := zNe (s := 0) hi2 (by rw [hs0]; rfl)
   have e1 := zNQ (s := 1) hi2 (by rw [hs0]; decide)
   have e2 := zNQ (s := 2) hi2 (by rw [hs0]; decide)
   repeat' (first | (refine Qr rfl ?_; try intro _ hK; try simp only [go_sem, *]) | refine Qh rfl ?_ | refine Qd rfl (by kernel_rfl) ?_ | (refine Qc rfl rfl ?_ ?_ <;> (intro hb; have hc := hb; try simp only [go_sem] at hc)) | refine q6 rfl ?_ | (with_reducible (show (∀ _ : AV, _ → _) ∧ _); refine And.intro ?_ ?_; (focus (intro y hy; first | (obtain ⟨z, _, rfl⟩ := List.mem_map.1 (hy); simp [go_sem]; done) | (obtain ⟨z, _, rfl⟩ := List.mem_map.1 (List.mem_of_mem_take hy); simp [go_sem]; done) | (obtain ⟨z, _, rfl⟩ := List.mem_map.1 (List.mem_of_mem_drop hy); simp [go_sem]; done) | (obtain ⟨z, _, rfl⟩ := List.mem_map.1 (List.mem_of_mem_drop (List.mem_of_mem_take hy)); simp [go_sem]; done)))) | (refine Qb ?_ ?_; focus kernel_rfl) | ((with_reducible apply And.intro); focus omega) | (refine z8 hK ?_; clear hK; simp only [go_sem, *]) | simp only [z6, z7, go_sem, *])
   all_goals try contradiction
   exact u2 (i' := i + 1) [some 0, some 1, some 2, some 7, some 4, some 5] [] (by trivial)
  ·have e0 := zNQ (s := 0) hi2 (by rw [hs0]; decide)
   have e1 := zNe (s := 1) hi2 (by rw [hs0]; rfl)
   have e2 := zNQ (s := 2) hi2 (by rw [hs0]; decide)
   repeat' (first | (refine Qr rfl ?_; try intro _ hK; try simp only [go_sem, *]) | refine Qh rfl ?_ | refine Qd rfl (by kernel_rfl) ?_ | (refine Qc rfl rfl ?_ ?_ <;> (intro hb; have hc := hb; try simp only [go_sem] at hc)) | refine q6 rfl ?_ | (with_reducible (show (∀ _ : AV, _ → _) ∧ _); refine And.intro ?_ ?_; (focus (intro y hy; first | (obtain ⟨z, _, rfl⟩ := List.mem_map.1 (hy); simp [go_sem]; done) | (obtain ⟨z, _, rfl⟩ := List.mem_map.1 (List.mem_of_mem_take hy); simp [go_sem]; done) | (obtain ⟨z, _, rfl⟩ := List.mem_map.1 (List.mem_of_mem_drop hy); simp [go_sem]; done) | (obtain ⟨z, _, rfl⟩ := List.mem_map.1 (List.mem_of_mem_drop (List.mem_of_mem_take hy)); simp [go_sem]; done)))) | (refine Qb ?_ ?_; focus kernel_rfl) | ((with_reducible apply And.intro); focus omega) | (refine z8 hK ?_; clear hK; simp only [go_sem, *]) | simp only [z6, z7, go_sem, *])
   all_goals try contradiction
   exact u2 (i' := i + 1) [some 0, some 1, some 2, some 3, some 7, some 5] [] (by trivial)
  ·have e0 := zNQ (s := 0) hi2 (by rw [hs0]; decide)
   have e1 := zNQ (s := 1) hi2 (by rw [hs0]; decide)
   have e2 := zNe (s := 2) hi2 (by rw [hs0]; rfl)
   repeat' (first | (refine Qr rfl ?_; try intro _ hK; try simp only [go_sem, *]) | refine Qh rfl ?_ | refine Qd rfl (by kernel_rfl) ?_ | (refine Qc rfl rfl ?_ ?_ <;> (intro hb; have hc := hb; try simp only [go_sem] at hc)) | refine q6 rfl ?_ | (with_reducible (show (∀ _ : AV, _ → _) ∧ _); refine And.intro ?_ ?_; (focus (intro y hy; first | (obtain ⟨z, _, rfl⟩ := List.mem_map.1 (hy); simp [go_sem]; done) | (obtain ⟨z, _, rfl⟩ := List.mem_map.1 (List.mem_of_mem_take hy); simp [go_sem]; done) | (obtain ⟨z, _, rfl⟩ := List.mem_map.1 (List.mem_of_mem_drop hy); simp [go_sem]; done) | (obtain ⟨z, _, rfl⟩ := List.mem_map.1 (List.mem_of_mem_drop (List.mem_of_mem_take hy)); simp [go_sem]; done)))) | (refine Qb ?_ ?_; focus kernel_rfl) | ((with_reducible apply And.intro); focus omega) | (refine z8 hK ?_; clear hK; simp only [go_sem, *]) | simp only [z6, z7, go_sem, *])
   all_goals try contradiction
   exact u2 (i' := i + 1) [some 0, some 1, some 2, some 3, some 4, some 7] [] (by trivial)
 ·have e0 := zNd (L := L) (i := i) (s := 0) (by omega)
  have e1 := zNd (L := L) (i := i) (s := 1) (by omega)
  have e2 := zNd (L := L) (i := i) (s := 2) (by omega)
  repeat' (first | (refine Qr rfl ?_; try intro _ hK; try simp only [go_sem, *]) | refine Qh rfl ?_ | refine Qd rfl (by kernel_rfl) ?_ | (refine Qc rfl rfl ?_ ?_ <;> (intro hb; have hc := hb; try simp only [go_sem] at hc)) | refine q6 rfl ?_ | (refine Qb ?_ ?_; focus kernel_rfl) | ((with_reducible apply And.intro); focus omega) | (refine z8 hK ?_; clear hK; simp only [go_sem, *]) | simp only [z6, z7, go_sem, *])
  refine ⟨[.agg [.own 2 1 0 3]], [], [2, 3, 4, 5], ⟨by simp only [u1, go_sem], trivial⟩, ?_⟩
  simp only [go_sem, *]
  try simp [List.take_of_length_le]
end Go.Abs

namespace Go.Abs
open Go Go.Proofs Tryz
attribute [local irreducible] y6 Hold x8
theorem zQA (p : zLo) (c : Change) (hp : p.length ≤ 4294967296) (h1 : zLr c.kind 1 7 = false) : zLp prog 132 [x7 p, c.enc] [] (.tup [iV 8, .agg [iV c.kind, iV c.street, iV 0, iV 0, iV 0, iV 0, iV 0]]) [] := by
 have hw : IntKind.i64.wrap ((p.length : Int) - 1) = (p.length : Int) - 1 := wrap_i64 (by omega) (by omega)
 have s1 := zIC c.kind 1 7
 rw [h1] at s1
 refine q8 func132 rfl (fun E hE => ?_); simp only [go_sem, ntmps132]
 repeat' (first | (refine Qr rfl ?_; try intro _ hK; try simp only [go_sem, *]) | refine Qh rfl ?_ | refine Qd rfl (by kernel_rfl) ?_ | (refine Qc rfl rfl ?_ ?_ <;> (intro hb; have hc := hb; try simp only [go_sem] at hc)) | refine q6 rfl ?_ | (refine Qb ?_ ?_; focus kernel_rfl) | (refine y4 (s1) ?_; simp only [go_sem, *]) | ((with_reducible apply And.intro); focus omega) | (refine z8 hK ?_; clear hK; simp only [go_sem, *]) | simp only [z6, z7, go_sem, *])
 all_goals try contradiction
 refine ⟨[iV 8, .agg [iV c.kind, iV c.street, iV 0, iV 0, iV 0, iV 0, iV 0]], [], [], ⟨rfl, by simp only [u1, go_sem], trivial⟩, ?_⟩
 simp only [go_sem, *]
theorem zQK (p : zLo) (c : Change) (hp : p.length ≤ 4294967296) (h1 : zLr c.kind 1 7 = true) (h2 : zLr c.street 0 ((p.length : Int) - 1) = false) : zLp prog 132 [x7 p, c.enc] [] (.tup [iV 3, .agg [iV c.kind, iV c.street, iV 0, iV 0, iV 0, iV 0, iV 0]]) [] := by
 have hw : IntKind.i64.wrap ((p.length : Int) - 1) = (p.length : Int) - 1 := wrap_i64 (by omega) (by omega)
 have s1 := zIC c.kind 1 7
 rw [h1] at s1
 have s2 := zIC c.street 0 ((p.length : Int) - 1)
 rw [h2] at s2
 refine q8 func132 rfl (fun E hE => ?_); simp only [go_sem, ntmps132]
 repeat' (first | (refine Qr rfl ?_; try intro _ hK; try simp only [go_sem, *]) | refine Qh rfl ?_ | refine Qd rfl (by kernel_rfl) ?_ | (refine Qc rfl rfl ?_ ?_ <;> (intro hb; have hc := hb; try simp only [go_sem] at hc)) | refine q6 rfl ?_ | (refine Qb ?_ ?_; focus kernel_rfl) | ((first | refine y4 (s1) ?_ | refine y4 (s2) ?_); simp only [go_sem, *]) | ((with_reducible apply And.intro); focus omega) | (refine z8 hK ?_; clear hK; simp only [go_sem, *]) | simp only [z6, z7, go_sem, *])
 all_goals try contradiction
 refine ⟨[iV 3, .agg [iV c.kind, iV c.street, iV 0, iV 0, iV 0, iV 0, iV 0]], [], [], ⟨rfl, by simp only [u1, go_sem], trivial⟩, ?_⟩
 simp only [go_sem, *]
theorem zQG (p : zLo) (c : Change) (hp : p.length ≤ 4294967296) (h1 : zLr c.kind 1 7 = true) (h2 : zLr c.street 0 ((p.length : Int) - 1) = true) (k4 : (c.kind == 4) = true) (k5 : (c.kind == 5) = false) (k6 : (c.kind == 6) = false) (k7 : (c.kind == 7) = false) (h3 : zLr c.other 0 ((p.length : Int) - 1) = false) : zLp prog 132 [x7 p, c.enc] [] (.tup [iV 3, .agg [iV c.kind, iV c.street, iV c.other, iV 0, iV 0, iV 0, iV 0]]) [] := by
 have hw : IntKind.i64.wrap ((p.length : Int) - 1) = (p.length : Int) - 1 := wrap_i64 (by omega) (by omega)
 have s1 := zIC c.kind 1 7
 rw [h1] at s1
 have s2 := zIC c.street 0 ((p.length : Int) - 1)
 rw [h2] at s2
 have s3 := zIC c.other 0 ((p.length : Int) - 1)
 rw [h3] at s3
 refine q8 func132 rfl (fun E hE => ?_); simp only [go_sem, ntmps132]
 repeat' (first | (refine Qr rfl ?_; try intro _ hK; try simp only [go_sem, *]) | refine Qh rfl ?_ | refine Qd rfl (by kernel_rfl) ?_ | (refine Qc rfl rfl ?_ ?_ <;> (intro hb; have hc := hb; try simp only [go_sem] at hc)) | refine q6 rfl ?_ | (refine Qb ?_ ?_; focus kernel_rfl) | ((first | refine y4 (s1) ?_ | refine y4 (s2) ?_ | refine y4 (s3) ?_); simp only [go_sem, *]) | ((with_reducible apply And.intro); focus omega) | (refine z8 hK ?_; clear hK; simp only [go_sem, *]) | simp only [z6, z7, go_sem, *])
 all_goals try contradiction
 refine ⟨[iV 3, .agg [iV c.kind, iV c.street, iV c.other, iV 0, iV 0, iV 0, iV 0]], [], [], ⟨rfl, by simp only [u1, go_sem], trivial⟩, ?_⟩
 simp only [go_sem, *]
theorem zQI (p : zLo) (c : Change) (hp : p.length ≤ 4294967296) (h1 : zLr c.kind 1 7 = true) (h2 : zLr c.street 0 ((p.length : Int) - 1) = true) (k4 : (c.kind == 4) = true) (k5 : (c.kind == 5) = false) (k6 : (c.kind == 6) = false) (k7 : (c.kind == 7) = false) (h3 : zLr c.other 0 ((p.length : Int) - 1) = true) (h4 : (c.other == c.street) = true) : zLp prog 132 [x7 p, c.enc] [] (.tup [iV 4, .agg [iV c.kind, iV c.street, iV c.other, iV 0, iV 0, iV 0, iV 0]]) [] := by
 have hw : IntKind.i64.wrap ((p.length : Int) - 1) = (p.length : Int) - 1 := wrap_i64 (by omega) (by omega)
 have s1 := zIC c.kind 1 7
 rw [h1] at s1
 have s2 := zIC c.street 0 ((p.length : Int) - 1)
 rw [h2] at s2
 have s3 := zIC c.other 0 ((p.length : Int) - 1)
 rw [h3] at s3
 refine q8 func132 rfl (fun E hE => ?_); simp only [go_sem, ntmps132]
 repeat' (first | (refine Qr rfl ?_; try intro _ hK; try simp only [go_sem, *]) | refine Qh rfl ?_ | refine Qd rfl (by kernel_rfl) ?_ | (refine Qc rfl rfl ?_ ?_ <;> (intro hb; have hc := hb; try simp only [go_sem] at hc)) | refine q6 rfl ?_ | (refine Qb ?_ ?_; focus kernel_rfl) | ((first | refine y4 (s1) ?_ | refine y4 (s2) ?_ | refine y4 (s3) ?_); simp only [go_sem, *]) | ((with_reducible apply And.intro); focus omega) | (refine z8 hK ?_; clear hK; simp only [go_sem, *]) | simp only [z6, z7, go_sem, *])
 all_goals try contradiction
 refine ⟨[iV 4, .agg [iV c.kind, iV c.street, iV c.other, iV 0, iV 0, iV 0, iV 0]], [], [], ⟨rfl, by simp only [u1, go_sem], trivial⟩, ?_⟩
 simp only [go_sem, *]
theorem zQH (p : zLo) (c : Change) (hp : p.length ≤ 4294967296) (h1 : zLr c.kind 1 7 = true) (h2 : zLr c.street 0 ((p.length : Int) - 1) = true) (k4 : (c.kind == 4) = false) (k5 : (c.kind == 5) = false) (k6 : (c.kind == 6) = false) (k7 : (c.kind == 7) = true) (h3 : zLr c.other 0 ((p.length : Int) - 1) = false) : zLp prog 132 [x7 p, c.enc] [] (.tup [iV 3, .agg [iV c.kind, iV c.street, iV c.other, iV 0, iV 0, iV 0, iV 0]]) [] := by
 have hw : IntKind.i64.wrap ((p.length : Int) - 1) = (p.length : Int) - 1 := wrap_i64 (by omega) (by omega)
 have s1 := zIC c.kind 1 7
 rw [h1] at s1
 have s2 := zIC c.street 0 ((p.length : Int) - 1)
 rw [h2] at s2
 have s3 := zIC c.other 0 ((p.length : Int) - 1)
 rw [h3] at s3
 refine q8 func132 rfl (fun E hE => ?_); simp only [go_sem, ntmps132]
 repeat' (first | (refine Qr rfl ?_; try intro _ hK; try simp only [go_sem, *]) | refine Qh rfl ?_ | refine Qd rfl (by kernel_rfl) ?_ | (refine Qc rfl rfl ?_ ?_ <;> (intro hb; have hc := hb; try simp only [go_sem] at hc)) | refine q6 rfl ?_ | (refine Qb ?_ ?_; focus kernel_rfl) | ((first | refine y4 (s1) ?_ | refine y4 (s2) ?_ | refine y4 (s3) ?_); simp only [go_sem, *]) | ((with_reducible apply And.intro); focus omega) | (refine z8 hK ?_; clear hK; simp only [go_sem, *]) | simp only [z6, z7, go_sem, *])
 all_goals try contradiction
 refine ⟨[iV 3, .agg [iV c.kind, iV c.street, iV c.other, iV 0, iV 0, iV 0, iV 0]], [], [], ⟨rfl, by simp only [u1, go_sem], trivial⟩, ?_⟩
 simp only [go_sem, *]
theorem zQJ (p : zLo) (c : Change) (hp : p.length ≤ 4294967296) (h1 : zLr c.kind 1 7 = true) (h2 : zLr c.street 0 ((p.length : Int) - 1) = true) (k4 : (c.kind == 4) = false) (k5 : (c.kind == 5) = false) (k6 : (c.kind == 6) = false) (k7 : (c.kind == 7) = true) (h3 : zLr c.other 0 ((p.length : Int) - 1) = true) (h4 : (c.other == c.street) = true) : zLp prog 132 [x7 p, c.enc] [] (.tup [iV 4, .agg [iV c.kind, iV c.street, iV c.other, iV 0, iV 0, iV 0, iV 0]]) [] := by
 have hw : IntKind.i64.wrap ((p.length : Int) - 1) = (p.length : Int) - 1 := wrap_i64 (by omega) (by omega)
 have s1 := zIC c.kind 1 7
 rw [h1] at s1
 have s2 := zIC c.street 0 ((p.length : Int) - 1)
 rw [h2] at s2
 have s3 := zIC c.other 0 ((p.length : Int) - 1)
 rw [h3] at s3
 refine q8 func132 rfl (fun E hE => ?_); simp only [go_sem, ntmps132]
 repeat' (first | (refine Qr rfl ?_; try intro _ hK; try simp only [go_sem, *]) | refine Qh rfl ?_ | refine Qd rfl (by kernel_rfl) ?_ | (refine Qc rfl rfl ?_ ?_ <;> (intro hb; have hc := hb; try simp only [go_sem] at hc)) | refine q6 rfl ?_ | (refine Qb ?_ ?_; focus kernel_rfl) | ((first | refine y4 (s1) ?_ | refine y4 (s2) ?_ | refine y4 (s3) ?_); simp only [go_sem, *]) | ((with_reducible apply And.intro); focus omega) | (refine z8 hK ?_; clear hK; simp only [go_sem, *]) | simp only [z6, z7, go_sem, *])
 all_goals try contradiction
 refine ⟨[iV 4, .agg [iV c.kind, iV c.street, iV c.other, iV 0, iV 0, iV 0, iV 0]], [], [], ⟨rfl, by simp only [u1, go_sem], trivial⟩, ?_⟩
 simp only [go_sem, *]
theorem zQC (p : zLo) (c : Change) (hp : p.length ≤ 4294967296) (h1 : zLr c.kind 1 7 = true) (h2 : zLr c.street 0 ((p.length : Int) - 1) = true) (k4 : (c.kind == 4) = true) (k5 : (c.kind == 5) = false) (k6 : (c.kind == 6) = false) (k7 : (c.kind == 7) = false) (h3 : zLr c.other 0 ((p.length : Int) - 1) = true) (h4 : (c.other == c.street) = false) : zLp prog 132 [x7 p, c.enc] [] (.tup [iV 0, .agg [iV c.kind, iV c.street, iV c.other, iV 0, iV 0, iV 0, iV 0]]) [] := by
 have hw : IntKind.i64.wrap ((p.length : Int) - 1) = (p.length : Int) - 1 := wrap_i64 (by omega) (by omega)
 have s1 := zIC c.kind 1 7
 rw [h1] at s1
 have s2 := zIC c.street 0 ((p.length : Int) - 1)
 rw [h2] at s2
 have s3 := zIC c.other 0 ((p.length : Int) - 1)
 rw [h3] at s3
 refine q8 func132 rfl (fun E hE => ?_); simp only [go_sem, ntmps132]
 repeat' (first | (refine Qr rfl ?_; try intro _ hK; try simp only [go_sem, *]) | refine Qh rfl ?_ | refine Qd rfl (by kernel_rfl) ?_ | (refine Qc rfl rfl ?_ ?_ <;> (intro hb; have hc := hb; try simp only [go_sem] at hc)) | refine q6 rfl ?_ | (refine Qb ?_ ?_; focus kernel_rfl) | ((first | refine y4 (s1) ?_ | refine y4 (s2) ?_ | refine y4 (s3) ?_); simp only [go_sem, *]) | ((with_reducible apply And.intro); focus omega) | (refine z8 hK ?_; clear hK; simp only [go_sem, *]) | simp only [z6, z7, go_sem, *])
 all_goals try contradiction
 refine ⟨[iV 0, .agg [iV c.kind, iV c.street, iV c.other, iV 0, iV 0, iV 0, iV 0]], [], [], ⟨rfl, by simp only [u1, go_sem], trivial⟩, ?_⟩
 simp only [go_sem, *]
theorem zQF (p : zLo) (c : Change) (hp : p.length ≤ 4294967296) (h1 : zLr c.kind 1 7 = true) (h2 : zLr c.street 0 ((p.length : Int) - 1) = true) (k4 : (c.kind == 4) = false) (k5 : (c.kind == 5) = false) (k6 : (c.kind == 6) = false) (k7 : (c.kind == 7) = true) (h3 : zLr c.other 0 ((p.length : Int) - 1) = true) (h4 : (c.other == c.street) = false) : zLp prog 132 [x7 p, c.enc] [] (.tup [iV 0, .agg [iV c.kind, iV c.street, iV c.other, iV c.src.number, iV c.src.letter, iV c.dst.number, iV c.dst.letter]]) [] := by
 have hw : IntKind.i64.wrap ((p.length : Int) - 1) = (p.length : Int) - 1 := wrap_i64 (by omega) (by omega)
 have s1 := zIC c.kind 1 7
 rw [h1] at s1
 have s2 := zIC c.street 0 ((p.length : Int) - 1)
 rw [h2] at s2
 have s3 := zIC c.other 0 ((p.length : Int) - 1)
 rw [h3] at s3
 refine q8 func132 rfl (fun E hE => ?_); simp only [go_sem, ntmps132]
 repeat' (first | (refine Qr rfl ?_; try intro _ hK; try simp only [go_sem, *]) | refine Qh rfl ?_ | refine Qd rfl (by kernel_rfl) ?_ | (refine Qc rfl rfl ?_ ?_ <;> (intro hb; have hc := hb; try simp only [go_sem] at hc)) | refine q6 rfl ?_ | (refine Qb ?_ ?_; focus kernel_rfl) | ((first | refine y4 (s1) ?_ | refine y4 (s2) ?_ | refine y4 (s3) ?_); simp only [go_sem, *]) | ((with_reducible apply And.intro); focus omega) | (refine z8 hK ?_; clear hK; simp only [go_sem, *]) | simp only [z6, z7, go_sem, *])
 all_goals try contradiction
 refine ⟨[iV 0, .agg [iV c.kind, iV c.street, iV c.other, iV c.src.number, iV c.src.letter, iV c.dst.number, iV c.dst.letter]], [], [], ⟨rfl, by simp only [u1, go_sem], trivial⟩, ?_⟩
 simp only [go_sem, *]
theorem zQD (p : zLo) (c : Change) (hp : p.length ≤ 4294967296) (h1 : zLr c.kind 1 7 = true) (h2 : zLr c.street 0 ((p.length : Int) - 1) = true) (k4 : (c.kind == 4) = false) (k5 : (c.kind == 5) = true) (k6 : (c.kind == 6) = false) (k7 : (c.kind == 7) = false) : zLp prog 132 [x7 p, c.enc] [] (.tup [iV 0, .agg [iV c.kind, iV c.street, iV 0, iV c.src.number, iV c.src.letter, iV 0, iV 0]]) [] := by
 have hw : IntKind.i64.wrap ((p.length : Int) - 1) = (p.length : Int) - 1 := wrap_i64 (by omega) (by omega)
 have s1 := zIC c.kind 1 7
 rw [h1] at s1
 have s2 := zIC c.street 0 ((p.length : Int) - 1)
 rw [h2] at s2
 refine q8 func132 rfl (fun E hE => ?_); simp only [go_sem, ntmps132]
 repeat' (first | (refine Qr rfl ?_; try intro _ hK; try simp only [go_sem, *]) | refine Qh rfl ?_ | refine Qd rfl (by kernel_rfl) ?_ | (refine Qc rfl rfl ?_ ?_ <;> (intro hb; have hc := hb; try simp only [go_sem] at hc)) | refine q6 rfl ?_ | (refine Qb ?_ ?_; focus kernel_rfl) | ((first | refine y4 (s1) ?_ | refine y4 (s2) ?_); simp only [go_sem, *]) | ((with_reducible apply And.intro); focus omega) | (refine z8 hK ?_; clear hK; simp only [go_sem, *]) | simp only [z6, z7, go_sem, *])
 all_goals try contradiction
 refine ⟨[iV 0, .agg [iV c.kind, iV c.street, iV 0, iV c.src.number, iV c.src.letter, iV 0, iV 0]], [], [], ⟨rfl, by simp only [u1, go_sem], trivial⟩, ?_⟩
 simp only [go_sem, *]
theorem zQE (p : zLo) (c : Change) (hp : p.length ≤ 4294967296) (h1 : zLr c.kind 1 7 = true) (h2 : zLr c.street 0 ((p.length : Int) - 1) = true) (k4 : (c.kind == 4) = false) (k5 : (c.kind == 5) = false) (k6 : (c.kind == 6) = true) (k7 : (c.kind == 7) = false) : zLp prog 132 [x7 p, c.enc] [] (.tup [iV 0, .agg [iV c.kind, iV c.street, iV 0, iV c.src.number, iV c.src.letter, iV 0, iV 0]]) [] := by
 have hw : IntKind.i64.wrap ((p.length : Int) - 1) = (p.length : Int) - 1 := wrap_i64 (by omega) (by omega)
 have s1 := zIC c.kind 1 7
 rw [h1] at s1
 have s2 := zIC c.street 0 ((p.length : Int) - 1)
 rw [h2] at s2
 refine q8 func132 rfl (fun E hE => ?_); simp only [go_sem, ntmps132]
 repeat' (first | (refine Qr rfl ?_; try intro _ hK; try simp only [go_sem, *]) | refine Qh rfl ?_ | refine Qd rfl (by kernel_rfl) ?_ | (refine Qc rfl rfl ?_ ?_ <;> (intro hb; have hc := hb; try simp only [go_sem] at hc)) | refine q6 rfl ?_ | (refine Qb ?_ ?_; focus kernel_rfl) | ((first | refine y4 (s1) ?_ | refine y4 (s2) ?_); simp only [go_sem, *]) | ((with_reducible apply And.intro); focus omega) | (refine z8 hK ?_; clear hK; simp only [go_sem, *]) | simp only [z6, z7, go_sem, *])
 all_goals try contradiction
 refine ⟨[iV 0, .agg [iV c.kind, iV c.street, iV 0, iV c.src.number, iV c.src.letter, iV 0, iV 0]], [], [], ⟨rfl, by simp only [u1, go_sem], trivial⟩, ?_⟩
 simp only [go_sem, *]
theorem zQB (p : zLo) (c : Change) (hp : p.length ≤ 4294967296) (h1 : zLr c.kind 1 7 = true) (h2 : zLr c.street 0 ((p.length : Int) - 1) = true) (k4 : (c.kind == 4) = false) (k5 : (c.kind == 5) = false) (k6 : (c.kind == 6) = false) (k7 : (c.kind == 7) = false) : zLp prog 132 [x7 p, c.enc] [] (.tup [iV 0, .agg [iV c.kind, iV c.street, iV 0, iV 0, iV 0, iV 0, iV 0]]) [] := by
 have hw : IntKind.i64.wrap ((p.length : Int) - 1) = (p.length : Int) - 1 := wrap_i64 (by omega) (by omega)
 have s1 := zIC c.kind 1 7
 rw [h1] at s1
 have s2 := zIC c.street 0 ((p.length : Int) - 1)
 rw [h2] at s2
 refine q8 func132 rfl (fun E hE => ?_); simp only [go_sem, ntmps132]
 repeat' (first | (refine Qr rfl ?_; try intro _ hK; try simp only [go_sem, *]) | refine Qh rfl ?_ | refine Qd rfl (by kernel_rfl) ?_ | (refine Qc rfl rfl ?_ ?_ <;> (intro hb; have hc := hb; try simp only [go_sem] at hc)) | refine q6 rfl ?_ | (refine Qb ?_ ?_; focus kernel_rfl) | ((first | refine y4 (s1) ?_ | refine y4 (s2) ?_); simp only [go_sem, *]) | ((with_reducible apply And.intro); focus omega) | (refine z8 hK ?_; clear hK; simp only [go_sem, *]) | simp only [z6, z7, go_sem, *])
 all_goals try contradiction
 refine ⟨[iV 0, .agg [iV c.kind, iV c.street, iV 0, iV 0, iV 0, iV 0, iV 0]], [], [], ⟨rfl, by simp only [u1, go_sem], trivial⟩, ?_⟩
 simp only [go_sem, *]
def zND (p : zLo) (c : Change) : Int :=
 if zLr c.kind 1 7 = false then 8
 else if zLr c.street 0 (p.length - 1) = false then 3
 else if (c.kind = 4 ∨ c.kind = 7) ∧ zLr c.other 0 (p.length - 1) = false then 3
 else if (c.kind = 4 ∨ c.kind = 7) ∧ c.other = c.street then 4 else 0
def zNK (c : Change) : Change := ⟨c.kind, c.street, if c.kind = 4 ∨ c.kind = 7 then c.other else 0, if 5 ≤ c.kind then c.src else zeroPlate, if c.kind = 7 then c.dst else zeroPlate⟩
theorem zPf (p : zLo) (c : Change) : can p c = if zND p c = 0 then (if c = zNK c then x9 p c else 1) else zND p c := by
 unfold can zND
 by_cases h1 : zLr c.kind 1 7 = false
 ·rw [if_pos h1, if_pos h1, if_neg (by decide)]
 rw [if_neg h1, if_neg h1]
 by_cases h2 : zLr c.street 0 (p.length - 1) = false
 ·rw [if_pos h2, if_pos h2, if_neg (by decide)]
 rw [if_neg h2, if_neg h2]
 by_cases h3 : (c.kind = 4 ∨ c.kind = 7) ∧ zLr c.other 0 (p.length - 1) = false
 ·rw [if_pos h3, if_pos h3, if_neg (by decide)]
 rw [if_neg h3, if_neg h3]
 by_cases h4 : (c.kind = 4 ∨ c.kind = 7) ∧ c.other = c.street
 ·rw [if_pos h4, if_pos h4, if_neg (by decide)]
 rw [if_neg h4, if_neg h4, if_pos rfl]
 by_cases h5 : (¬ (c.kind = 4 ∨ c.kind = 7) ∧ c.other ≠ 0) ∨ (¬ 5 ≤ c.kind ∧ c.src ≠ zeroPlate) ∨ (¬ c.kind = 7 ∧ c.dst ≠ zeroPlate)
 ·rw [if_pos h5, if_neg]
  intro e
  rw [Change.eq_iff] at e
  obtain ⟨_, _, e1, e2, e3⟩ := e
  simp only [zNK] at e1 e2 e3
  rcases h5 with ⟨a, b⟩ | ⟨a, b⟩ | ⟨a, b⟩
  ·rw [if_neg a] at e1; exact b e1
  ·rw [if_neg a] at e2; exact b e2
  ·rw [if_neg a] at e3; exact b e3
 ·rw [if_neg h5, if_pos]
  rw [Change.eq_iff]
  refine ⟨rfl, rfl, ?_, ?_, ?_⟩
  ·simp only [zNK]
   split
   ·rfl
   ·rename_i a; exact Classical.byContradiction fun b => h5 (.inl ⟨a, b⟩)
  ·simp only [zNK]
   split
   ·rfl
   ·rename_i a; exact Classical.byContradiction fun b => h5 (.inr (.inl ⟨a, b⟩))
  ·simp only [zNK]
   split
   ·rfl
   ·rename_i a; exact Classical.byContradiction fun b => h5 (.inr (.inr ⟨a, b⟩))
theorem zQm (p : zLo) (c : Change) (hp : p.length ≤ 4294967296) : ∃ x : Change, (zND p c = 0 → x = zNK c) ∧ zLp prog 132 [x7 p, c.enc] [] (.tup [iV (zND p c), x.enc]) [] := by
 have bt : ∀ {b : Bool}, ¬ b = false → b = true := fun h => by simpa using h
 have nk : ∀ n : Int, ¬ c.kind = n → (c.kind == n) = false := fun n h => by rw [beq_eq_false_iff_ne]; exact h
 have yk : ∀ n : Int, c.kind = n → (c.kind == n) = true := fun n h => by rw [beq_iff_eq]; exact h
 by_cases h1 : zLr c.kind 1 7 = false
 ·have e : zND p c = 8 := by unfold zND; rw [if_pos h1]
  rw [e]
  exact ⟨⟨c.kind, c.street, 0, zeroPlate, zeroPlate⟩, fun h => by omega, zQA p c hp h1⟩
 by_cases h2 : zLr c.street 0 (p.length - 1) = false
 ·have e : zND p c = 3 := by unfold zND; rw [if_neg h1, if_pos h2]
  rw [e]
  exact ⟨⟨c.kind, c.street, 0, zeroPlate, zeroPlate⟩, fun h => by omega, zQK p c hp (bt h1) h2⟩
 have b1 := bt h1
 have b2 := bt h2
 by_cases k47 : c.kind = 4 ∨ c.kind = 7
 ·by_cases h3 : zLr c.other 0 (p.length - 1) = false
  ·have e : zND p c = 3 := by unfold zND; rw [if_neg h1, if_neg h2, if_pos ⟨k47, h3⟩]
   rw [e]
   refine ⟨⟨c.kind, c.street, c.other, zeroPlate, zeroPlate⟩, fun h => by omega, ?_⟩
   rcases k47 with k | k
   ·exact zQG p c hp b1 b2 (yk 4 k) (nk 5 (by omega)) (nk 6 (by omega)) (nk 7 (by omega)) h3
   ·exact zQH p c hp b1 b2 (nk 4 (by omega)) (nk 5 (by omega)) (nk 6 (by omega)) (yk 7 k) h3
  ·have b3 := bt h3
   by_cases h4 : c.other = c.street
   ·have e : zND p c = 4 := by unfold zND; rw [if_neg h1, if_neg h2, if_neg (fun h => h3 h.2), if_pos ⟨k47, h4⟩]
    have s4 : (c.other == c.street) = true := by rw [beq_iff_eq]; exact h4
    rw [e]
    refine ⟨⟨c.kind, c.street, c.other, zeroPlate, zeroPlate⟩, fun h => by omega, ?_⟩
    rcases k47 with k | k
    ·exact zQI p c hp b1 b2 (yk 4 k) (nk 5 (by omega)) (nk 6 (by omega)) (nk 7 (by omega)) b3 s4
    ·exact zQJ p c hp b1 b2 (nk 4 (by omega)) (nk 5 (by omega)) (nk 6 (by omega)) (yk 7 k) b3 s4
   ·have e : zND p c = 0 := by unfold zND; rw [if_neg h1, if_neg h2, if_neg (fun h => h3 h.2), if_neg (fun h => h4 h.2)]
    have s4 : (c.other == c.street) = false := by rw [beq_eq_false_iff_ne]; exact h4
    rw [e]
    rcases k47 with k | k
    ·refine ⟨⟨c.kind, c.street, c.other, zeroPlate, zeroPlate⟩, fun _ => ?_, zQC p c hp b1 b2 (yk 4 k) (nk 5 (by omega)) (nk 6 (by omega)) (nk 7 (by omega)) b3 s4⟩
     unfold zNK; simp [k]
    ·refine ⟨⟨c.kind, c.street, c.other, c.src, c.dst⟩, fun _ => ?_, zQF p c hp b1 b2 (nk 4 (by omega)) (nk 5 (by omega)) (nk 6 (by omega)) (yk 7 k) b3 s4⟩
     unfold zNK; simp [k]
 ·have e : zND p c = 0 := by unfold zND; rw [if_neg h1, if_neg h2, if_neg (fun h => k47 h.1), if_neg (fun h => k47 h.1)]
  rw [e]
  by_cases k5 : c.kind = 5
  ·refine ⟨⟨c.kind, c.street, 0, c.src, zeroPlate⟩, fun _ => ?_, zQD p c hp b1 b2 (nk 4 (by omega)) (yk 5 k5) (nk 6 (by omega)) (nk 7 (by omega))⟩
   unfold zNK; simp [k5]
  ·by_cases k6 : c.kind = 6
   ·refine ⟨⟨c.kind, c.street, 0, c.src, zeroPlate⟩, fun _ => ?_, zQE p c hp b1 b2 (nk 4 (by omega)) (nk 5 k5) (yk 6 k6) (nk 7 (by omega))⟩
    unfold zNK; simp [k6]
   ·have hk := betw_iff.1 b1
    refine ⟨⟨c.kind, c.street, 0, zeroPlate, zeroPlate⟩, fun _ => ?_, zQB p c hp b1 b2 (nk 4 (by omega)) (nk 5 k5) (nk 6 k6) (nk 7 (by omega))⟩
    unfold zNK
    rw [if_neg k47, if_neg (by omega), if_neg (by omega)]
end Go.Abs

namespace Go.Abs
open Go Go.Proofs Tryz
attribute [local irreducible] y6 Hold x8
theorem zOl (l : List Plate) (x : Plate) : zMI l x < 0 ↔ x ∉ l := by
 unfold zMI
 split
 ·rename_i h; simp [h]
 ·rename_i h; simp [h]
theorem zNw {l : List Plate} {x : Plate} (h : x ∈ l) : ¬ zMI l x < 0 := fun e => (zOl l x).1 e h
theorem zNv {l : List Plate} {x : Plate} (h : x ∉ l) : zMI l x < 0 := (zOl l x).2 h
theorem zPu (p : zLo) (c : Change) (v : Valid p) (hs : 0 ≤ c.street ∧ c.street < p.length) (ho : 0 ≤ c.other ∧ c.other < p.length) (k : c.kind = 4) (R : Int) (hR : x9 p c = R) : zLp prog 133 [x7 p, c.enc] [] (iV R) [] := by
 have hl := (v.row c.street).len
 have hol := (v.row c.other).len
 have hob := zDv (v.row c.other)
 have hok := (v.row c.street).ok
 have sb := zLX (q7 p c.other) (by omega) (v.row c.other).ok
 have hs' : c.street.toNat < p.length := by omega
 have ho' : c.other.toNat < p.length := by omega
 obtain ⟨hs0, hs1⟩ := hs
 obtain ⟨ho0, ho1⟩ := ho
 have hw : IntKind.i64.wrap (((q7 p c.street).length : Int) + ((q7 p c.other).length : Int)) = ((q7 p c.street).length : Int) + ((q7 p c.other).length : Int) := wrap_i64 (by omega) (by omega)
 rw [A7 k] at hR
 have k' : (c.kind == 4) = true := by rw [beq_iff_eq]; exact k
 clear k
 by_cases q : 8 < (q7 p c.street).length + (q7 p c.other).length
 ·rw [if_pos q] at hR
  have q' : ((q7 p c.street).length : Int) + ((q7 p c.other).length : Int) > 8 := by omega
  subst hR
  clear hob hok
  refine q8 func133 rfl (fun E hE => ?_); simp only [go_sem, ntmps133]
  repeat' (first | (refine Qr rfl ?_; try intro _ hK; try simp only [go_sem, *]) | (refine Qi rfl rfl rfl rfl ?_ ?_ <;> (intro hb; (try intro _ hK); have hc := hb; try simp only [go_sem] at hc; simp only [go_sem, *])) | refine Qh rfl ?_ | refine Qd rfl (by kernel_rfl) ?_ | (refine Qc rfl rfl ?_ ?_ <;> (intro hb; have hc := hb; try simp only [go_sem] at hc)) | refine q6 rfl ?_ | (refine Qb ?_ ?_; focus kernel_rfl) | ((with_reducible apply And.intro); focus omega) | (refine z8 hK ?_; clear hK; simp only [go_sem, *]) | simp only [z6, z7, go_sem, *])
  all_goals first | contradiction | omega | skip
  (refine ⟨[_], [], [], ⟨rfl, trivial⟩, ?_⟩; simp only [go_sem, *])
 ·rw [if_neg q] at hR
  have q' : ¬ ((q7 p c.street).length : Int) + ((q7 p c.other).length : Int) > 8 := by omega
  have hR0 : (if ((q7 p c.street).drop 0).any (fun x => decide (40 < x.number + base (q7 p c.other))) = true then (1 : Int) else 0) = R := hR
  clear hR q
  generalize base (q7 p c.other) = bb at *
  refine q8 func133 rfl (fun E hE => ?_); simp only [go_sem, ntmps133]
  repeat' (first | (refine Qr rfl ?_; try intro _ hK; try simp only [go_sem, *]) | (refine Qi rfl rfl rfl rfl ?_ ?_ <;> (intro hb; (try intro _ hK); have hc := hb; try simp only [go_sem] at hc; simp only [go_sem, *])) | refine Qh rfl ?_ | refine Qd rfl (by kernel_rfl) ?_ | (refine Qc rfl rfl ?_ ?_ <;> (intro hb; have hc := hb; try simp only [go_sem] at hc)) | refine q6 rfl ?_ | (refine Qb ?_ ?_; focus kernel_rfl) | ((with_reducible apply And.intro); focus omega) | (refine z8 hK ?_; clear hK; simp only [go_sem, *]) | simp only [z6, z7, go_sem, *])
  all_goals first | contradiction | omega | skip
  generalize hll : q7 p c.street = l at *
  refine u3 rfl (l.length) (fun i => (if (l.drop i).any (fun x => decide (40 < x.number + bb)) = true then (1 : Int) else 0) = R) 97 (fun i => [(7, iV i), (6, y7 (q7 p c.other)), (5, y7 l)]) (fun i => []) [] [] (by exact hR0) ?_; intro i hi hP
  clear hR0
  by_cases hi2 : i < l.length
  ·have hx := (o3 _).1 (hok _ (w8 hi2))
   rw [u0 hi2, List.any_cons] at hP
   have hwx : IntKind.i64.wrap ((l.getD i default).number + bb) = (l.getD i default).number + bb := wrap_i64 (by omega) (by omega)
   by_cases r : 40 < (l.getD i default).number + bb
   ·have e : decide (40 < (l.getD i default).number + bb) = true := by simpa using r
    rw [e, Bool.true_or, if_pos rfl] at hP
    have r' : (l.getD i default).number + bb > 40 := r
    clear e r
    subst hP
    repeat' (first | (refine Qr rfl ?_; try intro _ hK; try simp only [go_sem, *]) | (refine Qi rfl rfl rfl rfl ?_ ?_ <;> (intro hb; (try intro _ hK); have hc := hb; try simp only [go_sem] at hc; simp only [go_sem, *])) | refine Qh rfl ?_ | refine Qd rfl (by kernel_rfl) ?_ | (refine Qc rfl rfl ?_ ?_ <;> (intro hb; have hc := hb; try simp only [go_sem] at hc)) | refine q6 rfl ?_ | (refine Qb ?_ ?_; focus kernel_rfl) | (refine y4 (sb) ?_; simp only [go_sem, *]) | ((with_reducible apply And.intro); focus omega) | (refine z8 hK ?_; clear hK; simp only [go_sem, *]) | simp only [z6, z7, go_sem, *])
    all_goals first | contradiction | omega | skip
    (refine ⟨[_], [], [], ⟨rfl, trivial⟩, ?_⟩; simp only [go_sem, *])
   ·have e : decide (40 < (l.getD i default).number + bb) = false := by simpa using r
    rw [e, Bool.false_or] at hP
    have r' : ¬ (l.getD i default).number + bb > 40 := r
    clear e r
    repeat' (first | (refine Qr rfl ?_; try intro _ hK; try simp only [go_sem, *]) | (refine Qi rfl rfl rfl rfl ?_ ?_ <;> (intro hb; (try intro _ hK); have hc := hb; try simp only [go_sem] at hc; simp only [go_sem, *])) | refine Qh rfl ?_ | refine Qd rfl (by kernel_rfl) ?_ | (refine Qc rfl rfl ?_ ?_ <;> (intro hb; have hc := hb; try simp only [go_sem] at hc)) | refine q6 rfl ?_ | (refine Qb ?_ ?_; focus kernel_rfl) | (refine y4 (sb) ?_; simp only [go_sem, *]) | ((with_reducible apply And.intro); focus omega) | (refine z8 hK ?_; clear hK; simp only [go_sem, *]) | simp only [z6, z7, go_sem, *])
    all_goals first | contradiction | omega | skip
    exact u2 (i' := i + 1) [] [] (by exact hP)
  ·rw [u7 (by omega), List.any_nil, if_neg (by decide)] at hP
   subst hP
   repeat' (first | (refine Qr rfl ?_; try intro _ hK; try simp only [go_sem, *]) | (refine Qi rfl rfl rfl rfl ?_ ?_ <;> (intro hb; (try intro _ hK); have hc := hb; try simp only [go_sem] at hc; simp only [go_sem, *])) | refine Qh rfl ?_ | refine Qd rfl (by kernel_rfl) ?_ | (refine Qc rfl rfl ?_ ?_ <;> (intro hb; have hc := hb; try simp only [go_sem] at hc)) | refine q6 rfl ?_ | (refine Qb ?_ ?_; focus kernel_rfl) | ((with_reducible apply And.intro); focus omega) | (refine z8 hK ?_; clear hK; simp only [go_sem, *]) | simp only [z6, z7, go_sem, *])
   (refine ⟨[_], [], [], ⟨rfl, trivial⟩, ?_⟩; simp only [go_sem, *])
theorem zPv (p : zLo) (c : Change) (v : Valid p) (hs : 0 ≤ c.street ∧ c.street < p.length) (k : c.kind = 5) (R : Int) (hR : x9 p c = R) : zLp prog 133 [x7 p, c.enc] [] (iV R) [] := by
 have hl := (v.row c.street).len
 have hs' : c.street.toNat < p.length := by omega
 obtain ⟨hs0, hs1⟩ := hs
 rw [L9 k] at hR
 have k' : (c.kind == 5) = true := by rw [beq_iff_eq]; exact k
 have k4 : (c.kind == 4) = false := by rw [beq_eq_false_iff_ne]; omega
 clear k
 have s1 := zHp (q7 p c.street) c.src (by omega)
 have s2 := zLY (q7 p c.street) c.src.number (by omega)
 by_cases q : c.src ∈ q7 p c.street
 ·rw [if_neg (by simpa using q)] at hR
  have q' := zNw q
  clear q
  generalize zMI (q7 p c.street) c.src = ix at *
  generalize letter (q7 p c.street) c.src.number = lt at *
  by_cases r : (q7 p c.street).length = 8
  ·rw [if_pos (.inl r)] at hR
   have r' : (((q7 p c.street).length : Int) == 8) = true := by rw [beq_iff_eq]; omega
   clear r
   subst hR
   refine q8 func133 rfl (fun E hE => ?_); simp only [go_sem, ntmps133]
   repeat' (first | (refine Qr rfl ?_; try intro _ hK; try simp only [go_sem, *]) | (refine Qi rfl rfl rfl rfl ?_ ?_ <;> (intro hb; (try intro _ hK); have hc := hb; try simp only [go_sem] at hc; simp only [go_sem, *])) | refine Qh rfl ?_ | refine Qd rfl (by kernel_rfl) ?_ | (refine Qc rfl rfl ?_ ?_ <;> (intro hb; have hc := hb; try simp only [go_sem] at hc)) | refine q6 rfl ?_ | (refine Qb ?_ ?_; focus kernel_rfl) | ((first | refine y4 (s1) ?_ | refine y4 (s2) ?_); simp only [go_sem, *]) | ((with_reducible apply And.intro); focus omega) | (refine z8 hK ?_; clear hK; simp only [go_sem, *]) | simp only [z6, z7, go_sem, *])
   all_goals first | contradiction | omega | skip
   (refine ⟨[_], [], [], ⟨rfl, trivial⟩, ?_⟩; simp only [go_sem, *])
  ·have r' : (((q7 p c.street).length : Int) == 8) = false := by rw [beq_eq_false_iff_ne]; omega
   by_cases t : lt = 0
   ·rw [if_pos (.inr t)] at hR
    clear r
    subst t
    subst hR
    refine q8 func133 rfl (fun E hE => ?_); simp only [go_sem, ntmps133]
    repeat' (first | (refine Qr rfl ?_; try intro _ hK; try simp only [go_sem, *]) | (refine Qi rfl rfl rfl rfl ?_ ?_ <;> (intro hb; (try intro _ hK); have hc := hb; try simp only [go_sem] at hc; simp only [go_sem, *])) | refine Qh rfl ?_ | refine Qd rfl (by kernel_rfl) ?_ | (refine Qc rfl rfl ?_ ?_ <;> (intro hb; have hc := hb; try simp only [go_sem] at hc)) | refine q6 rfl ?_ | (refine Qb ?_ ?_; focus kernel_rfl) | ((first | refine y4 (s1) ?_ | refine y4 (s2) ?_); simp only [go_sem, *]) | ((with_reducible apply And.intro); focus omega) | (refine z8 hK ?_; clear hK; simp only [go_sem, *]) | simp only [z6, z7, go_sem, *])
    all_goals first | contradiction | omega | skip
    (refine ⟨[_], [], [], ⟨rfl, trivial⟩, ?_⟩; simp only [go_sem, *])
   ·rw [if_neg (by rintro (h | h); exact r h; exact t h)] at hR
    have t' : (lt == 0) = false := by rw [beq_eq_false_iff_ne]; exact t
    clear r t
    subst hR
    refine q8 func133 rfl (fun E hE => ?_); simp only [go_sem, ntmps133]
    repeat' (first | (refine Qr rfl ?_; try intro _ hK; try simp only [go_sem, *]) | (refine Qi rfl rfl rfl rfl ?_ ?_ <;> (intro hb; (try intro _ hK); have hc := hb; try simp only [go_sem] at hc; simp only [go_sem, *])) | refine Qh rfl ?_ | refine Qd rfl (by kernel_rfl) ?_ | (refine Qc rfl rfl ?_ ?_ <;> (intro hb; have hc := hb; try simp only [go_sem] at hc)) | refine q6 rfl ?_ | (refine Qb ?_ ?_; focus kernel_rfl) | ((first | refine y4 (s1) ?_ | refine y4 (s2) ?_); simp only [go_sem, *]) | ((with_reducible apply And.intro); focus omega) | (refine z8 hK ?_; clear hK; simp only [go_sem, *]) | simp only [z6, z7, go_sem, *])
    all_goals first | contradiction | omega | skip
    (refine ⟨[_], [], [], ⟨rfl, trivial⟩, ?_⟩; simp only [go_sem, *])
 ·rw [if_pos q] at hR
  have q' := zNv q
  clear q
  generalize zMI (q7 p c.street) c.src = ix at *
  subst hR
  refine q8 func133 rfl (fun E hE => ?_); simp only [go_sem, ntmps133]
  repeat' (first | (refine Qr rfl ?_; try intro _ hK; try simp only [go_sem, *]) | (refine Qi rfl rfl rfl rfl ?_ ?_ <;> (intro hb; (try intro _ hK); have hc := hb; try simp only [go_sem] at hc; simp only [go_sem, *])) | refine Qh rfl ?_ | refine Qd rfl (by kernel_rfl) ?_ | (refine Qc rfl rfl ?_ ?_ <;> (intro hb; have hc := hb; try simp only [go_sem] at hc)) | refine q6 rfl ?_ | (refine Qb ?_ ?_; focus kernel_rfl) | (refine y4 (s1) ?_; simp only [go_sem, *]) | ((with_reducible apply And.intro); focus omega) | (refine z8 hK ?_; clear hK; simp only [go_sem, *]) | simp only [z6, z7, go_sem, *])
  all_goals first | contradiction | omega | skip
  (refine ⟨[_], [], [], ⟨rfl, trivial⟩, ?_⟩; simp only [go_sem, *])
theorem zPw (p : zLo) (c : Change) (v : Valid p) (hs : 0 ≤ c.street ∧ c.street < p.length) (k : c.kind = 6) (R : Int) (hR : x9 p c = R) : zLp prog 133 [x7 p, c.enc] [] (iV R) [] := by
 have hl := (v.row c.street).len
 have hs' : c.street.toNat < p.length := by omega
 obtain ⟨hs0, hs1⟩ := hs
 rw [zBe k] at hR
 have k' : (c.kind == 6) = true := by rw [beq_iff_eq]; exact k
 have k4 : (c.kind == 4) = false := by rw [beq_eq_false_iff_ne]; omega
 have k5 : (c.kind == 5) = false := by rw [beq_eq_false_iff_ne]; omega
 clear k
 have s1 := zHp (q7 p c.street) c.src (by omega)
 by_cases q : c.src ∈ q7 p c.street
 ·rw [if_neg (by simpa using q)] at hR
  have q' := zNw q
  clear q
  generalize zMI (q7 p c.street) c.src = ix at *
  subst hR
  refine q8 func133 rfl (fun E hE => ?_); simp only [go_sem, ntmps133]
  repeat' (first | (refine Qr rfl ?_; try intro _ hK; try simp only [go_sem, *]) | (refine Qi rfl rfl rfl rfl ?_ ?_ <;> (intro hb; (try intro _ hK); have hc := hb; try simp only [go_sem] at hc; simp only [go_sem, *])) | refine Qh rfl ?_ | refine Qd rfl (by kernel_rfl) ?_ | (refine Qc rfl rfl ?_ ?_ <;> (intro hb; have hc := hb; try simp only [go_sem] at hc)) | refine q6 rfl ?_ | (refine Qb ?_ ?_; focus kernel_rfl) | (refine y4 (s1) ?_; simp only [go_sem, *]) | ((with_reducible apply And.intro); focus omega) | (refine z8 hK ?_; clear hK; simp only [go_sem, *]) | simp only [z6, z7, go_sem, *])
  all_goals first | contradiction | omega | skip
  (refine ⟨[_], [], [], ⟨rfl, trivial⟩, ?_⟩; simp only [go_sem, *])
 ·rw [if_pos q] at hR
  have q' := zNv q
  clear q
  generalize zMI (q7 p c.street) c.src = ix at *
  subst hR
  refine q8 func133 rfl (fun E hE => ?_); simp only [go_sem, ntmps133]
  repeat' (first | (refine Qr rfl ?_; try intro _ hK; try simp only [go_sem, *]) | (refine Qi rfl rfl rfl rfl ?_ ?_ <;> (intro hb; (try intro _ hK); have hc := hb; try simp only [go_sem] at hc; simp only [go_sem, *])) | refine Qh rfl ?_ | refine Qd rfl (by kernel_rfl) ?_ | (refine Qc rfl rfl ?_ ?_ <;> (intro hb; have hc := hb; try simp only [go_sem] at hc)) | refine q6 rfl ?_ | (refine Qb ?_ ?_; focus kernel_rfl) | (refine y4 (s1) ?_; simp only [go_sem, *]) | ((with_reducible apply And.intro); focus omega) | (refine z8 hK ?_; clear hK; simp only [go_sem, *]) | simp only [z6, z7, go_sem, *])
  all_goals first | contradiction | omega | skip
  (refine ⟨[_], [], [], ⟨rfl, trivial⟩, ?_⟩; simp only [go_sem, *])
theorem zPx (p : zLo) (c : Change) (v : Valid p) (hs : 0 ≤ c.street ∧ c.street < p.length) (ho : 0 ≤ c.other ∧ c.other < p.length) (k : c.kind = 7) (R : Int) (hR : x9 p c = R) : zLp prog 133 [x7 p, c.enc] [] (iV R) [] := by
 have hl := (v.row c.street).len
 have hs' : c.street.toNat < p.length := by omega
 have ho' : c.other.toNat < p.length := by omega
 obtain ⟨hs0, hs1⟩ := hs
 obtain ⟨ho0, ho1⟩ := ho
 rw [G2 k] at hR
 have k' : (c.kind == 7) = true := by rw [beq_iff_eq]; exact k
 have k4 : (c.kind == 4) = false := by rw [beq_eq_false_iff_ne]; omega
 have k5 : (c.kind == 5) = false := by rw [beq_eq_false_iff_ne]; omega
 have k6 : (c.kind == 6) = false := by rw [beq_eq_false_iff_ne]; omega
 clear k
 have s1 := zHp (q7 p c.street) c.src (by omega)
 have s2 := zHp (q7 p c.street) c.dst (by omega)
 have s3 := zHE c.dst c.src
 by_cases q : c.src ∈ q7 p c.street
 ·have q' := zNw q
  by_cases r : c.dst ∈ q7 p c.street
  ·have r' := zNw r
   rw [if_neg (by rintro (h | h); exact h q; exact h r)] at hR
   clear q r
   generalize zMI (q7 p c.street) c.src = ix at *
   generalize zMI (q7 p c.street) c.dst = iy at *
   by_cases t : c.dst.lt c.src = true
   ·rw [if_pos t] at hR
    rw [t] at s3
    clear t
    subst hR
    refine q8 func133 rfl (fun E hE => ?_); simp only [go_sem, ntmps133]
    repeat' (first | (refine Qr rfl ?_; try intro _ hK; try simp only [go_sem, *]) | (refine Qi rfl rfl rfl rfl ?_ ?_ <;> (intro hb; (try intro _ hK); have hc := hb; try simp only [go_sem] at hc; simp only [go_sem, *])) | refine Qh rfl ?_ | refine Qd rfl (by kernel_rfl) ?_ | (refine Qc rfl rfl ?_ ?_ <;> (intro hb; have hc := hb; try simp only [go_sem] at hc)) | refine q6 rfl ?_ | (refine Qb ?_ ?_; focus kernel_rfl) | ((first | refine y4 (s1) ?_ | refine y4 (s2) ?_ | refine y4 (s3) ?_); simp only [go_sem, *]) | ((with_reducible apply And.intro); focus omega) | (refine z8 hK ?_; clear hK; simp only [go_sem, *]) | simp only [z6, z7, go_sem, *])
    all_goals first | contradiction | omega | skip
    (refine ⟨[_], [], [], ⟨rfl, trivial⟩, ?_⟩; simp only [go_sem, *])
   ·rw [if_neg t] at hR
    rw [Bool.not_eq_true] at t
    rw [t] at s3
    clear t
    by_cases u : 0 < (q7 p c.other).length
    ·rw [if_pos u] at hR
     subst hR
     refine q8 func133 rfl (fun E hE => ?_); simp only [go_sem, ntmps133]
     repeat' (first | (refine Qr rfl ?_; try intro _ hK; try simp only [go_sem, *]) | (refine Qi rfl rfl rfl rfl ?_ ?_ <;> (intro hb; (try intro _ hK); have hc := hb; try simp only [go_sem] at hc; simp only [go_sem, *])) | refine Qh rfl ?_ | refine Qd rfl (by kernel_rfl) ?_ | (refine Qc rfl rfl ?_ ?_ <;> (intro hb; have hc := hb; try simp only [go_sem] at hc)) | refine q6 rfl ?_ | (refine Qb ?_ ?_; focus kernel_rfl) | ((first | refine y4 (s1) ?_ | refine y4 (s2) ?_ | refine y4 (s3) ?_); simp only [go_sem, *]) | ((with_reducible apply And.intro); focus omega) | (refine z8 hK ?_; clear hK; simp only [go_sem, *]) | simp only [z6, z7, go_sem, *])
     all_goals first | contradiction | omega | skip
     (refine ⟨[_], [], [], ⟨rfl, trivial⟩, ?_⟩; simp only [go_sem, *])
    ·rw [if_neg u] at hR
     subst hR
     refine q8 func133 rfl (fun E hE => ?_); simp only [go_sem, ntmps133]
     repeat' (first | (refine Qr rfl ?_; try intro _ hK; try simp only [go_sem, *]) | (refine Qi rfl rfl rfl rfl ?_ ?_ <;> (intro hb; (try intro _ hK); have hc := hb; try simp only [go_sem] at hc; simp only [go_sem, *])) | refine Qh rfl ?_ | refine Qd rfl (by kernel_rfl) ?_ | (refine Qc rfl rfl ?_ ?_ <;> (intro hb; have hc := hb; try simp only [go_sem] at hc)) | refine q6 rfl ?_ | (refine Qb ?_ ?_; focus kernel_rfl) | ((first | refine y4 (s1) ?_ | refine y4 (s2) ?_ | refine y4 (s3) ?_); simp only [go_sem, *]) | ((with_reducible apply And.intro); focus omega) | (refine z8 hK ?_; clear hK; simp only [go_sem, *]) | simp only [z6, z7, go_sem, *])
     all_goals first | contradiction | omega | skip
     (refine ⟨[_], [], [], ⟨rfl, trivial⟩, ?_⟩; simp only [go_sem, *])
  ·have r' := zNv r
   rw [if_pos (.inr r)] at hR
   clear q r
   generalize zMI (q7 p c.street) c.src = ix at *
   generalize zMI (q7 p c.street) c.dst = iy at *
   subst hR
   refine q8 func133 rfl (fun E hE => ?_); simp only [go_sem, ntmps133]
   repeat' (first | (refine Qr rfl ?_; try intro _ hK; try simp only [go_sem, *]) | (refine Qi rfl rfl rfl rfl ?_ ?_ <;> (intro hb; (try intro _ hK); have hc := hb; try simp only [go_sem] at hc; simp only [go_sem, *])) | refine Qh rfl ?_ | refine Qd rfl (by kernel_rfl) ?_ | (refine Qc rfl rfl ?_ ?_ <;> (intro hb; have hc := hb; try simp only [go_sem] at hc)) | refine q6 rfl ?_ | (refine Qb ?_ ?_; focus kernel_rfl) | ((first | refine y4 (s1) ?_ | refine y4 (s2) ?_); simp only [go_sem, *]) | ((with_reducible apply And.intro); focus omega) | (refine z8 hK ?_; clear hK; simp only [go_sem, *]) | simp only [z6, z7, go_sem, *])
   all_goals first | contradiction | omega | skip
   (refine ⟨[_], [], [], ⟨rfl, trivial⟩, ?_⟩; simp only [go_sem, *])
 ·have q' := zNv q
  rw [if_pos (.inl q)] at hR
  clear q
  generalize zMI (q7 p c.street) c.src = ix at *
  subst hR
  refine q8 func133 rfl (fun E hE => ?_); simp only [go_sem, ntmps133]
  repeat' (first | (refine Qr rfl ?_; try intro _ hK; try simp only [go_sem, *]) | (refine Qi rfl rfl rfl rfl ?_ ?_ <;> (intro hb; (try intro _ hK); have hc := hb; try simp only [go_sem] at hc; simp only [go_sem, *])) | refine Qh rfl ?_ | refine Qd rfl (by kernel_rfl) ?_ | (refine Qc rfl rfl ?_ ?_ <;> (intro hb; have hc := hb; try simp only [go_sem] at hc)) | refine q6 rfl ?_ | (refine Qb ?_ ?_; focus kernel_rfl) | (refine y4 (s1) ?_; simp only [go_sem, *]) | ((with_reducible apply And.intro); focus omega) | (refine z8 hK ?_; clear hK; simp only [go_sem, *]) | simp only [z6, z7, go_sem, *])
  all_goals first | contradiction | omega | skip
  (refine ⟨[_], [], [], ⟨rfl, trivial⟩, ?_⟩; simp only [go_sem, *])
theorem zN9 (p : zLo) (c : Change) (hs : 0 ≤ c.street ∧ c.street < p.length) (k : c.kind < 4) : zLp prog 133 [x7 p, c.enc] [] (iV 0) [] := by
 have hs' : c.street.toNat < p.length := by omega
 obtain ⟨hs0, hs1⟩ := hs
 have k7 : (c.kind == 7) = false := by rw [beq_eq_false_iff_ne]; omega
 have k4 : (c.kind == 4) = false := by rw [beq_eq_false_iff_ne]; omega
 have k5 : (c.kind == 5) = false := by rw [beq_eq_false_iff_ne]; omega
 have k6 : (c.kind == 6) = false := by rw [beq_eq_false_iff_ne]; omega
 clear k
 refine q8 func133 rfl (fun E hE => ?_); simp only [go_sem, ntmps133]
 repeat' (first | (refine Qr rfl ?_; try intro _ hK; try simp only [go_sem, *]) | (refine Qi rfl rfl rfl rfl ?_ ?_ <;> (intro hb; (try intro _ hK); have hc := hb; try simp only [go_sem] at hc; simp only [go_sem, *])) | refine Qh rfl ?_ | refine Qd rfl (by kernel_rfl) ?_ | (refine Qc rfl rfl ?_ ?_ <;> (intro hb; have hc := hb; try simp only [go_sem] at hc)) | refine q6 rfl ?_ | (refine Qb ?_ ?_; focus kernel_rfl) | ((with_reducible apply And.intro); focus omega) | (refine z8 hK ?_; clear hK; simp only [go_sem, *]) | simp only [z6, z7, go_sem, *])
 all_goals first | contradiction | omega | skip
 (refine ⟨[_], [], [], ⟨rfl, trivial⟩, ?_⟩; simp only [go_sem, *])
theorem zQy (p : zLo) (c : Change) (v : Valid p) (hk : 1 ≤ c.kind ∧ c.kind ≤ 7) (hs : 0 ≤ c.street ∧ c.street < p.length) (ho : c.kind = 4 ∨ c.kind = 7 → 0 ≤ c.other ∧ c.other < p.length) : zLp prog 133 [x7 p, c.enc] [] (iV (x9 p c)) [] := by
 rcases K7 hk with k | k | k | k | k | k | k
 ·rw [show x9 p c = 0 by simp [x9, k]]; exact zN9 p c hs (by omega)
 ·rw [show x9 p c = 0 by simp [x9, k]]; exact zN9 p c hs (by omega)
 ·rw [show x9 p c = 0 by simp [x9, k]]; exact zN9 p c hs (by omega)
 ·exact zPu p c v hs (ho (.inl k)) k _ rfl
 ·exact zPv p c v hs k _ rfl
 ·exact zPw p c v hs k _ rfl
 ·exact zPx p c v hs (ho (.inr k)) k _ rfl
theorem zQa (p : zLo) (c : Change) (v : Valid p) : zLp prog 98 [x7 p, c.enc] [] (iV (can p c)) [] := by
 have hp3 := v.len
 obtain ⟨x, hx, s1⟩ := zQm p c (by omega)
 rw [zPf]
 by_cases e : zND p c = 0
 ·rw [if_pos e]
  rw [e] at s1
  have hx2 := hx e
  clear hx
  rw [← hx2]
  by_cases q : c = x
  ·rw [if_pos q]
   have q' : decide (c = x) = true := by simpa using q
   have hb : zLr c.kind 1 7 = true ∧ zLr c.street 0 ((p.length : Int) - 1) = true ∧ (c.kind = 4 ∨ c.kind = 7 → zLr c.other 0 ((p.length : Int) - 1) = true) := by
    unfold zND at e
    split at e
    ·omega
    ·rename_i h1
     split at e
     ·omega
     ·rename_i h2
      split at e
      ·omega
      ·rename_i h3
       refine ⟨by simpa using h1, by simpa using h2, fun h => ?_⟩
       cases hh : zLr c.other 0 ((p.length : Int) - 1) with
       | true => rfl
       | false => exact absurd ⟨h, hh⟩ h3
   have b1 := betw_iff.1 hb.1
   have b2 := betw_iff.1 hb.2.1
   have s2 := zQy p c v b1 (by omega) (fun h => by have := betw_iff.1 (hb.2.2 h); omega)
   clear q hb b1 b2 e hx2
   refine q8 func98 rfl (fun E hE => ?_); simp only [go_sem, ntmps98]
   repeat' (first | (refine Qr rfl ?_; try intro _ hK; try simp only [go_sem, *]) | refine Qh rfl ?_ | (refine Qc rfl rfl ?_ ?_ <;> (intro hb; have hc := hb; try simp only [go_sem] at hc)) | refine q6 rfl ?_ | ((first | refine y4 (s1) ?_ | refine y4 (s2) ?_); simp only [go_sem, *]) | ((with_reducible apply And.intro); focus omega) | (refine z8 hK ?_; clear hK; simp only [go_sem, *]) | simp only [z6, z7, go_sem, *])
   all_goals try contradiction
   (refine ⟨[_], [], [], ⟨rfl, trivial⟩, ?_⟩; simp only [go_sem, *])
  ·rw [if_neg q]
   have q' : decide (c = x) = false := by simpa using q
   clear q e hx2
   refine q8 func98 rfl (fun E hE => ?_); simp only [go_sem, ntmps98]
   repeat' (first | (refine Qr rfl ?_; try intro _ hK; try simp only [go_sem, *]) | refine Qh rfl ?_ | (refine Qc rfl rfl ?_ ?_ <;> (intro hb; have hc := hb; try simp only [go_sem] at hc)) | refine q6 rfl ?_ | (refine y4 (s1) ?_; simp only [go_sem, *]) | ((with_reducible apply And.intro); focus omega) | (refine z8 hK ?_; clear hK; simp only [go_sem, *]) | simp only [z6, z7, go_sem, *])
   all_goals try contradiction
   (refine ⟨[_], [], [], ⟨rfl, trivial⟩, ?_⟩; simp only [go_sem, *])
 ·rw [if_neg e]
  have e' : (zND p c == 0) = false := by rw [beq_eq_false_iff_ne]; exact e
  clear hx
  generalize zND p c = er at *
  refine q8 func98 rfl (fun E hE => ?_); simp only [go_sem, ntmps98]
  repeat' (first | (refine Qr rfl ?_; try intro _ hK; try simp only [go_sem, *]) | refine Qh rfl ?_ | (refine Qc rfl rfl ?_ ?_ <;> (intro hb; have hc := hb; try simp only [go_sem] at hc)) | refine q6 rfl ?_ | (refine y4 (s1) ?_; simp only [go_sem, *]) | ((with_reducible apply And.intro); focus omega) | (refine z8 hK ?_; clear hK; simp only [go_sem, *]) | simp only [z6, z7, go_sem, *])
  all_goals try contradiction
  (refine ⟨[_], [], [], ⟨rfl, trivial⟩, ?_⟩; simp only [go_sem, *])
end Go.Abs

namespace Go.Abs
open Go Go.Proofs Tryz
attribute [local irreducible] y6 Hold x8
theorem zNY {l : List Plate} (h : Sound l) {x : Plate} (hx : x ∈ l) : l.filter (R8 (decide (x.number.tmod 2 = 1))) = l.filter (fun y => zLv y == zLv x) := by
 refine List.filter_congr (fun y hy => ?_)
 have := (o3 _).1 (h.ok _ hx)
 have := (o3 _).1 (h.ok _ hy)
 have e1 : x.number.tmod 2 = x.number % 2 := Int.tmod_eq_emod_of_nonneg (by omega)
 have e2 : y.number.tmod 2 = y.number % 2 := Int.tmod_eq_emod_of_nonneg (by omega)
 unfold R8 zLv
 rw [e1, e2]
 rfl
theorem zRA (p : zLo) (c : Change) (x : Plate) (v : Valid p) (hs : 0 ≤ c.street ∧ c.street < p.length) (hx : x ∈ q7 p c.street) (k : c.kind = 1) : zLp prog 141 [x7 p, c.enc, x.enc] [] (Q3 (toP p c x)) [] := by
 generalize hRR : toP p c x = R
 unfold toP at hRR
 rw [if_pos k] at hRR
 have k1 : (c.kind == 1) = true := by rw [beq_iff_eq]; exact k
 clear k
 have hl := (v.row c.street).len
 have hxk := (o3 _).1 ((v.row c.street).ok _ hx)
 have hs' : c.street.toNat < p.length := by omega
 obtain ⟨hs0, hs1⟩ := hs
 have ho := zNY (v.row c.street) hx
 have sp := zLZ (q7 p c.street) (decide (x.number.tmod 2 = 1)) (by omega)
 rw [ho] at sp
 have hxo := N0 hx
 have hol : ((q7 p c.street).filter (fun y => zLv y == zLv x)).length ≤ 8 := Nat.le_trans (List.length_filter_le _ _) hl
 have e1 : x.number.tmod 2 = x.number % 2 := Int.tmod_eq_emod_of_nonneg (by omega)
 clear ho
 generalize (q7 p c.street).filter (fun y => zLv y == zLv x) = o at *
 have si := zHp o x (by omega)
 rw [Q5 hxo] at si
 have hk := X0 hxo
 generalize o.idxOf x = kk at *
 have w1 : IntKind.i64.wrap ((o.length : Int) - 1) = ((o.length - 1 : Nat) : Int) := by rw [wrap_i64 (by omega) (by omega)]; omega
 have hj : o.length - 1 - kk < o.length := by omega
 have w2 : IntKind.i64.wrap (((o.length - 1 : Nat) : Int) - (kk : Int)) = ((o.length - 1 - kk : Nat) : Int) := by rw [wrap_i64 (by omega) (by omega)]; omega
 generalize o.length - 1 - kk = j at *
 subst hRR
 rw [e1] at sp
 refine q8 func141 rfl (fun E hE => ?_); simp only [go_sem, ntmps141]
 repeat' (first | (refine Qr rfl ?_; try intro _ hK; try simp only [go_sem, *]) | (refine Qi rfl rfl rfl rfl ?_ ?_ <;> (intro hb; (try intro _ hK); have hc := hb; try simp only [go_sem] at hc; simp only [go_sem, *])) | refine Qh rfl ?_ | refine Qd rfl (by kernel_rfl) ?_ | (refine Qc rfl rfl ?_ ?_ <;> (intro hb; have hc := hb; try simp only [go_sem] at hc)) | refine q6 rfl ?_ | (refine Qb ?_ ?_; focus kernel_rfl) | (refine s8 (sp) ?_; simp only [go_sem, *]) | ((with_reducible apply And.intro); focus omega) | (refine z8 hK ?_; clear hK; simp only [go_sem, *]) | simp only [z6, z7, go_sem, *])
 all_goals first | contradiction | omega | skip
 (refine B6 [3] (si) (by simp only [go_sem, *]) (.raw _) ?_; simp only [go_sem, *])
 repeat' (first | (refine Qr rfl ?_; try intro _ hK; try simp only [go_sem, *]) | (refine Qi rfl rfl rfl rfl ?_ ?_ <;> (intro hb; (try intro _ hK); have hc := hb; try simp only [go_sem] at hc; simp only [go_sem, *])) | refine Qh rfl ?_ | refine Qd rfl (by kernel_rfl) ?_ | (refine Qc rfl rfl ?_ ?_ <;> (intro hb; have hc := hb; try simp only [go_sem] at hc)) | refine q6 rfl ?_ | (refine Qb ?_ ?_; focus kernel_rfl) | ((with_reducible apply And.intro); focus omega) | (refine z8 hK ?_; clear hK; simp only [go_sem, *]) | simp only [z6, z7, go_sem, *])
 all_goals first | contradiction | omega | skip
 refine ⟨[.own 5 3 0 1], [], [5], ⟨by simp only [u1, go_sem], trivial⟩, ?_⟩
 simp only [go_sem, *]
theorem zRB (p : zLo) (c : Change) (x : Plate) (v : Valid p) (hs : 0 ≤ c.street ∧ c.street < p.length) (hx : x ∈ q7 p c.street) (k : c.kind = 2) : zLp prog 141 [x7 p, c.enc, x.enc] [] (Q3 (toP p c x)) [] := by
 generalize hRR : toP p c x = R
 unfold toP at hRR
 rw [if_neg (by omega : ¬ c.kind = 1)] at hRR
 rw [if_pos k] at hRR
 have k2 : (c.kind == 2) = true := by rw [beq_iff_eq]; exact k
 have k1 : (c.kind == 1) = false := by rw [beq_eq_false_iff_ne]; omega
 clear k
 have hl := (v.row c.street).len
 have hxk := (o3 _).1 ((v.row c.street).ok _ hx)
 have hs' : c.street.toNat < p.length := by omega
 obtain ⟨hs0, hs1⟩ := hs
 have ho := zNY (v.row c.street) hx
 have sp := zLZ (q7 p c.street) (decide (x.number.tmod 2 = 1)) (by omega)
 rw [ho] at sp
 have hxo := N0 hx
 have hol : ((q7 p c.street).filter (fun y => zLv y == zLv x)).length ≤ 8 := Nat.le_trans (List.length_filter_le _ _) hl
 have e1 : x.number.tmod 2 = x.number % 2 := Int.tmod_eq_emod_of_nonneg (by omega)
 clear ho
 generalize (q7 p c.street).filter (fun y => zLv y == zLv x) = o at *
 have si := zHp o x (by omega)
 rw [Q5 hxo] at si
 have hk := X0 hxo
 generalize o.idxOf x = kk at *
 have w1 : IntKind.i64.wrap (x.number + 1) = x.number + 1 := wrap_i64 (by omega) (by omega)
 have w2 : IntKind.i64.wrap (x.number - 1) = x.number - 1 := wrap_i64 (by omega) (by omega)
 by_cases q : x.number % 2 = 1
 ·rw [if_pos ((V9 x).2 q)] at hRR
  have q' : (x.number % 2 == 1) = true := by rw [beq_iff_eq]; exact q
  rw [e1, decide_eq_true q] at sp
  clear q
  subst hRR
  refine q8 func141 rfl (fun E hE => ?_); simp only [go_sem, ntmps141]
  repeat' (first | (refine Qr rfl ?_; try intro _ hK; try simp only [go_sem, *]) | (refine Qi rfl rfl rfl rfl ?_ ?_ <;> (intro hb; (try intro _ hK); have hc := hb; try simp only [go_sem] at hc; simp only [go_sem, *])) | refine Qh rfl ?_ | refine Qd rfl (by kernel_rfl) ?_ | (refine Qc rfl rfl ?_ ?_ <;> (intro hb; have hc := hb; try simp only [go_sem] at hc)) | refine q6 rfl ?_ | (refine Qb ?_ ?_; focus kernel_rfl) | (refine s8 (sp) ?_; simp only [go_sem, *]) | ((with_reducible apply And.intro); focus omega) | (refine z8 hK ?_; clear hK; simp only [go_sem, *]) | simp only [z6, z7, go_sem, *])
  all_goals first | contradiction | omega | skip
  (refine B6 [3] (si) (by simp only [go_sem, *]) (.raw _) ?_; simp only [go_sem, *])
  repeat' (first | (refine Qr rfl ?_; try intro _ hK; try simp only [go_sem, *]) | (refine Qi rfl rfl rfl rfl ?_ ?_ <;> (intro hb; (try intro _ hK); have hc := hb; try simp only [go_sem] at hc; simp only [go_sem, *])) | refine Qh rfl ?_ | refine Qd rfl (by kernel_rfl) ?_ | (refine Qc rfl rfl ?_ ?_ <;> (intro hb; have hc := hb; try simp only [go_sem] at hc)) | refine q6 rfl ?_ | (refine Qb ?_ ?_; focus kernel_rfl) | ((with_reducible apply And.intro); focus omega) | (refine z8 hK ?_; clear hK; simp only [go_sem, *]) | simp only [z6, z7, go_sem, *])
  all_goals first | contradiction | omega | skip
  refine ⟨[.own 5 3 0 1], [], [5], ⟨by simp only [u1, go_sem], trivial⟩, ?_⟩
  simp only [go_sem, *]
 ·rw [if_neg (fun h => q ((V9 x).1 h))] at hRR
  have q' : (x.number % 2 == 1) = false := by rw [beq_eq_false_iff_ne]; exact q
  rw [e1, decide_eq_false q] at sp
  clear q
  subst hRR
  refine q8 func141 rfl (fun E hE => ?_); simp only [go_sem, ntmps141]
  repeat' (first | (refine Qr rfl ?_; try intro _ hK; try simp only [go_sem, *]) | (refine Qi rfl rfl rfl rfl ?_ ?_ <;> (intro hb; (try intro _ hK); have hc := hb; try simp only [go_sem] at hc; simp only [go_sem, *])) | refine Qh rfl ?_ | refine Qd rfl (by kernel_rfl) ?_ | (refine Qc rfl rfl ?_ ?_ <;> (intro hb; have hc := hb; try simp only [go_sem] at hc)) | refine q6 rfl ?_ | (refine Qb ?_ ?_; focus kernel_rfl) | (refine s8 (sp) ?_; simp only [go_sem, *]) | ((with_reducible apply And.intro); focus omega) | (refine z8 hK ?_; clear hK; simp only [go_sem, *]) | simp only [z6, z7, go_sem, *])
  all_goals first | contradiction | omega | skip
  (refine B6 [3] (si) (by simp only [go_sem, *]) (.raw _) ?_; simp only [go_sem, *])
  repeat' (first | (refine Qr rfl ?_; try intro _ hK; try simp only [go_sem, *]) | (refine Qi rfl rfl rfl rfl ?_ ?_ <;> (intro hb; (try intro _ hK); have hc := hb; try simp only [go_sem] at hc; simp only [go_sem, *])) | refine Qh rfl ?_ | refine Qd rfl (by kernel_rfl) ?_ | (refine Qc rfl rfl ?_ ?_ <;> (intro hb; have hc := hb; try simp only [go_sem] at hc)) | refine q6 rfl ?_ | (refine Qb ?_ ?_; focus kernel_rfl) | ((with_reducible apply And.intro); focus omega) | (refine z8 hK ?_; clear hK; simp only [go_sem, *]) | simp only [z6, z7, go_sem, *])
  all_goals first | contradiction | omega | skip
  refine ⟨[.own 5 3 0 1], [], [5], ⟨by simp only [u1, go_sem], trivial⟩, ?_⟩
  simp only [go_sem, *]
theorem zRC (p : zLo) (c : Change) (x : Plate) (v : Valid p) (hs : 0 ≤ c.street ∧ c.street < p.length) (hx : x ∈ q7 p c.street) (k : c.kind = 3) : zLp prog 141 [x7 p, c.enc, x.enc] [] (Q3 (toP p c x)) [] := by
 generalize hRR : toP p c x = R
 unfold toP at hRR
 rw [if_neg (by omega : ¬ c.kind = 1)] at hRR
 rw [if_neg (by omega : ¬ c.kind = 2)] at hRR
 rw [if_pos k] at hRR
 have k3 : (c.kind == 3) = true := by rw [beq_iff_eq]; exact k
 have k1 : (c.kind == 1) = false := by rw [beq_eq_false_iff_ne]; omega
 have k2 : (c.kind == 2) = false := by rw [beq_eq_false_iff_ne]; omega
 clear k
 have hl := (v.row c.street).len
 have hxk := (o3 _).1 ((v.row c.street).ok _ hx)
 have hs' : c.street.toNat < p.length := by omega
 obtain ⟨hs0, hs1⟩ := hs
 have ho := zNY (v.row c.street) hx
 have sp := zLZ (q7 p c.street) (decide (x.number.tmod 2 = 1)) (by omega)
 rw [ho] at sp
 have hxo := N0 hx
 have hol : ((q7 p c.street).filter (fun y => zLv y == zLv x)).length ≤ 8 := Nat.le_trans (List.length_filter_le _ _) hl
 have e1 : x.number.tmod 2 = x.number % 2 := Int.tmod_eq_emod_of_nonneg (by omega)
 clear ho
 generalize (q7 p c.street).filter (fun y => zLv y == zLv x) = o at *
 have si := zHp o x (by omega)
 rw [Q5 hxo] at si
 have hk := X0 hxo
 generalize o.idxOf x = kk at *
 have w1 : IntKind.i64.wrap (2 * (kk : Int)) = 2 * (kk : Int) := wrap_i64 (by omega) (by omega)
 have w2 : IntKind.i64.wrap (2 * (kk : Int) + 2) = 2 * (kk : Int) + 2 := wrap_i64 (by omega) (by omega)
 have w3 : IntKind.i64.wrap (2 * (kk : Int) + 2 - x.number % 2) = 2 * (kk : Int) + 2 - x.number % 2 := wrap_i64 (by omega) (by omega)
 subst hRR
 rw [e1] at sp
 refine q8 func141 rfl (fun E hE => ?_); simp only [go_sem, ntmps141]
 repeat' (first | (refine Qr rfl ?_; try intro _ hK; try simp only [go_sem, *]) | (refine Qi rfl rfl rfl rfl ?_ ?_ <;> (intro hb; (try intro _ hK); have hc := hb; try simp only [go_sem] at hc; simp only [go_sem, *])) | refine Qh rfl ?_ | refine Qd rfl (by kernel_rfl) ?_ | (refine Qc rfl rfl ?_ ?_ <;> (intro hb; have hc := hb; try simp only [go_sem] at hc)) | refine q6 rfl ?_ | (refine Qb ?_ ?_; focus kernel_rfl) | (refine s8 (sp) ?_; simp only [go_sem, *]) | ((with_reducible apply And.intro); focus omega) | (refine z8 hK ?_; clear hK; simp only [go_sem, *]) | simp only [z6, z7, go_sem, *])
 all_goals first | contradiction | omega | skip
 (refine B6 [3] (si) (by simp only [go_sem, *]) (.raw _) ?_; simp only [go_sem, *])
 repeat' (first | (refine Qr rfl ?_; try intro _ hK; try simp only [go_sem, *]) | (refine Qi rfl rfl rfl rfl ?_ ?_ <;> (intro hb; (try intro _ hK); have hc := hb; try simp only [go_sem] at hc; simp only [go_sem, *])) | refine Qh rfl ?_ | refine Qd rfl (by kernel_rfl) ?_ | (refine Qc rfl rfl ?_ ?_ <;> (intro hb; have hc := hb; try simp only [go_sem] at hc)) | refine q6 rfl ?_ | (refine Qb ?_ ?_; focus kernel_rfl) | ((with_reducible apply And.intro); focus omega) | (refine z8 hK ?_; clear hK; simp only [go_sem, *]) | simp only [z6, z7, go_sem, *])
 all_goals first | contradiction | omega | skip
 refine ⟨[.own 5 3 0 1], [], [5], ⟨by simp only [u1, go_sem], trivial⟩, ?_⟩
 simp only [go_sem, *]
theorem zRD (p : zLo) (c : Change) (x : Plate) (v : Valid p) (hs : 0 ≤ c.street ∧ c.street < p.length) (hq : 0 ≤ c.other ∧ c.other < p.length) (hx : x ∈ q7 p c.street) (k : c.kind = 4) : zLp prog 141 [x7 p, c.enc, x.enc] [] (Q3 (toP p c x)) [] := by
 generalize hRR : toP p c x = R
 unfold toP at hRR
 rw [if_neg (by omega : ¬ c.kind = 1)] at hRR
 rw [if_neg (by omega : ¬ c.kind = 2)] at hRR
 rw [if_neg (by omega : ¬ c.kind = 3)] at hRR
 rw [if_pos k] at hRR
 have k4 : (c.kind == 4) = true := by rw [beq_iff_eq]; exact k
 have k1 : (c.kind == 1) = false := by rw [beq_eq_false_iff_ne]; omega
 have k2 : (c.kind == 2) = false := by rw [beq_eq_false_iff_ne]; omega
 have k3 : (c.kind == 3) = false := by rw [beq_eq_false_iff_ne]; omega
 clear k
 have hl := (v.row c.street).len
 have hxk := (o3 _).1 ((v.row c.street).ok _ hx)
 have hs' : c.street.toNat < p.length := by omega
 obtain ⟨hs0, hs1⟩ := hs
 have ho := zNY (v.row c.street) hx
 have sp := zLZ (q7 p c.street) (decide (x.number.tmod 2 = 1)) (by omega)
 rw [ho] at sp
 have hxo := N0 hx
 have hol : ((q7 p c.street).filter (fun y => zLv y == zLv x)).length ≤ 8 := Nat.le_trans (List.length_filter_le _ _) hl
 have e1 : x.number.tmod 2 = x.number % 2 := Int.tmod_eq_emod_of_nonneg (by omega)
 clear ho
 generalize (q7 p c.street).filter (fun y => zLv y == zLv x) = o at *
 have si := zHp o x (by omega)
 rw [Q5 hxo] at si
 have hk := X0 hxo
 generalize o.idxOf x = kk at *
 have hob := zDv (v.row c.other)
 have sb := zLX (q7 p c.other) (by have := (v.row c.other).len; omega) (v.row c.other).ok
 have ho' : c.other.toNat < p.length := by omega
 obtain ⟨ho0, ho1⟩ := hq
 generalize base (q7 p c.other) = bb at *
 have w1 : IntKind.i64.wrap (x.number + bb) = x.number + bb := wrap_i64 (by omega) (by omega)
 subst hRR
 rw [e1] at sp
 refine q8 func141 rfl (fun E hE => ?_); simp only [go_sem, ntmps141]
 repeat' (first | (refine Qr rfl ?_; try intro _ hK; try simp only [go_sem, *]) | (refine Qi rfl rfl rfl rfl ?_ ?_ <;> (intro hb; (try intro _ hK); have hc := hb; try simp only [go_sem] at hc; simp only [go_sem, *])) | refine Qh rfl ?_ | refine Qd rfl (by kernel_rfl) ?_ | (refine Qc rfl rfl ?_ ?_ <;> (intro hb; have hc := hb; try simp only [go_sem] at hc)) | refine q6 rfl ?_ | (refine Qb ?_ ?_; focus kernel_rfl) | (refine s8 (sp) ?_; simp only [go_sem, *]) | ((with_reducible apply And.intro); focus omega) | (refine z8 hK ?_; clear hK; simp only [go_sem, *]) | simp only [z6, z7, go_sem, *])
 all_goals first | contradiction | omega | skip
 (refine B6 [3] (si) (by simp only [go_sem, *]) (.raw _) ?_; simp only [go_sem, *])
 repeat' (first | (refine Qr rfl ?_; try intro _ hK; try simp only [go_sem, *]) | (refine Qi rfl rfl rfl rfl ?_ ?_ <;> (intro hb; (try intro _ hK); have hc := hb; try simp only [go_sem] at hc; simp only [go_sem, *])) | refine Qh rfl ?_ | refine Qd rfl (by kernel_rfl) ?_ | (refine Qc rfl rfl ?_ ?_ <;> (intro hb; have hc := hb; try simp only [go_sem] at hc)) | refine q6 rfl ?_ | (refine Qb ?_ ?_; focus kernel_rfl) | (refine y4 (sb) ?_; simp only [go_sem, *]) | ((with_reducible apply And.intro); focus omega) | (refine z8 hK ?_; clear hK; simp only [go_sem, *]) | simp only [z6, z7, go_sem, *])
 all_goals first | contradiction | omega | skip
 refine ⟨[.own 5 3 0 1], [], [5], ⟨by simp only [u1, go_sem], trivial⟩, ?_⟩
 simp only [go_sem, *]
theorem zRE (p : zLo) (c : Change) (x : Plate) (v : Valid p) (hs : 0 ≤ c.street ∧ c.street < p.length) (hx : x ∈ q7 p c.street) (k : c.kind = 5) : zLp prog 141 [x7 p, c.enc, x.enc] [] (Q3 (toP p c x)) [] := by
 generalize hRR : toP p c x = R
 unfold toP at hRR
 rw [if_neg (by omega : ¬ c.kind = 1)] at hRR
 rw [if_neg (by omega : ¬ c.kind = 2)] at hRR
 rw [if_neg (by omega : ¬ c.kind = 3)] at hRR
 rw [if_neg (by omega : ¬ c.kind = 4)] at hRR
 rw [if_pos k] at hRR
 have k5 : (c.kind == 5) = true := by rw [beq_iff_eq]; exact k
 have k1 : (c.kind == 1) = false := by rw [beq_eq_false_iff_ne]; omega
 have k2 : (c.kind == 2) = false := by rw [beq_eq_false_iff_ne]; omega
 have k3 : (c.kind == 3) = false := by rw [beq_eq_false_iff_ne]; omega
 have k4 : (c.kind == 4) = false := by rw [beq_eq_false_iff_ne]; omega
 clear k
 have hl := (v.row c.street).len
 have hxk := (o3 _).1 ((v.row c.street).ok _ hx)
 have hs' : c.street.toNat < p.length := by omega
 obtain ⟨hs0, hs1⟩ := hs
 have ho := zNY (v.row c.street) hx
 have sp := zLZ (q7 p c.street) (decide (x.number.tmod 2 = 1)) (by omega)
 rw [ho] at sp
 have hxo := N0 hx
 have hol : ((q7 p c.street).filter (fun y => zLv y == zLv x)).length ≤ 8 := Nat.le_trans (List.length_filter_le _ _) hl
 have e1 : x.number.tmod 2 = x.number % 2 := Int.tmod_eq_emod_of_nonneg (by omega)
 clear ho
 generalize (q7 p c.street).filter (fun y => zLv y == zLv x) = o at *
 have si := zHp o x (by omega)
 rw [Q5 hxo] at si
 have hk := X0 hxo
 generalize o.idxOf x = kk at *
 have sl := zLY (q7 p c.street) x.number (by omega)
 generalize letter (q7 p c.street) x.number = lt at *
 rw [e1] at sp
 by_cases q : x = c.src
 ·rw [if_pos q] at hRR
  have q' : decide (x = c.src) = true := decide_eq_true q
  clear q
  subst hRR
  refine q8 func141 rfl (fun E hE => ?_); simp only [go_sem, ntmps141]
  repeat' (first | (refine Qr rfl ?_; try intro _ hK; try simp only [go_sem, *]) | (refine Qi rfl rfl rfl rfl ?_ ?_ <;> (intro hb; (try intro _ hK); have hc := hb; try simp only [go_sem] at hc; simp only [go_sem, *])) | refine Qh rfl ?_ | refine Qd rfl (by kernel_rfl) ?_ | (refine Qc rfl rfl ?_ ?_ <;> (intro hb; have hc := hb; try simp only [go_sem] at hc)) | refine q6 rfl ?_ | (refine Qb ?_ ?_; focus kernel_rfl) | (refine s8 (sp) ?_; simp only [go_sem, *]) | ((with_reducible apply And.intro); focus omega) | (refine z8 hK ?_; clear hK; simp only [go_sem, *]) | simp only [z6, z7, go_sem, *])
  all_goals first | contradiction | omega | skip
  (refine B6 [3] (si) (by simp only [go_sem, *]) (.raw _) ?_; simp only [go_sem, *])
  repeat' (first | (refine Qr rfl ?_; try intro _ hK; try simp only [go_sem, *]) | (refine Qi rfl rfl rfl rfl ?_ ?_ <;> (intro hb; (try intro _ hK); have hc := hb; try simp only [go_sem] at hc; simp only [go_sem, *])) | refine Qh rfl ?_ | refine Qd rfl (by kernel_rfl) ?_ | (refine Qc rfl rfl ?_ ?_ <;> (intro hb; have hc := hb; try simp only [go_sem] at hc)) | refine q6 rfl ?_ | (refine Qb ?_ ?_; focus kernel_rfl) | (refine y4 (sl) ?_; simp only [go_sem, *]) | ((with_reducible apply And.intro); focus omega) | (refine z8 hK ?_; clear hK; simp only [go_sem, *]) | simp only [z6, z7, go_sem, *])
  all_goals first | contradiction | omega | skip
  refine ⟨[.own 5 3 0 2], [], [5], ⟨by simp only [u1, go_sem], trivial⟩, ?_⟩
  simp only [go_sem, *]
 ·rw [if_neg q] at hRR
  have q' : decide (x = c.src) = false := decide_eq_false q
  clear q
  subst hRR
  refine q8 func141 rfl (fun E hE => ?_); simp only [go_sem, ntmps141]
  repeat' (first | (refine Qr rfl ?_; try intro _ hK; try simp only [go_sem, *]) | (refine Qi rfl rfl rfl rfl ?_ ?_ <;> (intro hb; (try intro _ hK); have hc := hb; try simp only [go_sem] at hc; simp only [go_sem, *])) | refine Qh rfl ?_ | refine Qd rfl (by kernel_rfl) ?_ | (refine Qc rfl rfl ?_ ?_ <;> (intro hb; have hc := hb; try simp only [go_sem] at hc)) | refine q6 rfl ?_ | (refine Qb ?_ ?_; focus kernel_rfl) | (refine s8 (sp) ?_; simp only [go_sem, *]) | ((with_reducible apply And.intro); focus omega) | (refine z8 hK ?_; clear hK; simp only [go_sem, *]) | simp only [z6, z7, go_sem, *])
  all_goals first | contradiction | omega | skip
  (refine B6 [3] (si) (by simp only [go_sem, *]) (.raw _) ?_; simp only [go_sem, *])
  repeat' (first | (refine Qr rfl ?_; try intro _ hK; try simp only [go_sem, *]) | (refine Qi rfl rfl rfl rfl ?_ ?_ <;> (intro hb; (try intro _ hK); have hc := hb; try simp only [go_sem] at hc; simp only [go_sem, *])) | refine Qh rfl ?_ | refine Qd rfl (by kernel_rfl) ?_ | (refine Qc rfl rfl ?_ ?_ <;> (intro hb; have hc := hb; try simp only [go_sem] at hc)) | refine q6 rfl ?_ | (refine Qb ?_ ?_; focus kernel_rfl) | ((with_reducible apply And.intro); focus omega) | (refine z8 hK ?_; clear hK; simp only [go_sem, *]) | simp only [z6, z7, go_sem, *])
  all_goals first | contradiction | omega | skip
  refine ⟨[.own 5 3 0 1], [], [5], ⟨by simp only [u1, go_sem], trivial⟩, ?_⟩
  simp only [go_sem, *]
theorem zRF (p : zLo) (c : Change) (x : Plate) (v : Valid p) (hs : 0 ≤ c.street ∧ c.street < p.length) (hx : x ∈ q7 p c.street) (k : c.kind = 6) : zLp prog 141 [x7 p, c.enc, x.enc] [] (Q3 (toP p c x)) [] := by
 generalize hRR : toP p c x = R
 unfold toP at hRR
 rw [if_neg (by omega : ¬ c.kind = 1)] at hRR
 rw [if_neg (by omega : ¬ c.kind = 2)] at hRR
 rw [if_neg (by omega : ¬ c.kind = 3)] at hRR
 rw [if_neg (by omega : ¬ c.kind = 4)] at hRR
 rw [if_neg (by omega : ¬ c.kind = 5)] at hRR
 rw [if_pos k] at hRR
 have k6 : (c.kind == 6) = true := by rw [beq_iff_eq]; exact k
 have k1 : (c.kind == 1) = false := by rw [beq_eq_false_iff_ne]; omega
 have k2 : (c.kind == 2) = false := by rw [beq_eq_false_iff_ne]; omega
 have k3 : (c.kind == 3) = false := by rw [beq_eq_false_iff_ne]; omega
 have k4 : (c.kind == 4) = false := by rw [beq_eq_false_iff_ne]; omega
 have k5 : (c.kind == 5) = false := by rw [beq_eq_false_iff_ne]; omega
 clear k
 have hl := (v.row c.street).len
 have hxk := (o3 _).1 ((v.row c.street).ok _ hx)
 have hs' : c.street.toNat < p.length := by omega
 obtain ⟨hs0, hs1⟩ := hs
 have ho := zNY (v.row c.street) hx
 have sp := zLZ (q7 p c.street) (decide (x.number.tmod 2 = 1)) (by omega)
 rw [ho] at sp
 have hxo := N0 hx
 have hol : ((q7 p c.street).filter (fun y => zLv y == zLv x)).length ≤ 8 := Nat.le_trans (List.length_filter_le _ _) hl
 have e1 : x.number.tmod 2 = x.number % 2 := Int.tmod_eq_emod_of_nonneg (by omega)
 clear ho
 generalize (q7 p c.street).filter (fun y => zLv y == zLv x) = o at *
 have si := zHp o x (by omega)
 rw [Q5 hxo] at si
 have hk := X0 hxo
 generalize o.idxOf x = kk at *
 rw [e1] at sp
 by_cases q : x = c.src
 ·rw [if_pos q] at hRR
  have q' : decide (x = c.src) = true := decide_eq_true q
  clear q
  subst hRR
  refine q8 func141 rfl (fun E hE => ?_); simp only [go_sem, ntmps141]
  repeat' (first | (refine Qr rfl ?_; try intro _ hK; try simp only [go_sem, *]) | (refine Qi rfl rfl rfl rfl ?_ ?_ <;> (intro hb; (try intro _ hK); have hc := hb; try simp only [go_sem] at hc; simp only [go_sem, *])) | refine Qh rfl ?_ | refine Qd rfl (by kernel_rfl) ?_ | (refine Qc rfl rfl ?_ ?_ <;> (intro hb; have hc := hb; try simp only [go_sem] at hc)) | refine q6 rfl ?_ | (refine Qb ?_ ?_; focus kernel_rfl) | (refine s8 (sp) ?_; simp only [go_sem, *]) | ((with_reducible apply And.intro); focus omega) | (refine z8 hK ?_; clear hK; simp only [go_sem, *]) | simp only [z6, z7, go_sem, *])
  all_goals first | contradiction | omega | skip
  (refine B6 [3] (si) (by simp only [go_sem, *]) (.raw _) ?_; simp only [go_sem, *])
  repeat' (first | (refine Qr rfl ?_; try intro _ hK; try simp only [go_sem, *]) | (refine Qi rfl rfl rfl rfl ?_ ?_ <;> (intro hb; (try intro _ hK); have hc := hb; try simp only [go_sem] at hc; simp only [go_sem, *])) | refine Qh rfl ?_ | refine Qd rfl (by kernel_rfl) ?_ | (refine Qc rfl rfl ?_ ?_ <;> (intro hb; have hc := hb; try simp only [go_sem] at hc)) | refine q6 rfl ?_ | (refine Qb ?_ ?_; focus kernel_rfl) | ((with_reducible apply And.intro); focus omega) | (refine z8 hK ?_; clear hK; simp only [go_sem, *]) | simp only [z6, z7, go_sem, *])
  all_goals first | contradiction | omega | skip
  refine ⟨[zLz], [], [], ⟨by simp only [u1, go_sem], trivial⟩, ?_⟩
  simp only [go_sem, *]
 ·rw [if_neg q] at hRR
  have q' : decide (x = c.src) = false := decide_eq_false q
  clear q
  subst hRR
  refine q8 func141 rfl (fun E hE => ?_); simp only [go_sem, ntmps141]
  repeat' (first | (refine Qr rfl ?_; try intro _ hK; try simp only [go_sem, *]) | (refine Qi rfl rfl rfl rfl ?_ ?_ <;> (intro hb; (try intro _ hK); have hc := hb; try simp only [go_sem] at hc; simp only [go_sem, *])) | refine Qh rfl ?_ | refine Qd rfl (by kernel_rfl) ?_ | (refine Qc rfl rfl ?_ ?_ <;> (intro hb; have hc := hb; try simp only [go_sem] at hc)) | refine q6 rfl ?_ | (refine Qb ?_ ?_; focus kernel_rfl) | (refine s8 (sp) ?_; simp only [go_sem, *]) | ((with_reducible apply And.intro); focus omega) | (refine z8 hK ?_; clear hK; simp only [go_sem, *]) | simp only [z6, z7, go_sem, *])
  all_goals first | contradiction | omega | skip
  (refine B6 [3] (si) (by simp only [go_sem, *]) (.raw _) ?_; simp only [go_sem, *])
  repeat' (first | (refine Qr rfl ?_; try intro _ hK; try simp only [go_sem, *]) | (refine Qi rfl rfl rfl rfl ?_ ?_ <;> (intro hb; (try intro _ hK); have hc := hb; try simp only [go_sem] at hc; simp only [go_sem, *])) | refine Qh rfl ?_ | refine Qd rfl (by kernel_rfl) ?_ | (refine Qc rfl rfl ?_ ?_ <;> (intro hb; have hc := hb; try simp only [go_sem] at hc)) | refine q6 rfl ?_ | (refine Qb ?_ ?_; focus kernel_rfl) | ((with_reducible apply And.intro); focus omega) | (refine z8 hK ?_; clear hK; simp only [go_sem, *]) | simp only [z6, z7, go_sem, *])
  all_goals first | contradiction | omega | skip
  refine ⟨[.own 5 3 0 1], [], [5], ⟨by simp only [u1, go_sem], trivial⟩, ?_⟩
  simp only [go_sem, *]
theorem zRG (p : zLo) (c : Change) (x : Plate) (v : Valid p) (hs : 0 ≤ c.street ∧ c.street < p.length) (hx : x ∈ q7 p c.street) (k : c.kind = 7) : zLp prog 141 [x7 p, c.enc, x.enc] [] (Q3 (toP p c x)) [] := by
 generalize hRR : toP p c x = R
 unfold toP at hRR
 rw [if_neg (by omega : ¬ c.kind = 1)] at hRR
 rw [if_neg (by omega : ¬ c.kind = 2)] at hRR
 rw [if_neg (by omega : ¬ c.kind = 3)] at hRR
 rw [if_neg (by omega : ¬ c.kind = 4)] at hRR
 rw [if_neg (by omega : ¬ c.kind = 5)] at hRR
 rw [if_neg (by omega : ¬ c.kind = 6)] at hRR
 rw [if_pos k] at hRR
 have k7 : (c.kind == 7) = true := by rw [beq_iff_eq]; exact k
 have k1 : (c.kind == 1) = false := by rw [beq_eq_false_iff_ne]; omega
 have k2 : (c.kind == 2) = false := by rw [beq_eq_false_iff_ne]; omega
 have k3 : (c.kind == 3) = false := by rw [beq_eq_false_iff_ne]; omega
 have k4 : (c.kind == 4) = false := by rw [beq_eq_false_iff_ne]; omega
 have k5 : (c.kind == 5) = false := by rw [beq_eq_false_iff_ne]; omega
 have k6 : (c.kind == 6) = false := by rw [beq_eq_false_iff_ne]; omega
 clear k
 have hl := (v.row c.street).len
 have hxk := (o3 _).1 ((v.row c.street).ok _ hx)
 have hs' : c.street.toNat < p.length := by omega
 obtain ⟨hs0, hs1⟩ := hs
 have ho := zNY (v.row c.street) hx
 have sp := zLZ (q7 p c.street) (decide (x.number.tmod 2 = 1)) (by omega)
 rw [ho] at sp
 have hxo := N0 hx
 have hol : ((q7 p c.street).filter (fun y => zLv y == zLv x)).length ≤ 8 := Nat.le_trans (List.length_filter_le _ _) hl
 have e1 : x.number.tmod 2 = x.number % 2 := Int.tmod_eq_emod_of_nonneg (by omega)
 clear ho
 generalize (q7 p c.street).filter (fun y => zLv y == zLv x) = o at *
 have si := zHp o x (by omega)
 rw [Q5 hxo] at si
 have hk := X0 hxo
 generalize o.idxOf x = kk at *
 have sb1 := zHE x c.src
 have sb2 := zHE c.dst x
 have si1 := zHp (q7 p c.street) x (by omega)
 have si2 := zHp (q7 p c.street) c.src (by omega)
 have hi1 : -1 ≤ zMI (q7 p c.street) x ∧ zMI (q7 p c.street) x ≤ 8 := by
  rw [Q5 hx]; have := X0 hx; omega
 have hi2 : -1 ≤ zMI (q7 p c.street) c.src ∧ zMI (q7 p c.street) c.src ≤ 8 := by
  unfold zMI; split
  ·rename_i h; have := X0 h; omega
  ·omega
 generalize zMI (q7 p c.street) x = ix at *
 generalize zMI (q7 p c.street) c.src = iy at *
 have w1 : IntKind.i64.wrap (ix - iy) = ix - iy := wrap_i64 (by omega) (by omega)
 have w2 : IntKind.i64.wrap (ix - iy + 1) = ix - iy + 1 := wrap_i64 (by omega) (by omega)
 rw [e1] at sp
 generalize x.lt c.src = t1 at *
 generalize c.dst.lt x = t2 at *
 cases t1 <;> cases t2
 ·rw [if_pos ⟨rfl, rfl⟩] at hRR
  subst hRR
  refine q8 func141 rfl (fun E hE => ?_); simp only [go_sem, ntmps141]
  repeat' (first | (refine Qr rfl ?_; try intro _ hK; try simp only [go_sem, *]) | (refine Qi rfl rfl rfl rfl ?_ ?_ <;> (intro hb; (try intro _ hK); have hc := hb; try simp only [go_sem] at hc; simp only [go_sem, *])) | refine Qh rfl ?_ | refine Qd rfl (by kernel_rfl) ?_ | (refine Qc rfl rfl ?_ ?_ <;> (intro hb; have hc := hb; try simp only [go_sem] at hc)) | refine q6 rfl ?_ | (refine Qb ?_ ?_; focus kernel_rfl) | (refine s8 (sp) ?_; simp only [go_sem, *]) | ((with_reducible apply And.intro); focus omega) | (refine z8 hK ?_; clear hK; simp only [go_sem, *]) | simp only [z6, z7, go_sem, *])
  all_goals first | contradiction | omega | skip
  (refine B6 [3] (si) (by simp only [go_sem, *]) (.raw _) ?_; simp only [go_sem, *])
  repeat' (first | (refine Qr rfl ?_; try intro _ hK; try simp only [go_sem, *]) | (refine Qi rfl rfl rfl rfl ?_ ?_ <;> (intro hb; (try intro _ hK); have hc := hb; try simp only [go_sem] at hc; simp only [go_sem, *])) | refine Qh rfl ?_ | refine Qd rfl (by kernel_rfl) ?_ | (refine Qc rfl rfl ?_ ?_ <;> (intro hb; have hc := hb; try simp only [go_sem] at hc)) | refine q6 rfl ?_ | (refine Qb ?_ ?_; focus kernel_rfl) | (refine zD5 (sb1) ?_ ?_; (focus (simp only [go_sem, *]; done)); simp only [go_sem, *]) | (refine zD5 (sb2) ?_ ?_; (focus (simp only [go_sem, *]; done)); simp only [go_sem, *]) | (refine zD5 (si1) ?_ ?_; (focus (simp only [go_sem, *]; done)); simp only [go_sem, *]) | (refine zD5 (si2) ?_ ?_; (focus (simp only [go_sem, *]; done)); simp only [go_sem, *]) | ((with_reducible apply And.intro); focus omega) | (refine z8 hK ?_; clear hK; simp only [go_sem, *]) | simp only [z6, z7, go_sem, *])
  all_goals first | contradiction | omega | skip
  refine ⟨[.own 5 3 0 1], [], [5], ⟨by simp only [u1, go_sem], trivial⟩, ?_⟩
  simp only [go_sem, *]
 ·rw [if_neg (fun h => by cases h.2)] at hRR
  subst hRR
  refine q8 func141 rfl (fun E hE => ?_); simp only [go_sem, ntmps141]
  repeat' (first | (refine Qr rfl ?_; try intro _ hK; try simp only [go_sem, *]) | (refine Qi rfl rfl rfl rfl ?_ ?_ <;> (intro hb; (try intro _ hK); have hc := hb; try simp only [go_sem] at hc; simp only [go_sem, *])) | refine Qh rfl ?_ | refine Qd rfl (by kernel_rfl) ?_ | (refine Qc rfl rfl ?_ ?_ <;> (intro hb; have hc := hb; try simp only [go_sem] at hc)) | refine q6 rfl ?_ | (refine Qb ?_ ?_; focus kernel_rfl) | (refine s8 (sp) ?_; simp only [go_sem, *]) | ((with_reducible apply And.intro); focus omega) | (refine z8 hK ?_; clear hK; simp only [go_sem, *]) | simp only [z6, z7, go_sem, *])
  all_goals first | contradiction | omega | skip
  (refine B6 [3] (si) (by simp only [go_sem, *]) (.raw _) ?_; simp only [go_sem, *])
  repeat' (first | (refine Qr rfl ?_; try intro _ hK; try simp only [go_sem, *]) | (refine Qi rfl rfl rfl rfl ?_ ?_ <;> (intro hb; (try intro _ hK); have hc := hb; try simp only [go_sem] at hc; simp only [go_sem, *])) | refine Qh rfl ?_ | refine Qd rfl (by kernel_rfl) ?_ | (refine Qc rfl rfl ?_ ?_ <;> (intro hb; have hc := hb; try simp only [go_sem] at hc)) | refine q6 rfl ?_ | (refine Qb ?_ ?_; focus kernel_rfl) | (refine zD5 (sb1) ?_ ?_; (focus (simp only [go_sem, *]; done)); simp only [go_sem, *]) | (refine zD5 (sb2) ?_ ?_; (focus (simp only [go_sem, *]; done)); simp only [go_sem, *]) | (refine zD5 (si1) ?_ ?_; (focus (simp only [go_sem, *]; done)); simp only [go_sem, *]) | (refine zD5 (si2) ?_ ?_; (focus (simp only [go_sem, *]; done)); simp only [go_sem, *]) | ((with_reducible apply And.intro); focus omega) | (refine z8 hK ?_; clear hK; simp only [go_sem, *]) | simp only [z6, z7, go_sem, *])
  all_goals first | contradiction | omega | skip
  refine ⟨[.own 5 3 0 1], [], [5], ⟨by simp only [u1, go_sem], trivial⟩, ?_⟩
  simp only [go_sem, *]
 ·rw [if_neg (fun h => by cases h.1)] at hRR
  subst hRR
  refine q8 func141 rfl (fun E hE => ?_); simp only [go_sem, ntmps141]
  repeat' (first | (refine Qr rfl ?_; try intro _ hK; try simp only [go_sem, *]) | (refine Qi rfl rfl rfl rfl ?_ ?_ <;> (intro hb; (try intro _ hK); have hc := hb; try simp only [go_sem] at hc; simp only [go_sem, *])) | refine Qh rfl ?_ | refine Qd rfl (by kernel_rfl) ?_ | (refine Qc rfl rfl ?_ ?_ <;> (intro hb; have hc := hb; try simp only [go_sem] at hc)) | refine q6 rfl ?_ | (refine Qb ?_ ?_; focus kernel_rfl) | (refine s8 (sp) ?_; simp only [go_sem, *]) | ((with_reducible apply And.intro); focus omega) | (refine z8 hK ?_; clear hK; simp only [go_sem, *]) | simp only [z6, z7, go_sem, *])
  all_goals first | contradiction | omega | skip
  (refine B6 [3] (si) (by simp only [go_sem, *]) (.raw _) ?_; simp only [go_sem, *])
  repeat' (first | (refine Qr rfl ?_; try intro _ hK; try simp only [go_sem, *]) | (refine Qi rfl rfl rfl rfl ?_ ?_ <;> (intro hb; (try intro _ hK); have hc := hb; try simp only [go_sem] at hc; simp only [go_sem, *])) | refine Qh rfl ?_ | refine Qd rfl (by kernel_rfl) ?_ | (refine Qc rfl rfl ?_ ?_ <;> (intro hb; have hc := hb; try simp only [go_sem] at hc)) | refine q6 rfl ?_ | (refine Qb ?_ ?_; focus kernel_rfl) | (refine zD5 (sb1) ?_ ?_; (focus (simp only [go_sem, *]; done)); simp only [go_sem, *]) | (refine zD5 (sb2) ?_ ?_; (focus (simp only [go_sem, *]; done)); simp only [go_sem, *]) | (refine zD5 (si1) ?_ ?_; (focus (simp only [go_sem, *]; done)); simp only [go_sem, *]) | (refine zD5 (si2) ?_ ?_; (focus (simp only [go_sem, *]; done)); simp only [go_sem, *]) | ((with_reducible apply And.intro); focus omega) | (refine z8 hK ?_; clear hK; simp only [go_sem, *]) | simp only [z6, z7, go_sem, *])
  all_goals first | contradiction | omega | skip
  refine ⟨[.own 5 3 0 1], [], [5], ⟨by simp only [u1, go_sem], trivial⟩, ?_⟩
  simp only [go_sem, *]
 ·rw [if_neg (fun h => by cases h.1)] at hRR
  subst hRR
  refine q8 func141 rfl (fun E hE => ?_); simp only [go_sem, ntmps141]
  repeat' (first | (refine Qr rfl ?_; try intro _ hK; try simp only [go_sem, *]) | (refine Qi rfl rfl rfl rfl ?_ ?_ <;> (intro hb; (try intro _ hK); have hc := hb; try simp only [go_sem] at hc; simp only [go_sem, *])) | refine Qh rfl ?_ | refine Qd rfl (by kernel_rfl) ?_ | (refine Qc rfl rfl ?_ ?_ <;> (intro hb; have hc := hb; try simp only [go_sem] at hc)) | refine q6 rfl ?_ | (refine Qb ?_ ?_; focus kernel_rfl) | (refine s8 (sp) ?_; simp only [go_sem, *]) | ((with_reducible apply And.intro); focus omega) | (refine z8 hK ?_; clear hK; simp only [go_sem, *]) | simp only [z6, z7, go_sem, *])
  all_goals first | contradiction | omega | skip
  (refine B6 [3] (si) (by simp only [go_sem, *]) (.raw _) ?_; simp only [go_sem, *])
  repeat' (first | (refine Qr rfl ?_; try intro _ hK; try simp only [go_sem, *]) | (refine Qi rfl rfl rfl rfl ?_ ?_ <;> (intro hb; (try intro _ hK); have hc := hb; try simp only [go_sem] at hc; simp only [go_sem, *])) | refine Qh rfl ?_ | refine Qd rfl (by kernel_rfl) ?_ | (refine Qc rfl rfl ?_ ?_ <;> (intro hb; have hc := hb; try simp only [go_sem] at hc)) | refine q6 rfl ?_ | (refine Qb ?_ ?_; focus kernel_rfl) | (refine zD5 (sb1) ?_ ?_; (focus (simp only [go_sem, *]; done)); simp only [go_sem, *]) | (refine zD5 (sb2) ?_ ?_; (focus (simp only [go_sem, *]; done)); simp only [go_sem, *]) | (refine zD5 (si1) ?_ ?_; (focus (simp only [go_sem, *]; done)); simp only [go_sem, *]) | (refine zD5 (si2) ?_ ?_; (focus (simp only [go_sem, *]; done)); simp only [go_sem, *]) | ((with_reducible apply And.intro); focus omega) | (refine z8 hK ?_; clear hK; simp only [go_sem, *]) | simp only [z6, z7, go_sem, *])
  all_goals first | contradiction | omega | skip
  refine ⟨[.own 5 3 0 1], [], [5], ⟨by simp only [u1, go_sem], trivial⟩, ?_⟩
  simp only [go_sem, *]
theorem zQ2 (p : zLo) (c : Change) (x : Plate) (v : Valid p) (f : Fit p c) (hx : x ∈ q7 p c.street) : zLp prog 141 [x7 p, c.enc, x.enc] [] (Q3 (toP p c x)) [] := by
 rcases K7 f.kind with k | k | k | k | k | k | k
 ·exact zRA p c x v f.street hx k
 ·exact zRB p c x v f.street hx k
 ·exact zRC p c x v f.street hx k
 ·exact zRD p c x v f.street ⟨(f.other (.inl k)).1, (f.other (.inl k)).2.1⟩ hx k
 ·exact zRE p c x v f.street hx k
 ·exact zRF p c x v f.street hx k
 ·exact zRG p c x v f.street hx k
end Go.Abs

namespace Go.Abs
open Go Go.Proofs Tryz
attribute [local irreducible] y6 Hold x8
def mvs (p : zLo) (c : Change) (h : House) : List Move := (mv p c h).map fun z => ⟨h, z⟩
theorem zPy {α β : Type} [Inhabited α] {l : List α} {g : α → List β} {i : Nat} (h : i < l.length) : (l.drop i).flatMap g = g (l.getD i default) ++ (l.drop (i + 1)).flatMap g := by
 rw [u0 h, List.flatMap_cons]
theorem zPK (p : zLo) (c : Change) (v : Valid p) (f : Fit p c) : zLp prog 105 [x7 p, c.enc] [] (.own 0 6 0 (N1 p c).length) [.row 6 ((N1 p c).map Move.enc)] := by
  have hR : ([] : List Move) ++ ((q9 p).drop 0).flatMap (mvs p c) = N1 p c := rfl
  have hRl := zKR p c
  have hc := v.count
  have sh := zLa p (by have := v.len; omega) (fun l hl => by have := (v.rows l hl).len; omega) (by omega)
  have hin : ∀ z, z ∈ q9 p → z.street = c.street → z.plate ∈ q7 p c.street := fun z hz e => by rw [← e]; exact (mem_houses.1 hz).2.2
  generalize N1 p c = R at *
  generalize q9 p = hs at *
  refine q8 func105 rfl (fun E hE => ?_); simp only [go_sem, ntmps105]
  repeat' (first | (refine Qr rfl ?_; try intro _ hK; try simp only [go_sem, *]) | refine Qh rfl ?_ | refine Qd rfl (by kernel_rfl) ?_ | (refine Qc rfl rfl ?_ ?_ <;> (intro hb; have hc := hb; try simp only [go_sem] at hc)) | refine q6 rfl ?_ | (refine Qb ?_ ?_; focus kernel_rfl) | (refine s8 (sh) ?_; simp only [go_sem, *]) | ((with_reducible apply And.intro); focus omega) | (refine z8 hK ?_; clear hK; simp only [go_sem, *]) | simp only [z6, z7, go_sem, *])
  refine u4 rfl (hs.length) (fun i (acc : List Move) => acc ++ (hs.drop i).flatMap (mvs p c) = R) 58 (fun i acc => [(7, iV i), (6, .own 2 3 0 hs.length), (5, .own 3 6 0 acc.length), (2, .ptr 0 0), (3, .ptr 1 0)]) (fun i acc => [.box [.list (p.map y7)], .box [iV c.kind, iV c.street, iV c.other, iV c.src.number, iV c.src.letter, iV c.dst.number, iV c.dst.letter], .row 3 (hs.map House.enc), .row 6 (acc.map Move.enc)]) [some 0, some 1, some 2, none] [] ([]) (by exact hR) ?_; intro i acc hi hP
  clear hR
  have hlen1 := congrArg List.length hP
  simp only [List.length_append] at hlen1
  by_cases hi : i < hs.length
  · rw [zPy hi] at hP
    have hm := hin _ (w8 hi)
    have ml := zGO p c (hs.getD i default)
    by_cases q : (hs.getD i default).street = c.street
    · have hS : acc ++ (((mv p c (hs.getD i default)).drop 0).map (fun z => (⟨hs.getD i default, z⟩ : Move)) ++ (hs.drop (i + 1)).flatMap (mvs p c)) = R := hP
      have st := zQ2 p c (hs.getD i default).plate v f (hm q)
      have q' : ((hs.getD i default).street == c.street) = true := by rw [beq_iff_eq]; exact q
      unfold mv at hS ml
      rw [if_pos q] at hS ml
      clear q hP hm hin
      generalize hll : toP p c (hs.getD i default).plate = l at *
      repeat' (first | (refine Qr rfl ?_; try intro _ hK; try simp only [go_sem, *]) | refine Qh rfl ?_ | refine Qd rfl (by kernel_rfl) ?_ | (refine Qc rfl rfl ?_ ?_ <;> (intro hb; have hc := hb; try simp only [go_sem] at hc)) | refine q6 rfl ?_ | (refine Qb ?_ ?_; focus kernel_rfl) | (refine y4 (st) ?_; simp only [go_sem, *]) | ((with_reducible apply And.intro); focus omega) | (refine z8 hK ?_; clear hK; simp only [go_sem, *]) | simp only [z6, z7, go_sem, *])
      all_goals first | contradiction | omega | skip
      generalize hh : hs.getD i default = h at *
      refine u4 rfl (l.length) (fun j (acc2 : List Move) => acc2 ++ ((l.drop j).map (fun z => (⟨h, z⟩ : Move)) ++ (hs.drop (i + 1)).flatMap (mvs p c)) = R) 58 (fun j acc2 => [(9, iV j), (8, Q3 l), (7, iV i), (6, .own 2 3 0 hs.length), (5, .own 3 6 0 acc2.length), (2, .ptr 0 0), (3, .ptr 1 0)]) (fun j acc2 => [.box [.list (p.map y7)], .box [iV c.kind, iV c.street, iV c.other, iV c.src.number, iV c.src.letter, iV c.dst.number, iV c.dst.letter], .row 3 (hs.map House.enc), .row 6 (acc2.map Move.enc)]) [some 0, some 1, some 2, some 3] [] (acc) (by exact hS) ?_; intro j acc2 hj hQ
      have hlen2 := congrArg List.length hQ
      simp only [List.length_append, List.length_map, List.length_drop] at hlen2
      clear hlen1 hS
      by_cases hj : j < l.length
      · repeat' (first | (refine Qr rfl ?_; try intro _ hK; try simp only [go_sem, *]) | refine Qh rfl ?_ | refine Qd rfl (by kernel_rfl) ?_ | (refine Qc rfl rfl ?_ ?_ <;> (intro hb; have hc := hb; try simp only [go_sem] at hc)) | refine q6 rfl ?_ | (refine Qb ?_ ?_; focus kernel_rfl) | ((with_reducible apply And.intro); focus omega) | (refine z8 hK ?_; clear hK; simp only [go_sem, *]) | simp only [z6, z7, go_sem, *])
        all_goals first | contradiction | omega | skip
        exact w6 (i' := j + 1) [some 0, some 1, some 2, some 5] [] (acc2 ++ [⟨h, l.getD j default⟩]) (by rw [← hQ, u0 (i := j) (by assumption), List.map_cons]; simp)
      · rw [u7 (by omega)] at hQ
        repeat' (first | (refine Qr rfl ?_; try intro _ hK; try simp only [go_sem, *]) | refine Qh rfl ?_ | refine Qd rfl (by kernel_rfl) ?_ | (refine Qc rfl rfl ?_ ?_ <;> (intro hb; have hc := hb; try simp only [go_sem] at hc)) | refine q6 rfl ?_ | (refine Qb ?_ ?_; focus kernel_rfl) | ((with_reducible apply And.intro); focus omega) | (refine z8 hK ?_; clear hK; simp only [go_sem, *]) | simp only [z6, z7, go_sem, *])
        all_goals first | contradiction | omega | skip
        exact w6 (i' := i + 1) [some 0, some 1, some 2, some 3] [] (acc2) (by simpa using hQ)
    · have hS : acc ++ (([hs.getD i default].drop 0).map (fun z => (⟨hs.getD i default, z⟩ : Move)) ++ (hs.drop (i + 1)).flatMap (mvs p c)) = R := by
        rw [← hP]; unfold mvs mv; rw [if_neg q]; rfl
      have q' : ((hs.getD i default).street == c.street) = false := by rw [beq_eq_false_iff_ne]; exact q
      clear q hP hm hin ml
      repeat' (first | (refine Qr rfl ?_; try intro _ hK; try simp only [go_sem, *]) | refine Qh rfl ?_ | refine Qd rfl (by kernel_rfl) ?_ | (refine Qc rfl rfl ?_ ?_ <;> (intro hb; have hc := hb; try simp only [go_sem] at hc)) | refine q6 rfl ?_ | (refine Qb ?_ ?_; focus kernel_rfl) | ((with_reducible apply And.intro); focus omega) | (refine z8 hK ?_; clear hK; simp only [go_sem, *]) | simp only [z6, z7, go_sem, *])
      all_goals first | contradiction | omega | skip
      generalize hh : hs.getD i default = h at *
      refine u4 rfl ([h].length) (fun j (acc2 : List Move) => acc2 ++ (([h].drop j).map (fun z => (⟨h, z⟩ : Move)) ++ (hs.drop (i + 1)).flatMap (mvs p c)) = R) 58 (fun j acc2 => [(9, iV j), (8, Q3 [h]), (7, iV i), (6, .own 2 3 0 hs.length), (5, .own 3 6 0 acc2.length), (2, .ptr 0 0), (3, .ptr 1 0)]) (fun j acc2 => [.box [.list (p.map y7)], .box [iV c.kind, iV c.street, iV c.other, iV c.src.number, iV c.src.letter, iV c.dst.number, iV c.dst.letter], .row 3 (hs.map House.enc), .row 6 (acc2.map Move.enc)]) [some 0, some 1, some 2, some 3] [4] (acc) (by exact hS) ?_; intro j acc2 hj hQ
      generalize hll : [h] = l at *
      have ml : l.length ≤ 2 := by rw [← hll]; simp
      have hlen2 := congrArg List.length hQ
      simp only [List.length_append, List.length_map, List.length_drop] at hlen2
      clear hlen1 hS
      by_cases hj : j < l.length
      · repeat' (first | (refine Qr rfl ?_; try intro _ hK; try simp only [go_sem, *]) | refine Qh rfl ?_ | refine Qd rfl (by kernel_rfl) ?_ | (refine Qc rfl rfl ?_ ?_ <;> (intro hb; have hc := hb; try simp only [go_sem] at hc)) | refine q6 rfl ?_ | (refine Qb ?_ ?_; focus kernel_rfl) | ((with_reducible apply And.intro); focus omega) | (refine z8 hK ?_; clear hK; simp only [go_sem, *]) | simp only [z6, z7, go_sem, *])
        all_goals first | contradiction | omega | skip
        exact w6 (i' := j + 1) [some 0, some 1, some 2, some 5] [] (acc2 ++ [⟨h, l.getD j default⟩]) (by rw [← hQ, u0 (i := j) (by assumption), List.map_cons]; simp)
      · rw [u7 (by omega)] at hQ
        repeat' (first | (refine Qr rfl ?_; try intro _ hK; try simp only [go_sem, *]) | refine Qh rfl ?_ | refine Qd rfl (by kernel_rfl) ?_ | (refine Qc rfl rfl ?_ ?_ <;> (intro hb; have hc := hb; try simp only [go_sem] at hc)) | refine q6 rfl ?_ | (refine Qb ?_ ?_; focus kernel_rfl) | ((with_reducible apply And.intro); focus omega) | (refine z8 hK ?_; clear hK; simp only [go_sem, *]) | simp only [z6, z7, go_sem, *])
        all_goals first | contradiction | omega | skip
        exact w6 (i' := i + 1) [some 0, some 1, some 2, some 3] [] (acc2) (by simpa using hQ)
  · rw [u7 (by omega), List.flatMap_nil, List.append_nil] at hP
    repeat' (first | (refine Qr rfl ?_; try intro _ hK; try simp only [go_sem, *]) | refine Qh rfl ?_ | refine Qd rfl (by kernel_rfl) ?_ | (refine Qc rfl rfl ?_ ?_ <;> (intro hb; have hc := hb; try simp only [go_sem] at hc)) | refine q6 rfl ?_ | (refine Qb ?_ ?_; focus kernel_rfl) | ((with_reducible apply And.intro); focus omega) | (refine z8 hK ?_; clear hK; simp only [go_sem, *]) | simp only [z6, z7, go_sem, *])
    all_goals first | contradiction | omega | skip
    refine ⟨[_], [some 3], [], ⟨rfl, trivial⟩, ?_⟩
    simp only [go_sem, hP, *]
end Go.Abs

namespace Go.Abs
open Go Go.Proofs Tryz
attribute [local irreducible] y6 Hold x8
theorem zPJ {n : Nat} (l : List House) (hn : 0 < n ∧ n ≤ 3) (hst : ∀ z, z ∈ l → 0 ≤ z.street ∧ z.street < n) (hl : l.length ≤ 4294967296) : zLp prog 127 [.list (l.map House.enc), iV n] [] (x7 (zL6 l n)) [] := by
 rcases (by omega : n = 1 ∨ n = 2 ∨ n = 3) with rfl | rfl | rfl
 ·exact zQp l hst hl
 ·exact zQq l hst hl
 ·exact zQr l hst hl
theorem zQt (p : zLo) (c : Change) (v : Valid p) (f : Fit p c) : zLp prog 91 [x7 p, c.enc] [] (x7 (s9 p c)) [] := by
 have hst := fun z (hz : z ∈ j8 p c) => G5 v f hz
 have hml := zKR p c
 have hd := zKQ p c
 have hcn := v.count
 have hdl : (j8 p c).length = (N1 p c).length := by rw [← hd, List.length_map]
 have sl := zPJ (n := p.length) (j8 p c) ⟨v.ne, v.len⟩ (fun z hz => ⟨(hst z hz).1, (hst z hz).2.1⟩) (by omega)
 have sm := zPK p c v f
 have e : zL6 (j8 p c) p.length = s9 p c := rfl
 rw [e] at sl
 clear e
 generalize s9 p c = Q at *
 have h0 : ((N1 p c).take 0).map Move.dst = [] := by simp
 have hE0 : ((N1 p c).take (N1 p c).length).map Move.dst = j8 p c := by rw [List.take_length, hd]
 have hvl := v.len
 have hMb : (N1 p c).length ≤ 48 := by omega
 have hLb : (j8 p c).length ≤ 48 := by omega
 generalize N1 p c = M at *
 generalize j8 p c = L at *
 clear hst hd hdl
 refine q8 func91 rfl (fun E hE => ?_); simp only [go_sem, ntmps91]
 repeat' (first | (refine Qr rfl ?_; try intro _ hK; try simp only [go_sem, *]) | refine Qh rfl ?_ | (refine Qc rfl rfl ?_ ?_ <;> (intro hb; have hc := hb; try simp only [go_sem] at hc)) | refine q6 rfl ?_ | (refine s8 (sm) ?_; simp only [go_sem, *]) | ((with_reducible apply And.intro); focus omega) | (refine z8 hK ?_; clear hK; simp only [go_sem, *]) | simp only [z6, z7, go_sem, *])
 refine u4 rfl (M.length) (fun i (acc : List House) => acc ++ (M.drop i).map Move.dst = L) 30 (fun i acc => [(7, iV i), (6, .own 3 6 0 M.length), (5, .own 4 3 0 acc.length), (2, .ptr 0 0), (3, .ptr 1 0), (4, .ptr 2 0)]) (fun i acc => [.box [.list (p.map y7)], .box [iV c.kind, iV c.street, iV c.other, iV c.src.number, iV c.src.letter, iV c.dst.number, iV c.dst.letter], .box [zLz], .row 6 (M.map Move.enc), .row 3 (acc.map House.enc)]) [some 0, some 1, some 2, some 3, none] [] ([]) (by rw [← hE0, List.take_length]; rfl) ?_; intro i acc hi hP
 have hlen1 := congrArg List.length hP
 simp only [List.length_append, List.length_map, List.length_drop] at hlen1
 by_cases hi : i < M.length
 ·repeat' (first | (refine Qr rfl ?_; try intro _ hK; try simp only [go_sem, *]) | refine Qh rfl ?_ | (refine Qc rfl rfl ?_ ?_ <;> (intro hb; have hc := hb; try simp only [go_sem] at hc)) | refine q6 rfl ?_ | ((with_reducible apply And.intro); focus omega) | (refine z8 hK ?_; clear hK; simp only [go_sem, *]) | simp only [z6, z7, go_sem, *])
  all_goals first | contradiction | omega | skip
  exact w6 (i' := i + 1) [some 0, some 1, some 2, some 3, some 6] [] (acc ++ [(M.getD i default).dst]) (by rw [← hP, u0 (i := i) (by assumption), List.map_cons]; simp)
 ·rw [u7 (by omega), List.map_nil, List.append_nil] at hP
  subst hP
  repeat' (first | (refine Qr rfl ?_; try intro _ hK; try simp only [go_sem, *]) | refine Qh rfl ?_ | (refine Qc rfl rfl ?_ ?_ <;> (intro hb; have hc := hb; try simp only [go_sem] at hc)) | refine q6 rfl ?_ | ((with_reducible apply And.intro); focus omega) | (refine z8 hK ?_; clear hK; simp only [go_sem, *]) | simp only [z6, z7, go_sem, *])
  all_goals first | contradiction | omega | skip
  (refine o7 (sl) (by simp only [go_sem, *]; done) rfl (by simp only [go_sem]; done) (by simp) (by simp) ?_; simp only [go_sem, v6, *])
  repeat' (first | (refine Qr rfl ?_; try intro _ hK; try simp only [go_sem, *]) | refine Qh rfl ?_ | (refine Qc rfl rfl ?_ ?_ <;> (intro hb; have hc := hb; try simp only [go_sem] at hc)) | refine q6 rfl ?_ | ((with_reducible apply And.intro); focus omega) | (refine z8 hK ?_; clear hK; simp only [go_sem, *]) | simp only [z6, z7, go_sem, *])
  all_goals first | contradiction | omega | skip
  refine ⟨[x7 Q], [], [], ⟨(by simp only [u1, go_sem]), trivial⟩, ?_⟩; simp only [go_sem, *]
end Go.Abs

namespace Go.Abs
open Go Go.Proofs Tryz
attribute [local irreducible] y6 Hold x8
end Go.Abs

namespace Go.Abs
open Go Go.Proofs Tryz
attribute [local irreducible] y6 Hold x8
theorem zQc (p : zLo) (h1 : p.length ≤ 1048576) (h2 : ∀ l, l ∈ p → l.length ≤ 1048576) : zLp prog 24 [x7 p] [] (x7 p) [] := by
 refine q8 func24 rfl (fun E hE => ?_); simp only [go_sem, ntmps24]
 repeat' (first | (refine Qr rfl ?_; try intro _ hK; try simp only [go_sem, *]) | refine Qh rfl ?_ | refine Qd rfl (by kernel_rfl) ?_ | (refine Qc rfl rfl ?_ ?_ <;> (intro hb; have hc := hb; try simp only [go_sem] at hc)) | refine q6 rfl ?_ | (refine Qb ?_ ?_; focus kernel_rfl) | ((with_reducible apply And.intro); focus omega) | (refine z8 hK ?_; clear hK; simp only [go_sem, *]) | simp only [z6, z7, go_sem, *])
 refine u3 rfl (p.length) (fun i => NoP i) 25 (fun i => [(4, iV i), (1, .ptr 0 0), (2, .ptr 1 0), (3, .ptr 2 0)]) (fun i => [.box [.list (p.map y7)], .box [zLz], .box [.own 3 1 0 i], .box ((p.take i).map y7)]) [some 0, some 1, some 2, none] [] (by trivial) ?_; intro i hi hP
 by_cases hi2 : i < p.length
 ·have hr := h2 _ (w8 hi2)
  have e := Z8 (l := p) (i := i) hi2
  repeat' (first | (refine Qr rfl ?_; try intro _ hK; try simp only [go_sem, *]) | refine Qh rfl ?_ | refine Qd rfl (by kernel_rfl) ?_ | (refine Qc rfl rfl ?_ ?_ <;> (intro hb; have hc := hb; try simp only [go_sem] at hc)) | refine q6 rfl ?_ | (with_reducible (show (∀ _ : AV, _ → _) ∧ _); refine And.intro ?_ ?_; (focus (intro y hy; first | (obtain ⟨z, _, rfl⟩ := List.mem_map.1 (hy); simp [go_sem]; done) | (obtain ⟨z, _, rfl⟩ := List.mem_map.1 (List.mem_of_mem_take hy); simp [go_sem]; done) | (obtain ⟨z, _, rfl⟩ := List.mem_map.1 (List.mem_of_mem_drop hy); simp [go_sem]; done) | (obtain ⟨z, _, rfl⟩ := List.mem_map.1 (List.mem_of_mem_drop (List.mem_of_mem_take hy)); simp [go_sem]; done)))) | (refine Qb ?_ ?_; focus kernel_rfl) | ((with_reducible apply And.intro); focus omega) | (refine z8 hK ?_; clear hK; simp only [go_sem, *]) | simp only [z6, z7, go_sem, *])
  all_goals first | contradiction | omega | skip
  exact u2 (i' := i + 1) [some 0, some 1, some 2, some 7] [5] (by trivial)
 ·have e : p.take i = p := List.take_of_length_le (by omega)
  repeat' (first | (refine Qr rfl ?_; try intro _ hK; try simp only [go_sem, *]) | refine Qh rfl ?_ | refine Qd rfl (by kernel_rfl) ?_ | (refine Qc rfl rfl ?_ ?_ <;> (intro hb; have hc := hb; try simp only [go_sem] at hc)) | refine q6 rfl ?_ | (refine Qb ?_ ?_; focus kernel_rfl) | ((with_reducible apply And.intro); focus omega) | (refine z8 hK ?_; clear hK; simp only [go_sem, *]) | simp only [z6, z7, go_sem, *])
  all_goals first | contradiction | omega | skip
  refine ⟨[.agg [.own 3 1 0 i]], [], [3], ⟨by simp only [u1, go_sem], trivial⟩, ?_⟩
  simp only [go_sem, *]
  simp
  omega
end Go.Abs

namespace Go.Abs
open Go Go.Proofs Tryz
attribute [local irreducible] y6 Hold x8
def zRj (l : List Move) (h : House) : Option House := (l.find? fun m => decide (m.dst = h)).map Move.src
def zRm : House := ⟨0, zeroPlate⟩
end Go.Abs

namespace Go.Abs
open Go Go.Proofs Tryz
attribute [local irreducible] y6 Hold x8
theorem zOI (p : zLo) (h : House) (h1 : p.length ≤ 1048576) (h2 : ∀ l, l ∈ p → l.length ≤ 1048576) : zLp prog 104 [x7 p, h.enc] [] (bV (decide (h ∈ q9 p))) [] := by
 have s1 := zIC h.street 0 ((p.length : Int) - 1)
 have w1 : IntKind.i64.wrap ((p.length : Int) - 1) = (p.length : Int) - 1 := wrap_i64 (by omega) (by omega)
 by_cases q : 0 ≤ h.street ∧ h.street ≤ (p.length : Int) - 1
 ·have b : zLr h.street 0 ((p.length : Int) - 1) = true := betw_iff.2 q
  rw [b] at s1
  clear b
  obtain ⟨q1, q2⟩ := q
  have hs' : h.street.toNat < p.length := by omega
  have hl : (q7 p h.street).length ≤ 1048576 := by
   unfold q7; exact h2 _ (w8 hs')
  have hR : decide (h ∈ q9 p) = decide (h.plate ∈ q7 p h.street) := by
   rw [decide_eq_decide, mem_houses]
   exact ⟨fun e => e.2.2, fun e => ⟨q1, by omega, e⟩⟩
  rw [hR]
  clear hR
  refine q8 func104 rfl (fun E hE => ?_); simp only [go_sem, ntmps104]
  repeat' (first | (refine Qr rfl ?_; try intro _ hK; try simp only [go_sem, *]) | refine Qh rfl ?_ | refine Qd rfl (by kernel_rfl) ?_ | (refine Qc rfl rfl ?_ ?_ <;> (intro hb; have hc := hb; try simp only [go_sem] at hc)) | refine q6 rfl ?_ | (refine Qb ?_ ?_; focus kernel_rfl) | (refine y4 (s1) ?_; simp only [go_sem, *]) | ((with_reducible apply And.intro); focus omega) | (refine z8 hK ?_; clear hK; simp only [go_sem, *]) | simp only [z6, z7, go_sem, *])
  all_goals first | contradiction | omega | skip
  generalize hll : q7 p h.street = l at *
  refine u3 rfl (l.length) (fun i => h.plate ∉ l.take i) 37 (fun i => [(5, iV i), (2, .ptr 0 0), (3, .ptr 1 0)]) (fun i => [.box [.list (p.map y7)], .box [iV h.street, iV h.plate.number, iV h.plate.letter]]) [some 0, some 1] [] (by simp) ?_; intro i hi hP
  by_cases hi : i < l.length
  ·by_cases q : l.getD i default = h.plate
   ·have q' : decide (l.getD i default = h.plate) = true := decide_eq_true q
    have hm : decide (h.plate ∈ l) = true := decide_eq_true (by rw [← q]; exact w8 hi)
    clear q
    rw [hm]
    repeat' (first | (refine Qr rfl ?_; try intro _ hK; try simp only [go_sem, *]) | refine Qh rfl ?_ | refine Qd rfl (by kernel_rfl) ?_ | (refine Qc rfl rfl ?_ ?_ <;> (intro hb; have hc := hb; try simp only [go_sem] at hc)) | refine q6 rfl ?_ | (refine Qb ?_ ?_; focus kernel_rfl) | ((with_reducible apply And.intro); focus omega) | (refine z8 hK ?_; clear hK; simp only [go_sem, *]) | simp only [z6, z7, go_sem, *])
    all_goals first | contradiction | omega | skip
    (refine ⟨[_], [], [], ⟨rfl, trivial⟩, ?_⟩; simp only [go_sem, *])
   ·have q' : decide (l.getD i default = h.plate) = false := decide_eq_false q
    repeat' (first | (refine Qr rfl ?_; try intro _ hK; try simp only [go_sem, *]) | refine Qh rfl ?_ | refine Qd rfl (by kernel_rfl) ?_ | (refine Qc rfl rfl ?_ ?_ <;> (intro hb; have hc := hb; try simp only [go_sem] at hc)) | refine q6 rfl ?_ | (refine Qb ?_ ?_; focus kernel_rfl) | ((with_reducible apply And.intro); focus omega) | (refine z8 hK ?_; clear hK; simp only [go_sem, *]) | simp only [z6, z7, go_sem, *])
    all_goals first | contradiction | omega | skip
    exact u2 (i' := i + 1) [some 0, some 1] [] (by exact zDQ hi hP q)
  ·rw [List.take_of_length_le (by omega)] at hP
   have hm : decide (h.plate ∈ l) = false := decide_eq_false hP
   rw [hm]
   repeat' (first | (refine Qr rfl ?_; try intro _ hK; try simp only [go_sem, *]) | refine Qh rfl ?_ | refine Qd rfl (by kernel_rfl) ?_ | (refine Qc rfl rfl ?_ ?_ <;> (intro hb; have hc := hb; try simp only [go_sem] at hc)) | refine q6 rfl ?_ | (refine Qb ?_ ?_; focus kernel_rfl) | ((with_reducible apply And.intro); focus omega) | (refine z8 hK ?_; clear hK; simp only [go_sem, *]) | simp only [z6, z7, go_sem, *])
   all_goals first | contradiction | omega | skip
   (refine ⟨[_], [], [], ⟨rfl, trivial⟩, ?_⟩; simp only [go_sem, *])
 ·have b : zLr h.street 0 ((p.length : Int) - 1) = false := betw_no.2 q
  rw [b] at s1
  have hm : decide (h ∈ q9 p) = false := decide_eq_false (fun e => q ⟨(mem_houses.1 e).1, by have := (mem_houses.1 e).2.1; omega⟩)
  rw [hm]
  clear b hm q
  refine q8 func104 rfl (fun E hE => ?_); simp only [go_sem, ntmps104]
  repeat' (first | (refine Qr rfl ?_; try intro _ hK; try simp only [go_sem, *]) | refine Qh rfl ?_ | refine Qd rfl (by kernel_rfl) ?_ | (refine Qc rfl rfl ?_ ?_ <;> (intro hb; have hc := hb; try simp only [go_sem] at hc)) | refine q6 rfl ?_ | (refine Qb ?_ ?_; focus kernel_rfl) | (refine y4 (s1) ?_; simp only [go_sem, *]) | ((with_reducible apply And.intro); focus omega) | (refine z8 hK ?_; clear hK; simp only [go_sem, *]) | simp only [z6, z7, go_sem, *])
  all_goals first | contradiction | omega | skip
  (refine ⟨[_], [], [], ⟨rfl, trivial⟩, ?_⟩; simp only [go_sem, *])
end Go.Abs

namespace Go.Abs
open Go Go.Proofs Tryz
attribute [local irreducible] y6 Hold x8
end Go.Abs

namespace Go.Abs
open Go Go.Proofs Tryz
attribute [local irreducible] y6 Hold x8
@[go_sem, simp] theorem zRT (H : Nat → AObj) (m : List (Option Nat)) (ex : List Nat) (l : List (List Int)) : XpL H m ex (List.map j4 l) (List.map j4 l) ↔ True := ⟨fun _ => trivial, fun _ => zBA (fun x => by simp only [XpF]) _⟩
@[go_sem, simp] theorem zRV (H : Nat → AObj) (m : List (Option Nat)) (ex : List Nat) (l : List (List Int)) (ys zs : List AV) : XpL H m ex (List.map j4 l ++ [.list ys]) (List.map j4 l ++ [.list zs]) ↔ ys = zs := by
 rw [L0 _ (fun z hz => by
  obtain ⟨t, _, rfl⟩ := List.mem_map.1 hz
  simp only [XpF])]
 simp only [XpF]
@[go_sem, simp] theorem zRU (H : Nat → AObj) (m : List (Option Nat)) (ex : List Nat) (l r : List (List Int)) : XpL H m ex (List.map j4 l ++ List.map j4 r) (List.map j4 l ++ List.map j4 r) ↔ True := ⟨fun _ => trivial, fun _ => by rw [← List.map_append]; exact zBA (fun x => by simp only [XpF]) _⟩
@[reducible] def zRq (s : Story) : AObj := .box [.list (s.first.map y7), .list (s.steps.map i9), .list (s.facts.map Fact.enc)]
structure RunP (s : Story) (w : List Int) (i : Nat) (t : Truth) (G : Option Truth) : Prop where
 run : zRo s (w.drop i) t = G
 len : t.ways.length = i
 val : Valid t.fin
theorem RunP.start {s : Story} {w : List Int} (v : Valid s.first) : RunP s w 0 (Y8 s) (zRo s w (Y8 s)) := ⟨rfl, rfl, v⟩
theorem RunP.yes {s : Story} {w : List Int} {i : Nat} {t : Truth} {G : Option Truth} (h : RunP s w i t G) (hi : i < w.length) (e : can t.fin (zRr s t (w.getD i default)) = 0) : RunP s w (i + 1) (n0 t (zRr s t (w.getD i default)) (w.getD i default).toNat) G := by
 obtain ⟨h1, h2, h3⟩ := h
 rw [u0 hi, zOw e] at h1
 exact ⟨h1, by rw [zPN, h2], zDW h3 (Fit.of_can e)⟩
theorem RunP.no {s : Story} {w : List Int} {i : Nat} {t : Truth} {G : Option Truth} (h : RunP s w i t G) (hi : i < w.length) (e : ¬ can t.fin (zRr s t (w.getD i default)) = 0) : G = none := by
 obtain ⟨h1, h2, h3⟩ := h
 rw [u0 hi, zOv e] at h1
 exact h1.symm
theorem RunP.fin {s : Story} {w : List Int} {i : Nat} {t : Truth} {G : Option Truth} (h : RunP s w i t G) (hi : w.length ≤ i) : G = some t := by
 have h1 := h.run
 rw [u7 hi] at h1
 exact h1.symm
def zRw (s : Story) (w : List Int) : Prop := w.length = s.steps.length ∧ ∀ j, j < s.steps.length → 0 ≤ w.getD j default ∧ w.getD j default < (s.steps.getD j default).length
end Go.Abs

namespace Go.Abs
open Go Go.Proofs Tryz
attribute [local irreducible] y6 Hold x8
theorem zNy (l : List House) (x : House) (h1 : l.length ≤ 4294967296) : zLp prog 117 [Q3 l, x.enc] [] (bV (decide (x ∈ l))) [] := by
 refine q8 func117 rfl (fun E hE => ?_); simp only [go_sem, ntmps117]
 repeat' (first | (refine Qr rfl ?_; try intro _ hK; try simp only [go_sem, *]) | refine Qh rfl ?_ | refine Qd rfl (by kernel_rfl) ?_ | (refine Qc rfl rfl ?_ ?_ <;> (intro hb; have hc := hb; try simp only [go_sem] at hc)) | refine q6 rfl ?_ | (refine Qb ?_ ?_; focus kernel_rfl) | ((with_reducible apply And.intro); focus omega) | (refine z8 hK ?_; clear hK; simp only [go_sem, *]) | simp only [z6, z7, go_sem, *])
 refine u3 rfl (l.length) (fun i => x ∉ l.take i) 18 (fun i => [(5, iV i), (3, .ptr 0 0), (0, Q3 l)]) (fun i => [.box [iV x.street, iV x.plate.number, iV x.plate.letter]]) [some 0] [] (by simp) ?_; intro i hi hP
 by_cases hi : i < l.length
 ·by_cases q : l.getD i default = x
  ·have q' : decide (l.getD i default = x) = true := decide_eq_true q
   have hm : decide (x ∈ l) = true := decide_eq_true (by rw [← q]; exact w8 hi)
   clear q
   repeat' (first | (refine Qr rfl ?_; try intro _ hK; try simp only [go_sem, *]) | refine Qh rfl ?_ | refine Qd rfl (by kernel_rfl) ?_ | (refine Qc rfl rfl ?_ ?_ <;> (intro hb; have hc := hb; try simp only [go_sem] at hc)) | refine q6 rfl ?_ | (refine Qb ?_ ?_; focus kernel_rfl) | ((with_reducible apply And.intro); focus omega) | (refine z8 hK ?_; clear hK; simp only [go_sem, *]) | simp only [z6, z7, go_sem, *])
   all_goals first | contradiction | omega | skip
   (refine ⟨[_], [], [], ⟨rfl, trivial⟩, ?_⟩; simp only [go_sem, *])
  ·have q' : decide (l.getD i default = x) = false := decide_eq_false q
   repeat' (first | (refine Qr rfl ?_; try intro _ hK; try simp only [go_sem, *]) | refine Qh rfl ?_ | refine Qd rfl (by kernel_rfl) ?_ | (refine Qc rfl rfl ?_ ?_ <;> (intro hb; have hc := hb; try simp only [go_sem] at hc)) | refine q6 rfl ?_ | (refine Qb ?_ ?_; focus kernel_rfl) | ((with_reducible apply And.intro); focus omega) | (refine z8 hK ?_; clear hK; simp only [go_sem, *]) | simp only [z6, z7, go_sem, *])
   all_goals first | contradiction | omega | skip
   exact u2 (i' := i + 1) [some 0] [] (by rw [Z8 hi, List.mem_append, List.mem_singleton]; exact fun h => h.elim hP (fun e => q e.symm))
 ·rw [List.take_of_length_le (by omega)] at hP
  have hm : decide (x ∈ l) = false := decide_eq_false hP
  repeat' (first | (refine Qr rfl ?_; try intro _ hK; try simp only [go_sem, *]) | refine Qh rfl ?_ | refine Qd rfl (by kernel_rfl) ?_ | (refine Qc rfl rfl ?_ ?_ <;> (intro hb; have hc := hb; try simp only [go_sem] at hc)) | refine q6 rfl ?_ | (refine Qb ?_ ?_; focus kernel_rfl) | ((with_reducible apply And.intro); focus omega) | (refine z8 hK ?_; clear hK; simp only [go_sem, *]) | simp only [z6, z7, go_sem, *])
  all_goals first | contradiction | omega | skip
  (refine ⟨[_], [], [], ⟨rfl, trivial⟩, ?_⟩; simp only [go_sem, *])
theorem zQl (p : zLo) (c : Change) (l : List House) (v : Valid p) (f : Fit p c) (hl : l.length ≤ 4294967296) : zLp prog 167 [x7 p, c.enc, Q3 l] [] (Q3 (s6 (zMK (N1 p c) l))) [] := by
 have s1 := zPK p c v f
 have hml := zKR p c
 have hcn := v.count
 have hMb : (N1 p c).length ≤ 48 := by omega
 have hcl := zJR (N1 p c) l
 have s2 := zLb (zMK (N1 p c) l) (by omega)
 have hR0 : ([] : List House) ++ zMK ((N1 p c).drop 0) l = zMK (N1 p c) l := rfl
 have hRl : (zMK (N1 p c) l).length ≤ 48 := by omega
 clear hml hcn hcl
 generalize s6 (zMK (N1 p c) l) = S at *
 generalize zMK (N1 p c) l = R at *
 generalize N1 p c = M at *
 refine q8 func167 rfl (fun E hE => ?_); simp only [go_sem, ntmps167]
 repeat' (first | (refine Qr rfl ?_; try intro _ hK; try simp only [go_sem, *]) | refine Qh rfl ?_ | (refine Qc rfl rfl ?_ ?_ <;> (intro hb; have hc := hb; try simp only [go_sem] at hc)) | refine q6 rfl ?_ | (refine s8 (s1) ?_; simp only [go_sem, *]) | ((with_reducible apply And.intro); focus omega) | (refine z8 hK ?_; clear hK; simp only [go_sem, *]) | simp only [z6, z7, go_sem, *])
 all_goals try contradiction
 refine u4 rfl (M.length) (fun i (acc : List House) => acc ++ zMK (M.drop i) l = R) 36 (fun i acc => [(9, iV i), (8, .own 0 6 0 M.length), (7, .own 1 3 0 acc.length), (2, Q3 l)]) (fun i acc => [.row 6 (M.map Move.enc), .row 3 (acc.map House.enc)]) [some 2, none] [] ([]) (by exact hR0) ?_; intro i acc hi hP
 clear hR0
 have hql := congrArg List.length hP
 simp only [List.length_append] at hql
 by_cases hi : i < M.length
 ·have hi3 : (i : Int) < M.length := by omega
  have sI := zNy l (M.getD i default).src hl
  by_cases q : (M.getD i default).src ∈ l
  ·rw [zJT hi q] at hP
   rw [decide_eq_true q] at sI
   clear q
   repeat' (first | (refine Qr rfl ?_; try intro _ hK; try simp only [go_sem, *]) | refine Qh rfl ?_ | (refine Qc rfl rfl ?_ ?_ <;> (intro hb; have hc := hb; try simp only [go_sem] at hc)) | refine q6 rfl ?_ | (refine y4 (sI) ?_; simp only [go_sem, *]) | ((with_reducible apply And.intro); focus omega) | (refine z8 hK ?_; clear hK; simp only [go_sem, *]) | simp only [z6, z7, go_sem, *])
   all_goals try contradiction
   exact w6 (i' := i + 1) [some 0, some 3] [] (acc ++ [(M.getD i default).dst]) (by rw [← hP]; simp)
  ·rw [zJS hi q] at hP
   rw [decide_eq_false q] at sI
   clear q
   repeat' (first | (refine Qr rfl ?_; try intro _ hK; try simp only [go_sem, *]) | refine Qh rfl ?_ | (refine Qc rfl rfl ?_ ?_ <;> (intro hb; have hc := hb; try simp only [go_sem] at hc)) | refine q6 rfl ?_ | (refine y4 (sI) ?_; simp only [go_sem, *]) | ((with_reducible apply And.intro); focus omega) | (refine z8 hK ?_; clear hK; simp only [go_sem, *]) | simp only [z6, z7, go_sem, *])
   all_goals try contradiction
   exact w6 (i' := i + 1) [some 0, some 1] [] (acc) (by exact hP)
 ·have hi3 : ¬ (i : Int) < M.length := by omega
  have e : zMK (M.drop i) l = [] := by rw [u7 (by omega)]; rfl
  rw [e, List.append_nil] at hP
  subst hP
  clear e
  repeat' (first | (refine Qr rfl ?_; try intro _ hK; try simp only [go_sem, *]) | refine Qh rfl ?_ | (refine Qc rfl rfl ?_ ?_ <;> (intro hb; have hc := hb; try simp only [go_sem] at hc)) | refine q6 rfl ?_ | (refine o7 (s2) ?_ rfl ?_ ?_ ?_ ?_; (iterate 2 (focus (simp only [go_sem, *]; done))); (iterate 2 (focus (first | (simp; done) | (simp [go_sem]; done)))); simp only [go_sem, v6, *]) | ((with_reducible apply And.intro); focus omega) | (refine z8 hK ?_; clear hK; simp only [go_sem, *]) | simp only [z6, z7, go_sem, *])
  all_goals try contradiction
  refine ⟨[Q3 S], [], [], ⟨rfl, trivial⟩, ?_⟩; simp only [go_sem, *]
theorem zNX (s : Story) (hst : s.steps.length ≤ 4294967296) (hwl : ∀ w, w ∈ s.steps → w.length ≤ 4294967296) (hfl : s.facts.length ≤ 4294967296) (hpl : s.first.length ≤ 4294967296) (G : Int) (hG : r9 s = G) :
  zLp prog 107 [s.enc] [] (iV G) [] := by
 have sc := zQo s.first hpl
 by_cases hc0 : check s.first = 0
 ·rw [r9, if_pos hc0] at hG
  have v := (T1 s.first).1 hc0
  rw [hc0] at sc
  clear hc0
  by_cases h3 : 3 < s.steps.length
  ·have h3i : (s.steps.length : Int) > 3 := by omega
   rw [if_pos h3] at hG
   subst hG
   refine q8 func107 rfl (fun E hE => ?_); simp only [go_sem, ntmps107]
   repeat' (first | (refine Qr rfl ?_; try intro _ hK; try simp only [go_sem, *]) | (refine Qi rfl rfl rfl rfl ?_ ?_ <;> (intro hb; (try intro _ hK); have hc := hb; try simp only [go_sem] at hc; simp only [go_sem, *])) | refine Qh rfl ?_ | refine Qd rfl (by kernel_rfl) ?_ | (refine Qc rfl rfl ?_ ?_ <;> (intro hb; have hc := hb; try simp only [go_sem] at hc)) | refine q6 rfl ?_ | (refine Qb ?_ ?_; focus kernel_rfl) | (refine y4 (sc) ?_; simp only [go_sem, *]) | ((with_reducible apply And.intro); focus omega) | (refine z8 hK ?_; clear hK; simp only [go_sem, *]) | simp only [z6, z7, go_sem, *])
   all_goals try contradiction
   all_goals (refine ⟨[_], [], [], ⟨rfl, trivial⟩, ?_⟩; simp only [go_sem, *])
  ·have h3i : ¬ (s.steps.length : Int) > 3 := by omega
   rw [if_neg h3] at hG
   refine q8 func107 rfl (fun E hE => ?_); simp only [go_sem, ntmps107]
   repeat' (first | (refine Qr rfl ?_; try intro _ hK; try simp only [go_sem, *]) | (refine Qi rfl rfl rfl rfl ?_ ?_ <;> (intro hb; (try intro _ hK); have hc := hb; try simp only [go_sem] at hc; simp only [go_sem, *])) | refine Qh rfl ?_ | refine Qd rfl (by kernel_rfl) ?_ | (refine Qc rfl rfl ?_ ?_ <;> (intro hb; have hc := hb; try simp only [go_sem] at hc)) | refine q6 rfl ?_ | (refine Qb ?_ ?_; focus kernel_rfl) | (refine y4 (sc) ?_; simp only [go_sem, *]) | ((with_reducible apply And.intro); focus omega) | (refine z8 hK ?_; clear hK; simp only [go_sem, *]) | simp only [z6, z7, go_sem, *])
   all_goals try contradiction
   refine u3 rfl (s.steps.length) (fun i => W2 s (s.steps.drop i) = G) 96 (fun i => [(4, iV i), (1, .ptr 0 0)]) (fun i => [.box [.list (s.first.map y7), .list (s.steps.map i9), .list (s.facts.map Fact.enc)]]) [some 0] [] (by exact hG) ?_; intro i hi hP
   clear hG
   by_cases hi2 : i < s.steps.length
   ·have hi3 : (i : Int) < s.steps.length := by omega
    unfold W2 at hP
    rw [zIE hi2] at hP
    have hwi := hwl _ (w8 hi2)
    generalize hw : s.steps.getD i default = w at *
    by_cases hw0 : w.length = 0
    ·have hw0i : (w.length : Int) = 0 := by omega
     rw [if_pos hw0, if_neg (by decide)] at hP
     subst hP
     repeat' (first | (refine Qr rfl ?_; try intro _ hK; try simp only [go_sem, *]) | (refine Qi rfl rfl rfl rfl ?_ ?_ <;> (intro hb; (try intro _ hK); have hc := hb; try simp only [go_sem] at hc; simp only [go_sem, *])) | refine Qh rfl ?_ | refine Qd rfl (by kernel_rfl) ?_ | (refine Qc rfl rfl ?_ ?_ <;> (intro hb; have hc := hb; try simp only [go_sem] at hc)) | refine q6 rfl ?_ | (refine Qb ?_ ?_; focus kernel_rfl) | ((with_reducible apply And.intro); focus omega) | (refine z8 hK ?_; clear hK; simp only [go_sem, *]) | simp only [z6, z7, go_sem, *])
     all_goals try contradiction
     (refine ⟨[_], [], [], ⟨rfl, trivial⟩, ?_⟩; simp only [go_sem, *])
    rw [if_neg hw0] at hP
    have hw0i : ¬ (w.length : Int) = 0 := by omega
    by_cases hw3 : 3 < w.length
    ·have hw3i : (w.length : Int) > 3 := by omega
     rw [if_pos hw3, if_neg (by decide)] at hP
     subst hP
     repeat' (first | (refine Qr rfl ?_; try intro _ hK; try simp only [go_sem, *]) | (refine Qi rfl rfl rfl rfl ?_ ?_ <;> (intro hb; (try intro _ hK); have hc := hb; try simp only [go_sem] at hc; simp only [go_sem, *])) | refine Qh rfl ?_ | refine Qd rfl (by kernel_rfl) ?_ | (refine Qc rfl rfl ?_ ?_ <;> (intro hb; have hc := hb; try simp only [go_sem] at hc)) | refine q6 rfl ?_ | (refine Qb ?_ ?_; focus kernel_rfl) | ((with_reducible apply And.intro); focus omega) | (refine z8 hK ?_; clear hK; simp only [go_sem, *]) | simp only [z6, z7, go_sem, *])
     all_goals try contradiction
     (refine ⟨[_], [], [], ⟨rfl, trivial⟩, ?_⟩; simp only [go_sem, *])
    rw [if_neg hw3] at hP
    have hw3i : ¬ (w.length : Int) > 3 := by omega
    have hP0 : (if l2 (w.drop 0) = 0 then W2 s (s.steps.drop (i + 1)) else 8) = G := by
     rw [← hP, List.drop_zero]
     unfold W2
     split <;> rfl
    clear hP
    repeat' (first | (refine Qr rfl ?_; try intro _ hK; try simp only [go_sem, *]) | (refine Qi rfl rfl rfl rfl ?_ ?_ <;> (intro hb; (try intro _ hK); have hc := hb; try simp only [go_sem] at hc; simp only [go_sem, *])) | refine Qh rfl ?_ | refine Qd rfl (by kernel_rfl) ?_ | (refine Qc rfl rfl ?_ ?_ <;> (intro hb; have hc := hb; try simp only [go_sem] at hc)) | refine q6 rfl ?_ | (refine Qb ?_ ?_; focus kernel_rfl) | ((with_reducible apply And.intro); focus omega) | (refine z8 hK ?_; clear hK; simp only [go_sem, *]) | simp only [z6, z7, go_sem, *])
    all_goals try contradiction
    refine u3 rfl (w.length) (fun j => (if l2 (w.drop j) = 0 then W2 s (s.steps.drop (i + 1)) else 8) = G) 96 (fun j => [(6, iV j), (5, .list (w.map Change.enc)), (4, iV i), (1, .ptr 0 0)]) (fun j => [.box [.list (s.first.map y7), .list (s.steps.map i9), .list (s.facts.map Fact.enc)]]) [some 0] [] (by exact hP0) ?_; intro j hj hQ
    by_cases hj : j < w.length
    ·have hj3 : (j : Int) < w.length := by omega
     rw [zIT hj] at hQ
     have sb := zIC (w.getD j default).kind 1 7
     by_cases hbt : zLr (w.getD j default).kind 1 7 = true
     ·rw [if_pos hbt] at hQ
      rw [hbt] at sb
      repeat' (first | (refine Qr rfl ?_; try intro _ hK; try simp only [go_sem, *]) | (refine Qi rfl rfl rfl rfl ?_ ?_ <;> (intro hb; (try intro _ hK); have hc := hb; try simp only [go_sem] at hc; simp only [go_sem, *])) | refine Qh rfl ?_ | refine Qd rfl (by kernel_rfl) ?_ | (refine Qc rfl rfl ?_ ?_ <;> (intro hb; have hc := hb; try simp only [go_sem] at hc)) | refine q6 rfl ?_ | (refine Qb ?_ ?_; focus kernel_rfl) | (refine y4 (sb) ?_; simp only [go_sem, *]) | ((with_reducible apply And.intro); focus omega) | (refine z8 hK ?_; clear hK; simp only [go_sem, *]) | simp only [z6, z7, go_sem, *])
      all_goals try contradiction
      exact u2 (i' := j + 1) [some 0] [] (by exact hQ)
     ·rw [if_neg hbt, if_neg (by decide)] at hQ
      rw [Bool.not_eq_true] at hbt
      rw [hbt] at sb
      subst hQ
      repeat' (first | (refine Qr rfl ?_; try intro _ hK; try simp only [go_sem, *]) | (refine Qi rfl rfl rfl rfl ?_ ?_ <;> (intro hb; (try intro _ hK); have hc := hb; try simp only [go_sem] at hc; simp only [go_sem, *])) | refine Qh rfl ?_ | refine Qd rfl (by kernel_rfl) ?_ | (refine Qc rfl rfl ?_ ?_ <;> (intro hb; have hc := hb; try simp only [go_sem] at hc)) | refine q6 rfl ?_ | (refine Qb ?_ ?_; focus kernel_rfl) | (refine y4 (sb) ?_; simp only [go_sem, *]) | ((with_reducible apply And.intro); focus omega) | (refine z8 hK ?_; clear hK; simp only [go_sem, *]) | simp only [z6, z7, go_sem, *])
      all_goals try contradiction
      (refine ⟨[_], [], [], ⟨rfl, trivial⟩, ?_⟩; simp only [go_sem, *])
    ·have hj3 : ¬ (j : Int) < w.length := by omega
     rw [u7 (by omega), l2, if_pos rfl] at hQ
     repeat' (first | (refine Qr rfl ?_; try intro _ hK; try simp only [go_sem, *]) | (refine Qi rfl rfl rfl rfl ?_ ?_ <;> (intro hb; (try intro _ hK); have hc := hb; try simp only [go_sem] at hc; simp only [go_sem, *])) | refine Qh rfl ?_ | refine Qd rfl (by kernel_rfl) ?_ | (refine Qc rfl rfl ?_ ?_ <;> (intro hb; have hc := hb; try simp only [go_sem] at hc)) | refine q6 rfl ?_ | (refine Qb ?_ ?_; focus kernel_rfl) | ((with_reducible apply And.intro); focus omega) | (refine z8 hK ?_; clear hK; simp only [go_sem, *]) | simp only [z6, z7, go_sem, *])
     all_goals try contradiction
     exact u2 (i' := i + 1) [some 0] [] (by exact hQ)
   ·rw [u7 (by omega), W2, Y2, if_pos rfl] at hP
    by_cases hf4 : 4 < s.facts.length
    ·have hf4i : (s.facts.length : Int) > 4 := by omega
     rw [L8, if_pos hf4] at hP
     subst hP
     repeat' (first | (refine Qr rfl ?_; try intro _ hK; try simp only [go_sem, *]) | (refine Qi rfl rfl rfl rfl ?_ ?_ <;> (intro hb; (try intro _ hK); have hc := hb; try simp only [go_sem] at hc; simp only [go_sem, *])) | refine Qh rfl ?_ | refine Qd rfl (by kernel_rfl) ?_ | (refine Qc rfl rfl ?_ ?_ <;> (intro hb; have hc := hb; try simp only [go_sem] at hc)) | refine q6 rfl ?_ | (refine Qb ?_ ?_; focus kernel_rfl) | ((with_reducible apply And.intro); focus omega) | (refine z8 hK ?_; clear hK; simp only [go_sem, *]) | simp only [z6, z7, go_sem, *])
     all_goals try contradiction
     (refine ⟨[_], [], [], ⟨rfl, trivial⟩, ?_⟩; simp only [go_sem, *])
    have hf4i : ¬ (s.facts.length : Int) > 4 := by omega
    rw [L8, if_neg hf4] at hP
    have hi3 : ¬ (i : Int) < s.steps.length := by omega
    repeat' (first | (refine Qr rfl ?_; try intro _ hK; try simp only [go_sem, *]) | (refine Qi rfl rfl rfl rfl ?_ ?_ <;> (intro hb; (try intro _ hK); have hc := hb; try simp only [go_sem] at hc; simp only [go_sem, *])) | refine Qh rfl ?_ | refine Qd rfl (by kernel_rfl) ?_ | (refine Qc rfl rfl ?_ ?_ <;> (intro hb; have hc := hb; try simp only [go_sem] at hc)) | refine q6 rfl ?_ | (refine Qb ?_ ?_; focus kernel_rfl) | ((with_reducible apply And.intro); focus omega) | (refine z8 hK ?_; clear hK; simp only [go_sem, *]) | simp only [z6, z7, go_sem, *])
    all_goals try contradiction
    clear hi2 hi hi3
    refine u3 rfl (s.facts.length) (fun k => Q4 s.first (s.facts.drop k) = G) 96 (fun k => [(7, iV k), (1, .ptr 0 0)]) (fun k => [.box [.list (s.first.map y7), .list (s.steps.map i9), .list (s.facts.map Fact.enc)]]) [some 0] [] (by exact hP) ?_; intro k hk hQ
    by_cases hk : k < s.facts.length
    ·have hk3 : (k : Int) < s.facts.length := by omega
     rw [zEi hk] at hQ
     have hcn := v.count
     have hln := v.len
     have hwp : IntKind.i64.wrap ((s.first.length : Int) - 1) = (s.first.length : Int) - 1 := wrap_i64 (by omega) (by omega)
     have s1 := zOI s.first (s.facts.getD k default).src (by omega) (fun l hl => by have := (v.rows l hl).len; omega)
     have s2 := zIC (s.facts.getD k default).dst.street 0 ((s.first.length : Int) - 1)
     have s3 := zLU (s.facts.getD k default).dst.plate
     by_cases q1 : (s.facts.getD k default).src ∈ q9 s.first
     ·by_cases q2 : zLr (s.facts.getD k default).dst.street 0 ((s.first.length : Int) - 1) = true
      ·rw [if_pos ⟨q1, q2⟩] at hQ
       have q1' : decide ((s.facts.getD k default).src ∈ q9 s.first) = true := by simpa using q1
       rw [q1'] at s1
       rw [q2] at s2
       by_cases q3 : (s.facts.getD k default).dst.plate.ok = true
       ·rw [if_pos q3] at hQ
        rw [q3] at s3
        clear q1 q1' q2 q3
        repeat' (first | (refine Qr rfl ?_; try intro _ hK; try simp only [go_sem, *]) | (refine Qi rfl rfl rfl rfl ?_ ?_ <;> (intro hb; (try intro _ hK); have hc := hb; try simp only [go_sem] at hc; simp only [go_sem, *])) | refine Qh rfl ?_ | refine Qd rfl (by kernel_rfl) ?_ | (refine Qc rfl rfl ?_ ?_ <;> (intro hb; have hc := hb; try simp only [go_sem] at hc)) | refine q6 rfl ?_ | (refine Qb ?_ ?_; focus kernel_rfl) | ((first | refine y4 (s1) ?_ | refine y4 (s2) ?_ | refine y4 (s3) ?_); simp only [go_sem, *]) | ((with_reducible apply And.intro); focus omega) | (refine z8 hK ?_; clear hK; simp only [go_sem, *]) | simp only [z6, z7, go_sem, *])
        all_goals try contradiction
        exact u2 (i' := k + 1) [some 0] [] (by exact hQ)
       ·rw [if_neg q3] at hQ
        rw [Bool.not_eq_true] at q3
        rw [q3] at s3
        clear q1 q1' q2 q3
        subst hQ
        repeat' (first | (refine Qr rfl ?_; try intro _ hK; try simp only [go_sem, *]) | (refine Qi rfl rfl rfl rfl ?_ ?_ <;> (intro hb; (try intro _ hK); have hc := hb; try simp only [go_sem] at hc; simp only [go_sem, *])) | refine Qh rfl ?_ | refine Qd rfl (by kernel_rfl) ?_ | (refine Qc rfl rfl ?_ ?_ <;> (intro hb; have hc := hb; try simp only [go_sem] at hc)) | refine q6 rfl ?_ | (refine Qb ?_ ?_; focus kernel_rfl) | ((first | refine y4 (s1) ?_ | refine y4 (s2) ?_ | refine y4 (s3) ?_); simp only [go_sem, *]) | ((with_reducible apply And.intro); focus omega) | (refine z8 hK ?_; clear hK; simp only [go_sem, *]) | simp only [z6, z7, go_sem, *])
        all_goals try contradiction
        (refine ⟨[_], [], [], ⟨rfl, trivial⟩, ?_⟩; simp only [go_sem, *])
      ·rw [if_neg (fun h => q2 h.2)] at hQ
       have q1' : decide ((s.facts.getD k default).src ∈ q9 s.first) = true := by simpa using q1
       rw [q1'] at s1
       rw [Bool.not_eq_true] at q2
       rw [q2] at s2
       clear q1 q1' q2
       subst hQ
       repeat' (first | (refine Qr rfl ?_; try intro _ hK; try simp only [go_sem, *]) | (refine Qi rfl rfl rfl rfl ?_ ?_ <;> (intro hb; (try intro _ hK); have hc := hb; try simp only [go_sem] at hc; simp only [go_sem, *])) | refine Qh rfl ?_ | refine Qd rfl (by kernel_rfl) ?_ | (refine Qc rfl rfl ?_ ?_ <;> (intro hb; have hc := hb; try simp only [go_sem] at hc)) | refine q6 rfl ?_ | (refine Qb ?_ ?_; focus kernel_rfl) | ((first | refine y4 (s1) ?_ | refine y4 (s2) ?_ | refine y4 (s3) ?_); simp only [go_sem, *]) | ((with_reducible apply And.intro); focus omega) | (refine z8 hK ?_; clear hK; simp only [go_sem, *]) | simp only [z6, z7, go_sem, *])
       all_goals try contradiction
       (refine ⟨[_], [], [], ⟨rfl, trivial⟩, ?_⟩; simp only [go_sem, *])
     ·rw [if_neg (fun h => q1 h.1)] at hQ
      have q1' : decide ((s.facts.getD k default).src ∈ q9 s.first) = false := by simpa using q1
      rw [q1'] at s1
      clear q1 q1'
      subst hQ
      repeat' (first | (refine Qr rfl ?_; try intro _ hK; try simp only [go_sem, *]) | (refine Qi rfl rfl rfl rfl ?_ ?_ <;> (intro hb; (try intro _ hK); have hc := hb; try simp only [go_sem] at hc; simp only [go_sem, *])) | refine Qh rfl ?_ | refine Qd rfl (by kernel_rfl) ?_ | (refine Qc rfl rfl ?_ ?_ <;> (intro hb; have hc := hb; try simp only [go_sem] at hc)) | refine q6 rfl ?_ | (refine Qb ?_ ?_; focus kernel_rfl) | ((first | refine y4 (s1) ?_ | refine y4 (s2) ?_ | refine y4 (s3) ?_); simp only [go_sem, *]) | ((with_reducible apply And.intro); focus omega) | (refine z8 hK ?_; clear hK; simp only [go_sem, *]) | simp only [z6, z7, go_sem, *])
      all_goals try contradiction
      (refine ⟨[_], [], [], ⟨rfl, trivial⟩, ?_⟩; simp only [go_sem, *])
    ·rw [u7 (by omega), Q4] at hQ
     subst hQ
     have hk3 : ¬ (k : Int) < s.facts.length := by omega
     repeat' (first | (refine Qr rfl ?_; try intro _ hK; try simp only [go_sem, *]) | (refine Qi rfl rfl rfl rfl ?_ ?_ <;> (intro hb; (try intro _ hK); have hc := hb; try simp only [go_sem] at hc; simp only [go_sem, *])) | refine Qh rfl ?_ | refine Qd rfl (by kernel_rfl) ?_ | (refine Qc rfl rfl ?_ ?_ <;> (intro hb; have hc := hb; try simp only [go_sem] at hc)) | refine q6 rfl ?_ | (refine Qb ?_ ?_; focus kernel_rfl) | ((with_reducible apply And.intro); focus omega) | (refine z8 hK ?_; clear hK; simp only [go_sem, *]) | simp only [z6, z7, go_sem, *])
     all_goals try contradiction
     (refine ⟨[_], [], [], ⟨rfl, trivial⟩, ?_⟩; simp only [go_sem, *])
 ·have e : (check s.first == 0) = false := by simpa using hc0
  have e2 : (check s.first != 0) = true := by simpa using hc0
  rw [r9, if_neg hc0] at hG
  subst hG
  clear hc0
  generalize check s.first = k at *
  refine q8 func107 rfl (fun E hE => ?_); simp only [go_sem, ntmps107]
  repeat' (first | (refine Qr rfl ?_; try intro _ hK; try simp only [go_sem, *]) | (refine Qi rfl rfl rfl rfl ?_ ?_ <;> (intro hb; (try intro _ hK); have hc := hb; try simp only [go_sem] at hc; simp only [go_sem, *])) | refine Qh rfl ?_ | refine Qd rfl (by kernel_rfl) ?_ | (refine Qc rfl rfl ?_ ?_ <;> (intro hb; have hc := hb; try simp only [go_sem] at hc)) | refine q6 rfl ?_ | (refine Qb ?_ ?_; focus kernel_rfl) | (refine y4 (sc) ?_; simp only [go_sem, *]) | ((with_reducible apply And.intro); focus omega) | (refine z8 hK ?_; clear hK; simp only [go_sem, *]) | simp only [z6, z7, go_sem, *])
  all_goals try contradiction
  all_goals (refine ⟨[_], [], [], ⟨rfl, trivial⟩, ?_⟩; simp only [go_sem, *])
end Go.Abs

namespace Go.Abs
open Go Go.Proofs Tryz
attribute [local irreducible] y6 Hold x8
@[reducible] def zNG (s : Story) : AObj := .box [.list (s.first.map y7), .list (s.steps.map i9), .list (s.facts.map Fact.enc)]
@[reducible] def zRu (hs : List House) (f : House → List House) : List AV := hs.map fun h => Q3 (f h)
@[go_sem, simp] theorem zRR (H : Nat → AObj) (m : List (Option Nat)) (ex : List Nat) (l : List House) (f : House → List House) : XpL H m ex (List.map (fun h => AV.list (List.map House.enc (f h))) l) (List.map (fun h => AV.list (List.map House.enc (f h))) l) ↔ True := ⟨fun _ => trivial, fun _ => zBA (fun x => by simp only [XpF]) _⟩
@[go_sem, simp] theorem zRZ {α : Type} (H : Nat → AObj) (m : List (Option Nat)) (ex : List Nat) (f : α → List AV) (l : List α) (i : Nat) (x y : AV) : XpL H m ex (List.take i (List.map (fun t => AV.list (f t)) l) ++ [x]) (List.take i (List.map (fun t => AV.list (f t)) l) ++ [y]) ↔ XpF H m ex x y := by
 rw [L0 _ (fun z hz => by
  obtain ⟨t, _, rfl⟩ := List.mem_map.1 (List.mem_of_mem_take hz)
  simp only [XpF])]
@[go_sem, simp] theorem zRW {α : Type} (H : Nat → AObj) (m : List (Option Nat)) (ex : List Nat) (f : α → List AV) (l : List α) (x y : AV) : XpL H m ex (List.map (fun t => AV.list (f t)) l ++ [x]) (List.map (fun t => AV.list (f t)) l ++ [y]) ↔ XpF H m ex x y := by
 rw [L0 _ (fun z hz => by
  obtain ⟨t, _, rfl⟩ := List.mem_map.1 hz
  simp only [XpF])]
def zRy (h : House) : List House := [h]
theorem zPg {s : Story} {n : Nat} {t : Truth} (o : TOk s n t) (c : Change) (i : Nat) {h : House} (hh : h ∈ q9 s.first) : s6 (zMK (N1 t.fin c) (t.now h)) = (n0 t c i).now h := by
 rw [zJU t.fin c (t.now h) (o.mem h hh)]; rfl
theorem zPG (s : Story) (o : Told s) : ∀ (n : Nat) (t : Truth), TOk s n t → zLp prog 143 [s.enc, t.encR s.first] [] (.list ((l4 s n t).map (Truth.encR s.first))) []
 | 0, t, k => by
  have hq : ((t.ways.length : Int) == (s.steps.length : Int)) = true := by have := k.steps; simp; omega
  rw [l4]
  clear o k
  refine q8 func143 rfl (fun E hE => ?_); simp only [go_sem, ntmps143]
  repeat' (first | (refine Qr rfl ?_; try intro _ hK; try simp only [go_sem, *]) | refine Qh rfl ?_ | refine Qd rfl (by kernel_rfl) ?_ | (refine Qc rfl rfl ?_ ?_ <;> (intro hb; have hc := hb; try simp only [go_sem] at hc)) | refine q6 rfl ?_ | (refine Qb ?_ ?_; focus kernel_rfl) | ((with_reducible apply And.intro); focus omega) | (refine z8 hK ?_; clear hK; simp only [go_sem, *]) | simp only [z6, z7, go_sem, *])
  all_goals try contradiction
  refine ⟨[.own 2 3 0 1], [], [2], ⟨rfl, trivial⟩, ?_⟩
  simp only [go_sem, *]
 | n + 1, t, k => by
  have IH := fun t' k' => zPG s o n t' k'
  have hst := k.steps
  have h3 := o.steps
  have hq : ((t.ways.length : Int) == (s.steps.length : Int)) = false := by simp; omega
  have hk : t.ways.length < s.steps.length := by omega
  have hv := k.val
  have hv3 := hv.len
  have hct := o.first.count
  have hRl : (l4 s (n + 1) t).length ≤ 27 := by
   have h1 := zBu (fun w hw => (o.ways w hw).2.1) (n + 1) t
   have h2 : 3 ^ (n + 1) ≤ 3 ^ 3 := Nat.pow_le_pow_right (by omega) (by omega)
   omega
  have hR0 : ([] : List Truth) ++ b9 s n t 0 = l4 s (n + 1) t := by rw [zKD]; rfl
  have hWl : (s.steps.getD t.ways.length default).length ≤ 3 := (o.ways _ (w8 hk)).2.1
  have hyes : ∀ i, i < (s.steps.getD t.ways.length default).length → can t.fin ((s.steps.getD t.ways.length default).getD i default) = 0 → b9 s n t i = l4 s n (n0 t ((s.steps.getD t.ways.length default).getD i default) i) ++ b9 s n t (i + 1) := fun i hi hc => zKC hi hc
  have hno : ∀ i, i < (s.steps.getD t.ways.length default).length → can t.fin ((s.steps.getD t.ways.length default).getD i default) ≠ 0 → b9 s n t i = b9 s n t (i + 1) := fun i hi hc => zKB hi hc
  have hen : ∀ i, (s.steps.getD t.ways.length default).length ≤ i → b9 s n t i = [] := fun i hi => zKA hi
  generalize hWd : s.steps.getD t.ways.length default = W at *
  generalize l4 s (n + 1) t = R at *
  refine q8 func143 rfl (fun E hE => ?_); simp only [go_sem, ntmps143]
  repeat' (first | (refine Qr rfl ?_; try intro _ hK; try simp only [go_sem, *]) | refine Qh rfl ?_ | refine Qd rfl (by kernel_rfl) ?_ | (refine Qc rfl rfl ?_ ?_ <;> (intro hb; have hc := hb; try simp only [go_sem] at hc)) | refine q6 rfl ?_ | (refine Qb ?_ ?_; focus kernel_rfl) | ((with_reducible apply And.intro); focus omega) | (refine z8 hK ?_; clear hK; simp only [go_sem, *]) | simp only [z6, z7, go_sem, *])
  all_goals try contradiction
  clear hWd hq
  refine u4 rfl (W.length) (fun i (acc : List Truth) => acc ++ b9 s n t i = R) 86 (fun i acc => [(7, iV i), (6, .list (W.map Change.enc)), (5, .own 2 3 0 acc.length), (2, .ptr 0 0), (3, .ptr 1 0)]) (fun i acc => [zNG s, .box [.list (t.ways.map iV), .list (t.fin.map y7), .list (zRu (q9 s.first) t.now)], .row 3 (acc.map (Truth.encR s.first))]) [some 0, some 1, none] [] ([]) (by exact hR0) ?_; intro i acc hi hP
  clear hR0
  have hql := congrArg List.length hP
  simp only [List.length_append] at hql
  by_cases hi : i < W.length
  ·have hi3 : (i : Int) < W.length := by omega
   have sC := zQa t.fin (W.getD i default) hv
   by_cases e : can t.fin (W.getD i default) = 0
   ·have f := Fit.of_can e
    have sM := zQt t.fin (W.getD i default) hv f
    rw [hyes i hi e] at hP hql
    simp only [List.length_append] at hql
    rw [e] at sC
    have kn := k.next e i
    have IH1 := IH _ kn
    have hcar : ∀ h, h ∈ q9 s.first → zLp prog 167 [x7 t.fin, (W.getD i default).enc, Q3 (t.now h)] [] (Q3 ((n0 t (W.getD i default) i).now h)) [] := fun h hh => by
     have := zQl t.fin (W.getD i default) (t.now h) hv f (by have := k.small h3 hh; omega)
     rwa [zPg k (W.getD i default) i hh] at this
    have hf : (n0 t (W.getD i default) i).fin = s9 t.fin (W.getD i default) := rfl
    have hw : (n0 t (W.getD i default) i).ways = t.ways ++ [(i : Int)] := rfl
    have hwl : t.ways.length ≤ 3 := by omega
    rw [← hf] at sM
    clear hyes hno hen IH e f kn hf
    generalize n0 t (W.getD i default) i = t2 at *
    generalize l4 s n t2 = B at *
    generalize hHd : q9 s.first = H at *
    have ht : ∀ a : AV, List.take (t.ways.length + 1) (List.map iV t.ways ++ [a]) = List.map iV t.ways ++ [a] := fun a => List.take_of_length_le (by simp)
    repeat' (first | (refine Qr rfl ?_; try intro _ hK; try simp only [go_sem, *]) | refine Qh rfl ?_ | refine Qd rfl (by kernel_rfl) ?_ | (refine Qc rfl rfl ?_ ?_ <;> (intro hb; have hc := hb; try simp only [go_sem] at hc)) | refine q6 rfl ?_ | (with_reducible (show (∀ _ : AV, _ → _) ∧ _); refine And.intro ?_ ?_; (focus (intro y hy; first | (obtain ⟨z, _, rfl⟩ := List.mem_map.1 (hy); simp [go_sem]; done) | (obtain ⟨z, _, rfl⟩ := List.mem_map.1 (List.mem_of_mem_take hy); simp [go_sem]; done) | (obtain ⟨z, _, rfl⟩ := List.mem_map.1 (List.mem_of_mem_drop hy); simp [go_sem]; done) | (obtain ⟨z, _, rfl⟩ := List.mem_map.1 (List.mem_of_mem_drop (List.mem_of_mem_take hy)); simp [go_sem]; done)))) | (refine Qb ?_ ?_; focus kernel_rfl) | ((first | refine y4 (sC) ?_ | refine y4 (sM) ?_); simp only [go_sem, *]) | ((with_reducible apply And.intro); focus omega) | (refine z8 hK ?_; clear hK; simp only [go_sem, *]) | simp only [z6, z7, go_sem, *])
    all_goals try contradiction
    clear sC sM
    refine u3 rfl (H.length) (fun j => NoP j) 86 (fun j => [(9, iV j), (8, .ptr 3 0), (7, iV i), (6, .list (W.map Change.enc)), (5, .own 2 3 0 acc.length), (2, .ptr 0 0), (3, .ptr 1 0)]) (fun j => [zNG s, .box [.list (t.ways.map iV), .list (t.fin.map y7), .list (zRu H t.now)], .row 3 (acc.map (Truth.encR s.first)), .box [.list (t2.ways.map iV), .list (t2.fin.map y7), .own 4 1 0 j], .box (zRu (H.take j) t2.now)]) [some 0, some 1, some 2, some 7, none] [6] (by trivial) ?_; intro j hj hJ
    clear hw ht
    by_cases hj : j < H.length
    ·have hj3 : (j : Int) < H.length := by omega
     have sc := hcar _ (w8 hj)
     have e := Z8 (l := H) (i := j) hj
     clear hcar
     repeat' (first | (refine Qr rfl ?_; try intro _ hK; try simp only [go_sem, *]) | refine Qh rfl ?_ | refine Qd rfl (by kernel_rfl) ?_ | (refine Qc rfl rfl ?_ ?_ <;> (intro hb; have hc := hb; try simp only [go_sem] at hc)) | refine q6 rfl ?_ | (with_reducible (show (∀ _ : AV, _ → _) ∧ _); refine And.intro ?_ ?_; (focus (intro y hy; first | (obtain ⟨z, _, rfl⟩ := List.mem_map.1 (hy); simp [go_sem]; done) | (obtain ⟨z, _, rfl⟩ := List.mem_map.1 (List.mem_of_mem_take hy); simp [go_sem]; done) | (obtain ⟨z, _, rfl⟩ := List.mem_map.1 (List.mem_of_mem_drop hy); simp [go_sem]; done) | (obtain ⟨z, _, rfl⟩ := List.mem_map.1 (List.mem_of_mem_drop (List.mem_of_mem_take hy)); simp [go_sem]; done)))) | (refine Qb ?_ ?_; focus kernel_rfl) | (refine y4 (sc) ?_; simp only [go_sem, *]) | ((with_reducible apply And.intro); focus omega) | (refine z8 hK ?_; clear hK; simp only [go_sem, *]) | simp only [z6, z7, go_sem, *])
     all_goals try contradiction
     exact u2 (i' := j + 1) [some 0, some 1, some 2, some 3, some 6] [] (by trivial)
    ·have hj3 : ¬ (j : Int) < H.length := by omega
     have e : H.take j = H := List.take_of_length_le (by omega)
     have e2 : j = H.length := by omega
     subst e2
     clear hcar
     refine G9 (N := 86) (env := [(9, iV H.length), (8, .ptr 3 0), (7, iV i), (6, .list (W.map Change.enc)), (5, .own 2 3 0 acc.length), (2, .ptr 0 0), (3, .ptr 1 0)]) (As := [zNG s, .box [.list (t.ways.map iV), .list (t.fin.map y7), .list (zRu H t.now)], .row 3 (acc.map (Truth.encR s.first)), .box [.list (t2.ways.map iV), .list (t2.fin.map y7), .list (zRu H t2.now)]]) [some 0, some 1, some 2, some 3] [4] (by (simp only [Weak, go_sem, List.map_append, List.map_set, *] <;> (try simp (disch := omega) only [t8]) <;> (try simp) <;> (try omega))) ?_
     simp only [Truth.encR, hHd] at IH1
     clear e
     repeat' (first | (refine Qr rfl ?_; try intro _ hK; try simp only [go_sem, *]) | refine Qh rfl ?_ | refine Qd rfl (by kernel_rfl) ?_ | (refine Qc rfl rfl ?_ ?_ <;> (intro hb; have hc := hb; try simp only [go_sem] at hc)) | refine q6 rfl ?_ | (with_reducible (show (∀ _ : AV, _ → _) ∧ _); refine And.intro ?_ ?_; (focus (intro y hy; first | (obtain ⟨z, _, rfl⟩ := List.mem_map.1 (hy); simp [go_sem]; done) | (obtain ⟨z, _, rfl⟩ := List.mem_map.1 (List.mem_of_mem_take hy); simp [go_sem]; done) | (obtain ⟨z, _, rfl⟩ := List.mem_map.1 (List.mem_of_mem_drop hy); simp [go_sem]; done) | (obtain ⟨z, _, rfl⟩ := List.mem_map.1 (List.mem_of_mem_drop (List.mem_of_mem_take hy)); simp [go_sem]; done)))) | (refine Qb ?_ ?_; focus kernel_rfl) | (refine y4 (IH1) ?_; simp only [go_sem, *]) | ((with_reducible apply And.intro); focus omega) | (refine z8 hK ?_; clear hK; simp only [go_sem, *]) | simp only [z6, z7, go_sem, *])
     all_goals try contradiction
     exact w6 (i' := i + 1) [some 0, some 1, some 4] [] (acc ++ B) (by rw [← hP]; simp)
   ·rw [hno i hi e] at hP
    have e2 : (can t.fin (W.getD i default) != 0) = true := by simpa using e
    clear hyes hno hen IH e
    generalize can t.fin (W.getD i default) = er at *
    repeat' (first | (refine Qr rfl ?_; try intro _ hK; try simp only [go_sem, *]) | refine Qh rfl ?_ | refine Qd rfl (by kernel_rfl) ?_ | (refine Qc rfl rfl ?_ ?_ <;> (intro hb; have hc := hb; try simp only [go_sem] at hc)) | refine q6 rfl ?_ | (refine Qb ?_ ?_; focus kernel_rfl) | (refine y4 (sC) ?_; simp only [go_sem, *]) | ((with_reducible apply And.intro); focus omega) | (refine z8 hK ?_; clear hK; simp only [go_sem, *]) | simp only [z6, z7, go_sem, *])
    all_goals try contradiction
    exact w6 (i' := i + 1) [some 0, some 1, some 2] [] (acc) (by exact hP)
  ·have hi3 : ¬ (i : Int) < W.length := by omega
   rw [hen i (by omega), List.append_nil] at hP
   subst hP
   clear hyes hno hen IH
   repeat' (first | (refine Qr rfl ?_; try intro _ hK; try simp only [go_sem, *]) | refine Qh rfl ?_ | refine Qd rfl (by kernel_rfl) ?_ | (refine Qc rfl rfl ?_ ?_ <;> (intro hb; have hc := hb; try simp only [go_sem] at hc)) | refine q6 rfl ?_ | (refine Qb ?_ ?_; focus kernel_rfl) | ((with_reducible apply And.intro); focus omega) | (refine z8 hK ?_; clear hK; simp only [go_sem, *]) | simp only [z6, z7, go_sem, *])
   all_goals try contradiction
   refine ⟨[.own 2 3 0 acc.length], [], [2], ⟨rfl, trivial⟩, ?_⟩
   simp only [go_sem, *]
theorem zOF (s : Story) (t : Truth) (h : House) (v : Valid s.first) (hh : h ∈ q9 s.first) : zLp prog 115 [s.enc, t.encR s.first, h.enc] [] (Q3 (t.now h)) [] := by
 have hct := v.count
 have sO := zLa s.first (by have := v.len; omega) (fun l hl => by have := (v.rows l hl).len; omega) (by omega)
 generalize hHd : q9 s.first = H at *
 refine q8 func115 rfl (fun E hE => ?_); simp only [go_sem, ntmps115]
 repeat' (first | (refine Qr rfl ?_; try intro _ hK; try simp only [go_sem, *]) | refine Qh rfl ?_ | refine Qd rfl (by kernel_rfl) ?_ | (refine Qc rfl rfl ?_ ?_ <;> (intro hb; have hc := hb; try simp only [go_sem] at hc)) | refine q6 rfl ?_ | (refine Qb ?_ ?_; focus kernel_rfl) | (refine zJQ (sO) ?_ ?_ ?_ ?_; (focus (simp only [go_sem, *]; done)); (focus (first | (simp; done) | (simp [go_sem]; done))); (focus (first | (simp; done) | (simp [go_sem]; done))); simp only [go_sem, *]) | (refine zD5 (sO) ?_ ?_; (focus (simp only [go_sem, *]; done)); simp only [go_sem, *]) | ((with_reducible apply And.intro); focus omega) | (refine z8 hK ?_; clear hK; simp only [go_sem, *]) | simp only [z6, z7, go_sem, *])
 all_goals try contradiction
 refine u3 rfl (H.length) (fun i => h ∉ H.take i) 29 (fun i => [(8, iV i), (7, Q3 H), (5, .ptr 1 0), (4, .ptr 0 0)]) (fun i => [.box [.list (t.ways.map iV), .list (t.fin.map y7), .list (zRu H t.now)], .box [iV h.street, iV h.plate.number, iV h.plate.letter]]) [some 1, some 2] [3] (by simp) ?_; intro i hi hP
 by_cases hi : i < H.length
 ·have hi3 : (i : Int) < H.length := by omega
  by_cases q : H.getD i default = h
  ·have q' : decide (H.getD i default = h) = true := decide_eq_true q
   have e : t.now (H.getD i default) = t.now h := by rw [q]
   clear q hP hh
   repeat' (first | (refine Qr rfl ?_; try intro _ hK; try simp only [go_sem, *]) | refine Qh rfl ?_ | refine Qd rfl (by kernel_rfl) ?_ | (refine Qc rfl rfl ?_ ?_ <;> (intro hb; have hc := hb; try simp only [go_sem] at hc)) | refine q6 rfl ?_ | (refine Qb ?_ ?_; focus kernel_rfl) | ((with_reducible apply And.intro); focus omega) | (refine z8 hK ?_; clear hK; simp only [go_sem, *]) | simp only [z6, z7, go_sem, *])
   all_goals try contradiction
   (refine ⟨[_], [], [], ⟨rfl, trivial⟩, ?_⟩; simp only [go_sem, *])
  ·have q' : decide (H.getD i default = h) = false := decide_eq_false q
   have hP2 : h ∉ H.take (i + 1) := by rw [Z8 hi, List.mem_append, List.mem_singleton]; exact fun h => h.elim hP (fun e => q e.symm)
   clear q hP hh
   repeat' (first | (refine Qr rfl ?_; try intro _ hK; try simp only [go_sem, *]) | refine Qh rfl ?_ | refine Qd rfl (by kernel_rfl) ?_ | (refine Qc rfl rfl ?_ ?_ <;> (intro hb; have hc := hb; try simp only [go_sem] at hc)) | refine q6 rfl ?_ | (refine Qb ?_ ?_; focus kernel_rfl) | ((with_reducible apply And.intro); focus omega) | (refine z8 hK ?_; clear hK; simp only [go_sem, *]) | simp only [z6, z7, go_sem, *])
   all_goals try contradiction
   exact u2 (i' := i + 1) [some 0, some 1] [] (by exact hP2)
 ·rw [List.take_of_length_le (by omega)] at hP
  exact absurd hh hP
def FaR (s : Story) (T : Truth) (k : Nat) (b : Bool) (A : Bool) : Prop := (b = true ∧ f7 (s.facts.drop k) T = A) ∨ (b = false ∧ A = false)
theorem zNW (s : Story) (o : Told s) : zLp prog 108 [s.enc] [] (.list ((r5 s).map (Truth.encR s.first))) [] := by
 have v := o.first
 have hct := v.count
 have hp0 := v.ne
 have hp3 := v.len
 have sO := zLa s.first (by have := v.len; omega) (fun l hl => by have := (v.rows l hl).len; omega) (by omega)
 have sL := zPJ (n := s.first.length) (q9 s.first) (by omega) (fun z hz => by have := mem_houses.1 hz; exact ⟨this.1, this.2.1⟩) (by omega)
 rw [zKK v] at sL
 have sG := zPG s o s.steps.length (Y8 s) (A6 v)
 have hG : l4 s s.steps.length (Y8 s) = B3 s := rfl
 rw [hG] at sG
 have hf : Truth.encR s.first (Y8 s) = .agg [.list [], .list (s.first.map y7), .list (zRu (q9 s.first) zRy)] := rfl
 rw [hf] at sG
 have hLl := zI5 o
 have h0 : ([] : List Truth) ++ ((B3 s).drop 0).filter (f7 s.facts) = r5 s := by rw [← zI4]; rfl
 have hTl : (r5 s).length ≤ 27 := by rw [← zI4]; exact Nat.le_trans (List.length_filter_le _ _) hLl
 have sA := fun t h hh => zOF s t h v hh
 have hok := zI6 v
 have hsrc : ∀ f, f ∈ s.facts → f.src ∈ q9 s.first := fun f hf => (o.fact f hf).1
 have hf4 := o.facts
 have h3 := o.steps
 have hsm : ∀ t, t ∈ B3 s → ∀ f, f ∈ s.facts → (t.now f.src).length ≤ 8 := fun t ht f hf => (hok t ht).small h3 (hsrc f hf)
 clear hG hf hok
 generalize r5 s = R at *
 generalize B3 s = L at *
 generalize hHd : q9 s.first = H at *
 refine q8 func108 rfl (fun E hE => ?_); simp only [go_sem, ntmps108]
 repeat' (first | (refine Qr rfl ?_; try intro _ hK; try simp only [go_sem, *]) | (refine Qi rfl rfl rfl rfl ?_ ?_ <;> (intro hb; (try intro _ hK); have hc := hb; try simp only [go_sem] at hc; simp only [go_sem, *])) | refine Qh rfl ?_ | refine Qd rfl (by kernel_rfl) ?_ | (refine Qc rfl rfl ?_ ?_ <;> (intro hb; have hc := hb; try simp only [go_sem] at hc)) | refine q6 rfl ?_ | (refine Qb ?_ ?_; focus kernel_rfl) | (refine zJQ (sO) ?_ ?_ ?_ ?_; (focus (simp only [go_sem, *]; done)); (focus (first | (simp; done) | (simp [go_sem]; done))); (focus (first | (simp; done) | (simp [go_sem]; done))); simp only [go_sem, *]) | (refine zD5 (sO) ?_ ?_; (focus (simp only [go_sem, *]; done)); simp only [go_sem, *]) | (refine o7 (sL) ?_ rfl ?_ ?_ ?_ ?_; (iterate 2 (focus (simp only [go_sem, *]; done))); (iterate 2 (focus (first | (simp; done) | (simp [go_sem]; done)))); simp only [go_sem, v6, *]) | ((with_reducible apply And.intro); focus omega) | (refine z8 hK ?_; clear hK; simp only [go_sem, *]) | simp only [z6, z7, go_sem, *])
 all_goals try contradiction
 refine u3 rfl (H.length) (fun i => NoP i) 86 (fun i => [(5, iV i), (4, Q3 H), (3, .ptr 1 0), (1, .ptr 0 0)]) (fun i => [zNG s, .box [zLz, .list (s.first.map y7), .own 2 1 0 i], .box (zRu (H.take i) zRy)]) [some 0, some 2, none] [3] (by trivial) ?_; intro i hi hP
 by_cases hi : i < H.length
 ·have hi3 : (i : Int) < H.length := by omega
  have e := Z8 (l := H) (i := i) hi
  have e1 : List.map House.enc (zRy (H.getD i default)) = [House.enc (H.getD i default)] := rfl
  repeat' (first | (refine Qr rfl ?_; try intro _ hK; try simp only [go_sem, *]) | (refine Qi rfl rfl rfl rfl ?_ ?_ <;> (intro hb; (try intro _ hK); have hc := hb; try simp only [go_sem] at hc; simp only [go_sem, *])) | refine Qh rfl ?_ | refine Qd rfl (by kernel_rfl) ?_ | (refine Qc rfl rfl ?_ ?_ <;> (intro hb; have hc := hb; try simp only [go_sem] at hc)) | refine q6 rfl ?_ | (with_reducible (show (∀ _ : AV, _ → _) ∧ _); refine And.intro ?_ ?_; (focus (intro y hy; first | (obtain ⟨z, _, rfl⟩ := List.mem_map.1 (hy); simp [go_sem]; done) | (obtain ⟨z, _, rfl⟩ := List.mem_map.1 (List.mem_of_mem_take hy); simp [go_sem]; done) | (obtain ⟨z, _, rfl⟩ := List.mem_map.1 (List.mem_of_mem_drop hy); simp [go_sem]; done) | (obtain ⟨z, _, rfl⟩ := List.mem_map.1 (List.mem_of_mem_drop (List.mem_of_mem_take hy)); simp [go_sem]; done)))) | (refine Qb ?_ ?_; focus kernel_rfl) | ((with_reducible apply And.intro); focus omega) | (refine z8 hK ?_; clear hK; simp only [go_sem, *]) | simp only [z6, z7, go_sem, *])
  all_goals try contradiction
  exact u2 (i' := i + 1) [some 0, some 1, some 5] [3] (by trivial)
 ·have hi3 : ¬ (i : Int) < H.length := by omega
  have e : H.take i = H := List.take_of_length_le (by omega)
  have e2 : i = H.length := by omega
  subst e2
  refine G9 (N := 86) (env := [(5, iV H.length), (4, Q3 H), (3, .ptr 1 0), (1, .ptr 0 0)]) (As := [zNG s, .box [zLz, .list (s.first.map y7), .list (zRu H zRy)]]) [some 0, some 1] [2] (by (simp only [Weak, go_sem, List.map_append, List.map_set, *] <;> (try simp (disch := omega) only [t8]) <;> (try simp) <;> (try omega))) ?_
  clear e
  repeat' (first | (refine Qr rfl ?_; try intro _ hK; try simp only [go_sem, *]) | (refine Qi rfl rfl rfl rfl ?_ ?_ <;> (intro hb; (try intro _ hK); have hc := hb; try simp only [go_sem] at hc; simp only [go_sem, *])) | refine Qh rfl ?_ | refine Qd rfl (by kernel_rfl) ?_ | (refine Qc rfl rfl ?_ ?_ <;> (intro hb; have hc := hb; try simp only [go_sem] at hc)) | refine q6 rfl ?_ | (refine Qb ?_ ?_; focus kernel_rfl) | (refine o7 (sG) ?_ rfl ?_ ?_ ?_ ?_; (iterate 2 (focus (simp only [go_sem, *]; done))); (iterate 2 (focus (first | (simp; done) | (simp [go_sem]; done)))); simp only [go_sem, v6, *]) | ((with_reducible apply And.intro); focus omega) | (refine z8 hK ?_; clear hK; simp only [go_sem, *]) | simp only [z6, z7, go_sem, *])
  all_goals try contradiction
  clear sO sL sG
  refine u4 rfl (L.length) (fun j (acc : List Truth) => acc ++ (L.drop j).filter (f7 s.facts) = R) 86 (fun j acc => [(8, iV j), (7, .list (L.map (Truth.encR s.first))), (6, .own 1 3 0 acc.length), (1, .ptr 0 0)]) (fun j acc => [zNG s, .row 3 (acc.map (Truth.encR s.first))]) [some 0, none] [] ([]) (by exact h0) ?_; intro j acc hj hQ
  clear h0
  have hql := congrArg List.length hQ
  simp only [List.length_append] at hql
  by_cases hj : j < L.length
  ·have hj3 : (j : Int) < L.length := by omega
   have hm := w8 hj
   have hsm1 := hsm _ hm
   have sA1 := fun h hh => sA (L.getD j default) h hh
   have hd : (L.drop j).filter (f7 s.facts) = if f7 s.facts (L.getD j default) = true then L.getD j default :: (L.drop (j + 1)).filter (f7 s.facts) else (L.drop (j + 1)).filter (f7 s.facts) := by
    rw [u0 hj, List.filter_cons]
   rw [hd] at hQ
   have hf0 : FaR s (L.getD j default) 0 true (f7 s.facts (L.getD j default)) := .inl ⟨rfl, rfl⟩
   clear hd sA hsm hm
   generalize f7 s.facts (L.getD j default) = A at *
   simp only [Truth.encR, hHd] at sA1
   repeat' (first | (refine Qr rfl ?_; try intro _ hK; try simp only [go_sem, *]) | (refine Qi rfl rfl rfl rfl ?_ ?_ <;> (intro hb; (try intro _ hK); have hc := hb; try simp only [go_sem] at hc; simp only [go_sem, *])) | refine Qh rfl ?_ | refine Qd rfl (by kernel_rfl) ?_ | (refine Qc rfl rfl ?_ ?_ <;> (intro hb; have hc := hb; try simp only [go_sem] at hc)) | refine q6 rfl ?_ | (refine Qb ?_ ?_; focus kernel_rfl) | ((with_reducible apply And.intro); focus omega) | (refine z8 hK ?_; clear hK; simp only [go_sem, *]) | simp only [z6, z7, go_sem, *])
   all_goals try contradiction
   refine u4 rfl (s.facts.length) (fun k (b : Bool) => FaR s (L.getD j default) k b A) 86 (fun k b => [(10, iV k), (9, bV b), (8, iV j), (7, .list (L.map (Truth.encR s.first))), (6, .own 1 3 0 acc.length), (1, .ptr 0 0)]) (fun k b => [zNG s, .row 3 (acc.map (Truth.encR s.first))]) [some 0, some 1] [] (true) (by exact hf0) ?_; intro k b hk hS
   clear hf0
   by_cases hk : k < s.facts.length
   ·have hk3 : (k : Int) < s.facts.length := by omega
    rcases hS with ⟨rfl, hA⟩ | ⟨rfl, hA⟩
    ·rw [zEl hk] at hA
     have hfm := w8 hk
     have sA2 := sA1 _ (hsrc _ hfm)
     have hsl := hsm1 _ hfm
     have sI := zNy ((L.getD j default).now (s.facts.getD k default).src) (s.facts.getD k default).dst (by omega)
     have hFa : FaR s (L.getD j default) (k + 1) (decide ((s.facts.getD k default).dst ∈ (L.getD j default).now (s.facts.getD k default).src)) A := by
      cases hd : decide ((s.facts.getD k default).dst ∈ (L.getD j default).now (s.facts.getD k default).src) with
      | true => rw [hd, Bool.true_and] at hA; exact .inl ⟨rfl, hA⟩
      | false => rw [hd, Bool.false_and] at hA; exact .inr ⟨rfl, hA.symm⟩
     clear hA sA1 hsm1 hfm hsrc
     generalize decide ((s.facts.getD k default).dst ∈ (L.getD j default).now (s.facts.getD k default).src) = b at *
     repeat' (first | (refine Qr rfl ?_; try intro _ hK; try simp only [go_sem, *]) | (refine Qi rfl rfl rfl rfl ?_ ?_ <;> (intro hb; (try intro _ hK); have hc := hb; try simp only [go_sem] at hc; simp only [go_sem, *])) | refine Qh rfl ?_ | refine Qd rfl (by kernel_rfl) ?_ | (refine Qc rfl rfl ?_ ?_ <;> (intro hb; have hc := hb; try simp only [go_sem] at hc)) | refine q6 rfl ?_ | (refine Qb ?_ ?_; focus kernel_rfl) | ((first | refine y4 (sA2) ?_ | refine y4 (sI) ?_); simp only [go_sem, *]) | ((with_reducible apply And.intro); focus omega) | (refine z8 hK ?_; clear hK; simp only [go_sem, *]) | simp only [z6, z7, go_sem, *])
     all_goals try contradiction
     exact w6 (i' := k + 1) [some 0, some 1] [] (b) (by exact hFa)
    ·have hFa : FaR s (L.getD j default) (k + 1) false A := .inr ⟨rfl, hA⟩
     clear hA sA1 hsm1 hsrc
     repeat' (first | (refine Qr rfl ?_; try intro _ hK; try simp only [go_sem, *]) | (refine Qi rfl rfl rfl rfl ?_ ?_ <;> (intro hb; (try intro _ hK); have hc := hb; try simp only [go_sem] at hc; simp only [go_sem, *])) | refine Qh rfl ?_ | refine Qd rfl (by kernel_rfl) ?_ | (refine Qc rfl rfl ?_ ?_ <;> (intro hb; have hc := hb; try simp only [go_sem] at hc)) | refine q6 rfl ?_ | (refine Qb ?_ ?_; focus kernel_rfl) | ((with_reducible apply And.intro); focus omega) | (refine z8 hK ?_; clear hK; simp only [go_sem, *]) | simp only [z6, z7, go_sem, *])
     all_goals try contradiction
     exact w6 (i' := k + 1) [some 0, some 1] [] (false) (by exact hFa)
   ·have hk3 : ¬ (k : Int) < s.facts.length := by omega
    have hbA : b = A := by
     rcases hS with ⟨rfl, hA⟩ | ⟨rfl, hA⟩
     ·rw [← hA, u7 (by omega)]; rfl
     ·exact hA.symm
    subst hbA
    clear hS sA1 hsm1 hsrc
    cases b with
    | true =>
     rw [if_pos rfl] at hQ
     repeat' (first | (refine Qr rfl ?_; try intro _ hK; try simp only [go_sem, *]) | (refine Qi rfl rfl rfl rfl ?_ ?_ <;> (intro hb; (try intro _ hK); have hc := hb; try simp only [go_sem] at hc; simp only [go_sem, *])) | refine Qh rfl ?_ | refine Qd rfl (by kernel_rfl) ?_ | (refine Qc rfl rfl ?_ ?_ <;> (intro hb; have hc := hb; try simp only [go_sem] at hc)) | refine q6 rfl ?_ | (with_reducible (show (∀ _ : AV, _ → _) ∧ _); refine And.intro ?_ ?_; (focus (intro y hy; first | (obtain ⟨z, _, rfl⟩ := List.mem_map.1 (hy); simp [go_sem]; done) | (obtain ⟨z, _, rfl⟩ := List.mem_map.1 (List.mem_of_mem_take hy); simp [go_sem]; done) | (obtain ⟨z, _, rfl⟩ := List.mem_map.1 (List.mem_of_mem_drop hy); simp [go_sem]; done) | (obtain ⟨z, _, rfl⟩ := List.mem_map.1 (List.mem_of_mem_drop (List.mem_of_mem_take hy)); simp [go_sem]; done)))) | (refine Qb ?_ ?_; focus kernel_rfl) | ((with_reducible apply And.intro); focus omega) | (refine z8 hK ?_; clear hK; simp only [go_sem, *]) | simp only [z6, z7, go_sem, *])
     all_goals try contradiction
     exact w6 (i' := j + 1) [some 0, some 3] [] (acc ++ [L.getD j default]) (by rw [← hQ]; simp)
    | false =>
     rw [if_neg (by decide)] at hQ
     repeat' (first | (refine Qr rfl ?_; try intro _ hK; try simp only [go_sem, *]) | (refine Qi rfl rfl rfl rfl ?_ ?_ <;> (intro hb; (try intro _ hK); have hc := hb; try simp only [go_sem] at hc; simp only [go_sem, *])) | refine Qh rfl ?_ | refine Qd rfl (by kernel_rfl) ?_ | (refine Qc rfl rfl ?_ ?_ <;> (intro hb; have hc := hb; try simp only [go_sem] at hc)) | refine q6 rfl ?_ | (refine Qb ?_ ?_; focus kernel_rfl) | ((with_reducible apply And.intro); focus omega) | (refine z8 hK ?_; clear hK; simp only [go_sem, *]) | simp only [z6, z7, go_sem, *])
     all_goals try contradiction
     exact w6 (i' := j + 1) [some 0, some 1] [] (acc) (by exact hQ)
  ·have hj3 : ¬ (j : Int) < L.length := by omega
   rw [u7 (by omega), List.filter_nil, List.append_nil] at hQ
   subst hQ
   clear sA hsm hsrc
   repeat' (first | (refine Qr rfl ?_; try intro _ hK; try simp only [go_sem, *]) | (refine Qi rfl rfl rfl rfl ?_ ?_ <;> (intro hb; (try intro _ hK); have hc := hb; try simp only [go_sem] at hc; simp only [go_sem, *])) | refine Qh rfl ?_ | refine Qd rfl (by kernel_rfl) ?_ | (refine Qc rfl rfl ?_ ?_ <;> (intro hb; have hc := hb; try simp only [go_sem] at hc)) | refine q6 rfl ?_ | (refine Qb ?_ ?_; focus kernel_rfl) | ((with_reducible apply And.intro); focus omega) | (refine z8 hK ?_; clear hK; simp only [go_sem, *]) | simp only [z6, z7, go_sem, *])
   all_goals try contradiction
   refine ⟨[.own 1 3 0 acc.length], [], [1], ⟨rfl, trivial⟩, ?_⟩
   simp only [go_sem, *]
end Go.Abs

namespace Go.Abs
open Go Go.Proofs Tryz
attribute [local irreducible] y6 Hold x8
def zOe : List Truth → List zLo → List zLo
 | [], acc => acc
 | t :: r, acc => zOe r (if t.fin ∈ acc then acc else acc ++ [t.fin])
def zRc (s : Story) : List zLo := if r9 s = 0 then zOe (r5 s) [] else []
def zRl (s : Story) : List (List Int) := if r9 s = 0 then C4 s else []
end Go.Abs

namespace Go.Abs
open Go Go.Proofs Tryz
attribute [local irreducible] y6 Hold x8
@[reducible] def zR6 (p : zLo) (t : Truth) : AObj := .box [.list (t.ways.map iV), .list (t.fin.map y7), .fmap (w5 p) (w4 p t.now)]
def zR3 : List zLo → zLo → Nat → Int
 | [], _, _ => -1
 | x :: r, q, i => if x = q then i else zR3 r q (i + 1)
theorem zO7 (s : Story) (h1 : s.first.length ≤ 4294967296) (h2 : ∀ l, l ∈ s.first → l.length ≤ 4294967296) (h3 : ∀ w, w ∈ s.steps → w.length ≤ 4294967296) (h4 : s.steps.length ≤ 4294967296) (h5 : s.facts.length ≤ 4294967296) : zLp prog 57 [s.enc, s.enc] [] (bV true) [] := by
 have sE := zHO s.first s.first h1 h2
 rw [decide_eq_true rfl] at sE
 have n1 : ((s.steps.length : Int) != (s.steps.length : Int)) = false := by simp
 have n2 : ((s.facts.length : Int) != (s.facts.length : Int)) = false := by simp
 refine q8 func57 rfl (fun E hE => ?_); simp only [go_sem, ntmps57]
 repeat' (first | (refine Qr rfl ?_; try intro _ hK; try simp only [go_sem, *]) | (refine Qi rfl rfl rfl rfl ?_ ?_ <;> (intro hb; (try intro _ hK); have hc := hb; try simp only [go_sem] at hc; simp only [go_sem, *])) | refine Qh rfl ?_ | refine Qd rfl (by kernel_rfl) ?_ | (refine Qc rfl rfl ?_ ?_ <;> (intro hb; have hc := hb; try simp only [go_sem] at hc)) | refine q6 rfl ?_ | (refine Qb ?_ ?_; focus kernel_rfl) | (refine y4 (sE) ?_; simp only [go_sem, *]) | ((with_reducible apply And.intro); focus omega) | (refine z8 hK ?_; clear hK; simp only [go_sem, *]) | simp only [z6, z7, go_sem, *])
 all_goals try contradiction
 clear sE
 refine u3 rfl (s.steps.length) (fun i => NoP i) 70 (fun i => [(5, iV i), (3, .ptr 1 0), (2, .ptr 0 0)]) (fun i => [zNG s, zNG s]) [some 0, some 1] [] (by trivial) ?_; intro i hi hP
 by_cases hi : i < s.steps.length
 ·have hi3 : (i : Int) < s.steps.length := by omega
  have sC := zHK (s.steps.getD i default) (s.steps.getD i default) (h3 _ (w8 hi))
  rw [decide_eq_true rfl] at sC
  repeat' (first | (refine Qr rfl ?_; try intro _ hK; try simp only [go_sem, *]) | (refine Qi rfl rfl rfl rfl ?_ ?_ <;> (intro hb; (try intro _ hK); have hc := hb; try simp only [go_sem] at hc; simp only [go_sem, *])) | refine Qh rfl ?_ | refine Qd rfl (by kernel_rfl) ?_ | (refine Qc rfl rfl ?_ ?_ <;> (intro hb; have hc := hb; try simp only [go_sem] at hc)) | refine q6 rfl ?_ | (refine Qb ?_ ?_; focus kernel_rfl) | (refine y4 (sC) ?_; simp only [go_sem, *]) | ((with_reducible apply And.intro); focus omega) | (refine z8 hK ?_; clear hK; simp only [go_sem, *]) | simp only [z6, z7, go_sem, *])
  all_goals try contradiction
  exact u2 (i' := i + 1) [some 0, some 1] [] (by trivial)
 ·have hi3 : ¬ (i : Int) < s.steps.length := by omega
  repeat' (first | (refine Qr rfl ?_; try intro _ hK; try simp only [go_sem, *]) | (refine Qi rfl rfl rfl rfl ?_ ?_ <;> (intro hb; (try intro _ hK); have hc := hb; try simp only [go_sem] at hc; simp only [go_sem, *])) | refine Qh rfl ?_ | refine Qd rfl (by kernel_rfl) ?_ | (refine Qc rfl rfl ?_ ?_ <;> (intro hb; have hc := hb; try simp only [go_sem] at hc)) | refine q6 rfl ?_ | (refine Qb ?_ ?_; focus kernel_rfl) | ((with_reducible apply And.intro); focus omega) | (refine z8 hK ?_; clear hK; simp only [go_sem, *]) | simp only [z6, z7, go_sem, *])
  all_goals try contradiction
  refine u3 rfl (s.facts.length) (fun k => NoP k) 70 (fun k => [(6, iV k), (3, .ptr 1 0), (2, .ptr 0 0)]) (fun k => [zNG s, zNG s]) [some 0, some 1] [] (by trivial) ?_; intro k hk hQ
  by_cases hk : k < s.facts.length
  ·have hk3 : (k : Int) < s.facts.length := by omega
   repeat' (first | (refine Qr rfl ?_; try intro _ hK; try simp only [go_sem, *]) | (refine Qi rfl rfl rfl rfl ?_ ?_ <;> (intro hb; (try intro _ hK); have hc := hb; try simp only [go_sem] at hc; simp only [go_sem, *])) | refine Qh rfl ?_ | refine Qd rfl (by kernel_rfl) ?_ | (refine Qc rfl rfl ?_ ?_ <;> (intro hb; have hc := hb; try simp only [go_sem] at hc)) | refine q6 rfl ?_ | (refine Qb ?_ ?_; focus kernel_rfl) | ((with_reducible apply And.intro); focus omega) | (refine z8 hK ?_; clear hK; simp only [go_sem, *]) | simp only [z6, z7, go_sem, *])
   all_goals try contradiction
   exact u2 (i' := k + 1) [some 0, some 1] [] (by trivial)
  ·have hk3 : ¬ (k : Int) < s.facts.length := by omega
   repeat' (first | (refine Qr rfl ?_; try intro _ hK; try simp only [go_sem, *]) | (refine Qi rfl rfl rfl rfl ?_ ?_ <;> (intro hb; (try intro _ hK); have hc := hb; try simp only [go_sem] at hc; simp only [go_sem, *])) | refine Qh rfl ?_ | refine Qd rfl (by kernel_rfl) ?_ | (refine Qc rfl rfl ?_ ?_ <;> (intro hb; have hc := hb; try simp only [go_sem] at hc)) | refine q6 rfl ?_ | (refine Qb ?_ ?_; focus kernel_rfl) | ((with_reducible apply And.intro); focus omega) | (refine z8 hK ?_; clear hK; simp only [go_sem, *]) | simp only [z6, z7, go_sem, *])
   all_goals try contradiction
   (refine ⟨[_], [], [], ⟨rfl, trivial⟩, ?_⟩; simp only [go_sem, *])
end Go.Abs

namespace Go.Abs
open Go Go.Proofs Tryz
attribute [local irreducible] y6 Hold x8
theorem zO6 (s : Story) (h1 : s.first.length ≤ 1048576) (h2 : ∀ l, l ∈ s.first → l.length ≤ 1048576) (h3 : ∀ w, w ∈ s.steps → w.length ≤ 1048576) (h4 : s.steps.length ≤ 1048576) (h5 : s.facts.length ≤ 1048576) : zLp prog 52 [s.enc] [] s.enc [] := by
 have sU := zQc s.first h1 h2
 refine q8 func52 rfl (fun E hE => ?_); simp only [go_sem, ntmps52]
 repeat' (first | (refine Qr rfl ?_; try intro _ hK; try simp only [go_sem, *]) | refine Qh rfl ?_ | refine Qd rfl (by kernel_rfl) ?_ | (refine Qc rfl rfl ?_ ?_ <;> (intro hb; have hc := hb; try simp only [go_sem] at hc)) | refine q6 rfl ?_ | (with_reducible (show (∀ _ : AV, _ → _) ∧ _); refine And.intro ?_ ?_; (focus (intro y hy; first | (obtain ⟨z, _, rfl⟩ := List.mem_map.1 (hy); simp [go_sem]; done) | (obtain ⟨z, _, rfl⟩ := List.mem_map.1 (List.mem_of_mem_take hy); simp [go_sem]; done) | (obtain ⟨z, _, rfl⟩ := List.mem_map.1 (List.mem_of_mem_drop hy); simp [go_sem]; done) | (obtain ⟨z, _, rfl⟩ := List.mem_map.1 (List.mem_of_mem_drop (List.mem_of_mem_take hy)); simp [go_sem]; done)))) | (refine Qb ?_ ?_; focus kernel_rfl) | (refine y4 (sU) ?_; simp only [go_sem, *]) | ((with_reducible apply And.intro); focus omega) | (refine z8 hK ?_; clear hK; simp only [go_sem, *]) | simp only [z6, z7, go_sem, *])
 all_goals try contradiction
 clear sU
 refine u3 rfl (s.steps.length) (fun i => NoP i) 35 (fun i => [(4, iV i), (3, .ptr 2 0), (2, .ptr 1 0), (1, .ptr 0 0)]) (fun i => [zNG s, .box [zLz, zLz, zLz], .box [.list (s.first.map y7), .own 3 1 0 i, .list (s.facts.map Fact.enc)], .row 1 ((s.steps.take i).map i9)]) [some 0, some 1, some 4, none] [3] (by trivial) ?_; intro i hi hP
 by_cases hi : i < s.steps.length
 ·have hi3 : (i : Int) < s.steps.length := by omega
  have hw := h3 _ (w8 hi)
  have e := Z8 (l := s.steps) (i := i) hi
  repeat' (first | (refine Qr rfl ?_; try intro _ hK; try simp only [go_sem, *]) | refine Qh rfl ?_ | refine Qd rfl (by kernel_rfl) ?_ | (refine Qc rfl rfl ?_ ?_ <;> (intro hb; have hc := hb; try simp only [go_sem] at hc)) | refine q6 rfl ?_ | (with_reducible (show (∀ _ : AV, _ → _) ∧ _); refine And.intro ?_ ?_; (focus (intro y hy; first | (obtain ⟨z, _, rfl⟩ := List.mem_map.1 (hy); simp [go_sem]; done) | (obtain ⟨z, _, rfl⟩ := List.mem_map.1 (List.mem_of_mem_take hy); simp [go_sem]; done) | (obtain ⟨z, _, rfl⟩ := List.mem_map.1 (List.mem_of_mem_drop hy); simp [go_sem]; done) | (obtain ⟨z, _, rfl⟩ := List.mem_map.1 (List.mem_of_mem_drop (List.mem_of_mem_take hy)); simp [go_sem]; done)))) | (refine Qb ?_ ?_; focus kernel_rfl) | ((with_reducible apply And.intro); focus omega) | (refine z8 hK ?_; clear hK; simp only [go_sem, *]) | simp only [z6, z7, go_sem, *])
  all_goals try contradiction
  exact u2 (i' := i + 1) [some 0, some 1, some 2, some 7] [] (by trivial)
 ·have hi3 : ¬ (i : Int) < s.steps.length := by omega
  have e : s.steps.take i = s.steps := List.take_of_length_le (by omega)
  repeat' (first | (refine Qr rfl ?_; try intro _ hK; try simp only [go_sem, *]) | refine Qh rfl ?_ | refine Qd rfl (by kernel_rfl) ?_ | (refine Qc rfl rfl ?_ ?_ <;> (intro hb; have hc := hb; try simp only [go_sem] at hc)) | refine q6 rfl ?_ | (refine Qb ?_ ?_; focus kernel_rfl) | ((with_reducible apply And.intro); focus omega) | (refine z8 hK ?_; clear hK; simp only [go_sem, *]) | simp only [z6, z7, go_sem, *])
  all_goals try contradiction
  refine ⟨[.agg [.list (s.first.map y7), .own 3 1 0 i, .list (s.facts.map Fact.enc)]], [], [3], ⟨by simp only [u1, go_sem], trivial⟩, ?_⟩
  simp only [go_sem, *]
  exact (List.take_of_length_le (by simp; omega)).symm
def zNM (s : Story) : Bool := zNR s.first || (decide (20 < s.steps.length) || (decide (20 < s.facts.length) || s.steps.any fun w => decide (20 < w.length)))
theorem zPI (s : Story) (h1 : s.first.length ≤ 4294967296) (b : Bool) (hb : zNM s = b) : zLp prog 51 [s.enc] [] (bV b) [] := by
 have sW := zQ3 s.first h1 (zNR s.first) rfl
 unfold zNM at hb
 cases hw : zNR s.first with
 | true =>
  rw [hw] at sW hb
  rw [Bool.true_or] at hb
  subst hb
  refine q8 func51 rfl (fun E hE => ?_); simp only [go_sem, ntmps51]
  repeat' (first | (refine Qr rfl ?_; try intro _ hK; try simp only [go_sem, *]) | (refine Qi rfl rfl rfl rfl ?_ ?_ <;> (intro hb; (try intro _ hK); have hc := hb; try simp only [go_sem] at hc; simp only [go_sem, *])) | refine Qh rfl ?_ | (refine Qc rfl rfl ?_ ?_ <;> (intro hb; have hc := hb; try simp only [go_sem] at hc)) | refine q6 rfl ?_ | (refine y4 (sW) ?_; simp only [go_sem, *]) | ((with_reducible apply And.intro); focus omega) | (refine z8 hK ?_; clear hK; simp only [go_sem, *]) | simp only [z6, z7, go_sem, *])
  all_goals try contradiction
  (refine ⟨[_], [], [], ⟨rfl, trivial⟩, ?_⟩; simp only [go_sem, *])
 | false =>
  rw [hw] at sW hb
  rw [Bool.false_or] at hb
  by_cases q1 : 20 < s.steps.length
  ·have q1' : (s.steps.length : Int) > 20 := by omega
   rw [decide_eq_true q1, Bool.true_or] at hb
   subst hb
   refine q8 func51 rfl (fun E hE => ?_); simp only [go_sem, ntmps51]
   repeat' (first | (refine Qr rfl ?_; try intro _ hK; try simp only [go_sem, *]) | (refine Qi rfl rfl rfl rfl ?_ ?_ <;> (intro hb; (try intro _ hK); have hc := hb; try simp only [go_sem] at hc; simp only [go_sem, *])) | refine Qh rfl ?_ | (refine Qc rfl rfl ?_ ?_ <;> (intro hb; have hc := hb; try simp only [go_sem] at hc)) | refine q6 rfl ?_ | (refine y4 (sW) ?_; simp only [go_sem, *]) | ((with_reducible apply And.intro); focus omega) | (refine z8 hK ?_; clear hK; simp only [go_sem, *]) | simp only [z6, z7, go_sem, *])
   all_goals try contradiction
   (refine ⟨[_], [], [], ⟨rfl, trivial⟩, ?_⟩; simp only [go_sem, *])
  ·have q1' : ¬ (s.steps.length : Int) > 20 := by omega
   rw [decide_eq_false q1, Bool.false_or] at hb
   by_cases q2 : 20 < s.facts.length
   ·have q2' : (s.facts.length : Int) > 20 := by omega
    rw [decide_eq_true q2, Bool.true_or] at hb
    subst hb
    refine q8 func51 rfl (fun E hE => ?_); simp only [go_sem, ntmps51]
    repeat' (first | (refine Qr rfl ?_; try intro _ hK; try simp only [go_sem, *]) | (refine Qi rfl rfl rfl rfl ?_ ?_ <;> (intro hb; (try intro _ hK); have hc := hb; try simp only [go_sem] at hc; simp only [go_sem, *])) | refine Qh rfl ?_ | (refine Qc rfl rfl ?_ ?_ <;> (intro hb; have hc := hb; try simp only [go_sem] at hc)) | refine q6 rfl ?_ | (refine y4 (sW) ?_; simp only [go_sem, *]) | ((with_reducible apply And.intro); focus omega) | (refine z8 hK ?_; clear hK; simp only [go_sem, *]) | simp only [z6, z7, go_sem, *])
    all_goals try contradiction
    (refine ⟨[_], [], [], ⟨rfl, trivial⟩, ?_⟩; simp only [go_sem, *])
   ·have q2' : ¬ (s.facts.length : Int) > 20 := by omega
    rw [decide_eq_false q2, Bool.false_or] at hb
    have h0 : ((s.steps.drop 0).any fun w => decide (20 < w.length)) = b := hb
    clear hb q1 q2 hw
    refine q8 func51 rfl (fun E hE => ?_); simp only [go_sem, ntmps51]
    repeat' (first | (refine Qr rfl ?_; try intro _ hK; try simp only [go_sem, *]) | (refine Qi rfl rfl rfl rfl ?_ ?_ <;> (intro hb; (try intro _ hK); have hc := hb; try simp only [go_sem] at hc; simp only [go_sem, *])) | refine Qh rfl ?_ | (refine Qc rfl rfl ?_ ?_ <;> (intro hb; have hc := hb; try simp only [go_sem] at hc)) | refine q6 rfl ?_ | (refine y4 (sW) ?_; simp only [go_sem, *]) | ((with_reducible apply And.intro); focus omega) | (refine z8 hK ?_; clear hK; simp only [go_sem, *]) | simp only [z6, z7, go_sem, *])
    all_goals try contradiction
    refine u3 rfl (s.steps.length) (fun i => ((s.steps.drop i).any fun w => decide (20 < w.length)) = b) 34 (fun i => [(3, iV i), (1, .ptr 0 0)]) (fun i => [zNG s]) [some 0] [] (by exact h0) ?_; intro i hi hP
    clear h0
    by_cases hi : i < s.steps.length
    ·have hi3 : (i : Int) < s.steps.length := by omega
     rw [u0 hi, List.any_cons] at hP
     by_cases q : 20 < (s.steps.getD i default).length
     ·have q' : ((s.steps.getD i default).length : Int) > 20 := by omega
      rw [decide_eq_true q, Bool.true_or] at hP
      subst hP
      clear q
      repeat' (first | (refine Qr rfl ?_; try intro _ hK; try simp only [go_sem, *]) | (refine Qi rfl rfl rfl rfl ?_ ?_ <;> (intro hb; (try intro _ hK); have hc := hb; try simp only [go_sem] at hc; simp only [go_sem, *])) | refine Qh rfl ?_ | (refine Qc rfl rfl ?_ ?_ <;> (intro hb; have hc := hb; try simp only [go_sem] at hc)) | refine q6 rfl ?_ | ((with_reducible apply And.intro); focus omega) | (refine z8 hK ?_; clear hK; simp only [go_sem, *]) | simp only [z6, z7, go_sem, *])
      all_goals try contradiction
      (refine ⟨[_], [], [], ⟨rfl, trivial⟩, ?_⟩; simp only [go_sem, *])
     ·have q' : ¬ ((s.steps.getD i default).length : Int) > 20 := by omega
      rw [decide_eq_false q, Bool.false_or] at hP
      clear q
      repeat' (first | (refine Qr rfl ?_; try intro _ hK; try simp only [go_sem, *]) | (refine Qi rfl rfl rfl rfl ?_ ?_ <;> (intro hb; (try intro _ hK); have hc := hb; try simp only [go_sem] at hc; simp only [go_sem, *])) | refine Qh rfl ?_ | (refine Qc rfl rfl ?_ ?_ <;> (intro hb; have hc := hb; try simp only [go_sem] at hc)) | refine q6 rfl ?_ | ((with_reducible apply And.intro); focus omega) | (refine z8 hK ?_; clear hK; simp only [go_sem, *]) | simp only [z6, z7, go_sem, *])
      all_goals try contradiction
      exact u2 (i' := i + 1) [some 0] [] (by exact hP)
    ·have hi3 : ¬ (i : Int) < s.steps.length := by omega
     rw [u7 (by omega), List.any_nil] at hP
     subst hP
     repeat' (first | (refine Qr rfl ?_; try intro _ hK; try simp only [go_sem, *]) | (refine Qi rfl rfl rfl rfl ?_ ?_ <;> (intro hb; (try intro _ hK); have hc := hb; try simp only [go_sem] at hc; simp only [go_sem, *])) | refine Qh rfl ?_ | (refine Qc rfl rfl ?_ ?_ <;> (intro hb; have hc := hb; try simp only [go_sem] at hc)) | refine q6 rfl ?_ | ((with_reducible apply And.intro); focus omega) | (refine z8 hK ?_; clear hK; simp only [go_sem, *]) | simp only [z6, z7, go_sem, *])
     all_goals try contradiction
     (refine ⟨[_], [], [], ⟨rfl, trivial⟩, ?_⟩; simp only [go_sem, *])
theorem zOM {s : Story} (o : Told s) : Bound 1048576 s := by
 have v := o.first
 have hp : PlanB 1048576 s.first := ⟨by have := v.len; omega, fun l hl => by have := (v.rows l hl).len; omega, fun l hl x hx => by
  have := (o3 x).1 ((v.rows l hl).ok x hx)
  exact ⟨C5 (by omega) (by omega), C5 (by omega) (by omega)⟩⟩
 refine ⟨hp, by have := o.steps; omega, fun w hw => by have := (o.ways w hw).2.1; omega, by have := o.facts; omega, fun f hf => ?_⟩
 obtain ⟨h1, h2, h3⟩ := o.fact f hf
 have h4 := betw_iff.1 h2
 have h5 := v.len
 have h6 := (o3 _).1 h3
 exact ⟨v.wf _ h1, C5 (by omega) (by omega), C5 (by omega) (by omega), C5 (by omega) (by omega)⟩
end Go.Abs

namespace Go.Abs
open Go Go.Proofs Tryz
attribute [local irreducible] y6 Hold x8
@[reducible] def zRt (hs : List House) (f : House → List House) : List AV := hs.map fun h => Q3 (f h)
@[go_sem, simp] theorem zRS (H : Nat → AObj) (m : List (Option Nat)) (ex : List Nat) (l : List House) (f : House → List House) : XpL H m ex (List.map (fun h => AV.list (List.map House.enc (f h))) l) (List.map (fun h => AV.list (List.map House.enc (f h))) l) ↔ True := ⟨fun _ => trivial, fun _ => zBA (fun x => by simp only [XpF]) _⟩
@[go_sem, simp] theorem zPS {α : Type} (H : Nat → AObj) (m : List (Option Nat)) (ex : List Nat) (f : α → List AV) (l : List α) (x y : AV) : XpL H m ex (List.map (fun t => AV.list (f t)) l ++ [x]) (List.map (fun t => AV.list (f t)) l ++ [y]) ↔ XpF H m ex x y := by
 rw [L0 _ (fun z hz => by
  obtain ⟨t, _, rfl⟩ := List.mem_map.1 hz
  simp only [XpF])]
@[go_sem, simp] theorem zRY {α : Type} (H : Nat → AObj) (m : List (Option Nat)) (ex : List Nat) (f : α → List AV) (l : List α) : XpL H m ex (List.map (fun t => AV.list (f t)) l) (List.map (fun t => AV.list (f t)) l) ↔ True := ⟨fun _ => trivial, fun _ => zBA (fun x => by simp only [XpF]) _⟩
end Go.Abs

namespace Go.Abs
open Go Go.Proofs Tryz
attribute [local irreducible] y6 Hold x8
def zNS (x y : Truth) (hs : List House) (i : Nat) : Prop := ∀ h, h ∈ hs.take i → x.now h = y.now h
theorem zOq {x y : Truth} {hs : List House} {i : Nat} (hi : i < hs.length) (h : decide (x.now (hs.getD i default) = y.now (hs.getD i default)) = false) : zNC x y hs = false := by
 unfold zNC
 rw [List.all_eq_false]
 exact ⟨_, w8 hi, by simpa using of_decide_eq_false h⟩
theorem zOo {x y : Truth} {hs : List House} {i : Nat} (hi : hs.length ≤ i) (h : zNS x y hs i) : zNC x y hs = true := by
 unfold zNC
 rw [List.all_eq_true]
 intro z hz
 rw [zNS, List.take_of_length_le hi] at h
 simpa using h z hz
theorem zOp {x y : Truth} {hs : List House} {i : Nat} (hi : i < hs.length) (h : zNS x y hs i) (h2 : decide (x.now (hs.getD i default) = y.now (hs.getD i default)) = true) : zNS x y hs (i + 1) := by
 intro z hz
 rw [Z8 hi] at hz
 rcases List.mem_append.1 hz with hz | hz
 ·exact h z hz
 ·rw [List.mem_singleton.1 hz]; simpa using h2
theorem zPH (p : zLo) (x y : Truth) (hs : List House) (v : Valid p) (hh : ∀ h, h ∈ hs → h ∈ q9 p) (hl : hs.length ≤ 1000) (hx : ∀ h, h ∈ q9 p → (x.now h).length ≤ 1000) :
  zLp prog 168 [x.enc p, y.enc p, .list (hs.map House.enc)] [] (bV (zNC x y hs)) [] := by
 have hw := v.wf
 have hF := fun i => zOq (x := x) (y := y) (hs := hs) (i := i)
 have hT := fun i => zOo (x := x) (y := y) (hs := hs) (i := i)
 generalize zNC x y hs = L at *
 refine q8 func168 rfl (fun E hE => ?_); simp only [go_sem, ntmps168]
 repeat' (first | (refine Qr rfl ?_; try intro _ hK; try simp only [go_sem, *]) | refine Qh rfl ?_ | refine Qd rfl (by kernel_rfl) ?_ | (refine Qc rfl rfl ?_ ?_ <;> (intro hb; have hc := hb; try simp only [go_sem] at hc)) | refine q6 rfl ?_ | (refine Qb ?_ ?_; focus kernel_rfl) | ((with_reducible apply And.intro); focus omega) | (refine z8 hK ?_; clear hK; simp only [go_sem, *]) | simp only [z6, z7, go_sem, *])
 refine u3 rfl (hs.length) (fun i => zNS x y hs i) 26 (fun i => [(11, iV i), (10, iV hs.length), (9, .list (hs.map House.enc)), (4, .ptr 1 0), (3, .ptr 0 0)]) (fun i => [.box [.list (x.ways.map iV), .list (x.fin.map y7), .fmap (w5 p) (w4 p x.now)], .box [.list (y.ways.map iV), .list (y.fin.map y7), .fmap (w5 p) (w4 p y.now)]]) [some 0, some 1] [] (by intro h hq; cases hq) ?_; intro i hi hP
 by_cases hi : i < hs.length
 ·have hi3 : (i : Int) < hs.length := by omega
  have hm := hh _ (w8 hi)
  have hwf := hw _ hm
  have hxl := hx _ hm
  have sc := zHQ (x.now (hs.getD i default)) (y.now (hs.getD i default)) (by omega)
  have hF1 := hF i hi
  have hN := zOp hi hP
  clear hF hT
  repeat' (first | (refine Qr rfl ?_; try intro _ hK; try simp only [go_sem, *]) | refine Qh rfl ?_ | refine Qd rfl (by kernel_rfl) ?_ | (refine Qc rfl rfl ?_ ?_ <;> (intro hb; have hc := hb; try simp only [go_sem] at hc)) | refine q6 rfl ?_ | (refine Qb ?_ ?_; focus kernel_rfl) | ((with_reducible apply And.intro); focus omega) | (refine z8 hK ?_; clear hK; simp only [go_sem, *]) | simp only [z6, z7, go_sem, *])
  refine V7 (h := hs.getD i default) (hs := q9 p) (F := zLs x.now) hw hwf ?_
  rw [if_pos hm, zLs]
  repeat' (first | (refine Qr rfl ?_; try intro _ hK; try simp only [go_sem, *]) | refine Qh rfl ?_ | refine Qd rfl (by kernel_rfl) ?_ | (refine Qc rfl rfl ?_ ?_ <;> (intro hb; have hc := hb; try simp only [go_sem] at hc)) | refine q6 rfl ?_ | (refine Qb ?_ ?_; focus kernel_rfl) | ((with_reducible apply And.intro); focus omega) | (refine z8 hK ?_; clear hK; simp only [go_sem, *]) | simp only [z6, z7, go_sem, *])
  refine V7 (h := hs.getD i default) (hs := q9 p) (F := zLs y.now) hw hwf ?_
  rw [if_pos hm, zLs]
  generalize decide (x.now (hs.getD i default) = y.now (hs.getD i default)) = D at *
  cases D with
  | true =>
   have hN2 := hN rfl
   clear hF1 hN
   repeat' (first | (refine Qr rfl ?_; try intro _ hK; try simp only [go_sem, *]) | refine Qh rfl ?_ | refine Qd rfl (by kernel_rfl) ?_ | (refine Qc rfl rfl ?_ ?_ <;> (intro hb; have hc := hb; try simp only [go_sem] at hc)) | refine q6 rfl ?_ | (refine Qb ?_ ?_; focus kernel_rfl) | (refine y4 (sc) ?_; simp only [go_sem, *]) | ((with_reducible apply And.intro); focus omega) | (refine z8 hK ?_; clear hK; simp only [go_sem, *]) | simp only [z6, z7, go_sem, *])
   all_goals try contradiction
   exact u2 (i' := i + 1) [some 0, some 1] [] (by exact hN2)
  | false =>
   have hL := hF1 rfl
   clear hF1 hN
   subst hL
   repeat' (first | (refine Qr rfl ?_; try intro _ hK; try simp only [go_sem, *]) | refine Qh rfl ?_ | refine Qd rfl (by kernel_rfl) ?_ | (refine Qc rfl rfl ?_ ?_ <;> (intro hb; have hc := hb; try simp only [go_sem] at hc)) | refine q6 rfl ?_ | (refine Qb ?_ ?_; focus kernel_rfl) | (refine y4 (sc) ?_; simp only [go_sem, *]) | ((with_reducible apply And.intro); focus omega) | (refine z8 hK ?_; clear hK; simp only [go_sem, *]) | simp only [z6, z7, go_sem, *])
   all_goals try contradiction
   (refine ⟨[_], [], [], ⟨rfl, trivial⟩, ?_⟩; simp only [go_sem, *])
 ·have hi3 : ¬ (i : Int) < hs.length := by omega
  have hL := hT i (by omega) hP
  clear hF hT
  subst hL
  repeat' (first | (refine Qr rfl ?_; try intro _ hK; try simp only [go_sem, *]) | refine Qh rfl ?_ | refine Qd rfl (by kernel_rfl) ?_ | (refine Qc rfl rfl ?_ ?_ <;> (intro hb; have hc := hb; try simp only [go_sem] at hc)) | refine q6 rfl ?_ | (refine Qb ?_ ?_; focus kernel_rfl) | ((with_reducible apply And.intro); focus omega) | (refine z8 hK ?_; clear hK; simp only [go_sem, *]) | simp only [z6, z7, go_sem, *])
  all_goals try contradiction
  (refine ⟨[_], [], [], ⟨rfl, trivial⟩, ?_⟩; simp only [go_sem, *])
def zNL (l : List Truth) (hs pre : List House) (i j : Nat) : Prop := (∀ a, a < i → ∀ b, b < a → okT l hs pre a b = true) ∧ ∀ b, b < j → okT l hs pre i b = true
theorem zO1 {l : List Truth} {hs pre : List House} {i j : Nat} (hi : i < l.length) (hj : j < i) (h : okT l hs pre i j = false) : zNA l hs pre = false := by
 cases e : zNA l hs pre with
 | false => rfl
 | true =>
  have := settlesT_iff.1 e i hi j hj
  rw [h] at this; cases this
theorem zOy {l : List Truth} {hs pre : List House} {i : Nat} (hi : l.length ≤ i) (h : zNL l hs pre i 0) : zNA l hs pre = true := by
 rw [settlesT_iff]
 exact fun a ha b hb => h.1 a (by omega) b hb
theorem zOz {l : List Truth} {hs pre : List House} {i : Nat} (h : zNL l hs pre i i) : zNL l hs pre (i + 1) 0 := by
 refine ⟨fun a ha b hb => ?_, fun b hb => by omega⟩
 rcases Nat.lt_or_ge a i with h1 | h1
 ·exact h.1 a h1 b hb
 ·have : a = i := by omega
  subst this
  exact h.2 b hb
theorem zO0 {l : List Truth} {hs pre : List House} {i j : Nat} (h : zNL l hs pre i j) (h2 : okT l hs pre i j = true) : zNL l hs pre i (j + 1) := by
 refine ⟨h.1, fun b hb => ?_⟩
 rcases Nat.lt_or_ge b j with h1 | h1
 ·exact h.2 b h1
 ·have : b = j := by omega
  subst this
  exact h2
theorem zO2 (l : List Truth) (hs pre : List House) : zNL l hs pre 0 0 := ⟨fun a ha => by omega, fun b hb => by omega⟩
theorem zQ1 (s : Story) (o : Told s) (l : List Truth) (pre : List House) (hh : ∀ h, h ∈ pre → h ∈ q9 s.first) (hl : pre.length ≤ 1000) (hlt : l.length ≤ 1000) (hx : ∀ t, t ∈ l → ∀ h, h ∈ q9 s.first → (t.now h).length ≤ 1000) :
  zLp prog 148 [.ptr 0 0, .list (l.map (Truth.enc s.first)), .list (pre.map House.enc)] [l0 s] (bV (zNA l (q9 s.first) pre)) [l0 s] := by
 have v := o.first
 have hct := v.count
 have h0 := zO2 l (q9 s.first) pre
 have hF := fun i j => zO1 (l := l) (hs := q9 s.first) (pre := pre) (i := i) (j := j)
 have hT := fun i => zOy (l := l) (hs := q9 s.first) (pre := pre) (i := i)
 have sL := fun (x y : Truth) (hx) => zPH s.first x y pre v hh hl hx
 have sA := fun (x y : Truth) (hx) => zPH s.first x y (q9 s.first) v (fun _ h => h) (by omega) hx
 generalize zNA l (q9 s.first) pre = S at *
 have hca : p9 prog 168 = true := by kernel_rfl
 refine q8 func148 rfl (fun E hE => ?_); simp only [go_sem, ntmps148]
 repeat' (first | (refine Qr rfl ?_; try intro _ hK; try simp only [go_sem, *]) | (refine Qi rfl rfl rfl rfl ?_ ?_ <;> (intro hb; (try intro _ hK); have hc := hb; try simp only [go_sem] at hc; simp only [go_sem, *])) | refine Qh rfl ?_ | refine Qd rfl (by kernel_rfl) ?_ | (refine Qc rfl rfl ?_ ?_ <;> (intro hb; have hc := hb; try simp only [go_sem] at hc)) | refine q6 rfl ?_ | (refine Qb ?_ ?_; focus kernel_rfl) | ((with_reducible apply And.intro); focus omega) | (refine z8 hK ?_; clear hK; simp only [go_sem, *]) | simp only [z6, z7, go_sem, *])
 refine u3 rfl (l.length) (fun i => zNL l (q9 s.first) pre i 0) 45 (fun i => [(14, iV i), (13, iV l.length), (12, .list (l.map (Truth.enc s.first))), (7, fnV 168), (2, .list (pre.map House.enc)), (1, .list (l.map (Truth.enc s.first))), (0, .ptr 0 0)]) (fun i => [l0 s]) [some 0] [] (by exact h0) ?_; intro i hi hP
 clear h0
 by_cases hi : i < l.length
 ·have hi3 : (i : Int) < l.length := by omega
  have hF1 := fun j => hF i j hi
  have sL1 := fun y => sL (l.getD i default) y (hx _ (w8 hi))
  have sA1 := fun y => sA (l.getD i default) y (hx _ (w8 hi))
  clear hF hT sL sA
  have hez : l.take (i - 0) = l.take i := by rw [Nat.sub_zero]
  repeat' (first | (refine Qr rfl ?_; try intro _ hK; try simp only [go_sem, *]) | (refine Qi rfl rfl rfl rfl ?_ ?_ <;> (intro hb; (try intro _ hK); have hc := hb; try simp only [go_sem] at hc; simp only [go_sem, *])) | refine Qh rfl ?_ | refine Qd rfl (by kernel_rfl) ?_ | (refine Qc rfl rfl ?_ ?_ <;> (intro hb; have hc := hb; try simp only [go_sem] at hc)) | refine q6 rfl ?_ | (with_reducible (show (∀ _ : AV, _ → _) ∧ _); refine And.intro ?_ ?_; (focus (intro y hy; first | (obtain ⟨z, _, rfl⟩ := List.mem_map.1 (hy); simp [go_sem]; done) | (obtain ⟨z, _, rfl⟩ := List.mem_map.1 (List.mem_of_mem_take hy); simp [go_sem]; done) | (obtain ⟨z, _, rfl⟩ := List.mem_map.1 (List.mem_of_mem_drop hy); simp [go_sem]; done) | (obtain ⟨z, _, rfl⟩ := List.mem_map.1 (List.mem_of_mem_drop (List.mem_of_mem_take hy)); simp [go_sem]; done)))) | (refine Qb ?_ ?_; focus kernel_rfl) | ((with_reducible apply And.intro); focus omega) | (refine z8 hK ?_; clear hK; simp only [go_sem, *]) | simp only [z6, z7, go_sem, *])
  all_goals try contradiction
  refine u3 rfl (i) (fun j => zNL l (q9 s.first) pre i j) 45 (fun j => [(23, iV j), (22, iV i), (21, .list ((l.take i).map (Truth.enc s.first))), (9, .ptr 1 0), (14, iV i), (13, iV l.length), (12, .list (l.map (Truth.enc s.first))), (7, fnV 168), (2, .list (pre.map House.enc)), (1, .list (l.map (Truth.enc s.first))), (0, .ptr 0 0)]) (fun j => [l0 s, .box [.list ((l.getD i default).ways.map iV), .list ((l.getD i default).fin.map y7), .fmap (w5 s.first) (w4 s.first (l.getD i default).now)]]) [some 0, some 1] [] (by exact hP) ?_; intro j hj hQ
  clear hP
  by_cases hj : j < i
  ·have hj3 : (j : Int) < i := by omega
   have hF2 := hF1 j hj
   have hN := zO0 hQ
   have sL2 := sL1 (l.getD j default)
   have sA2 := sA1 (l.getD j default)
   have hgt : (List.map (Truth.enc s.first) (l.take i)).getD j AV.any = (l.getD j default).enc s.first := by
    have : j < l.length := by omega
    simp [List.getD, hj, this]
   have hok : okT l (q9 s.first) pre i j = (!zNC (l.getD i default) (l.getD j default) pre || zNC (l.getD i default) (l.getD j default) (q9 s.first)) := rfl
   generalize zNC (l.getD i default) (l.getD j default) pre = c1 at *
   generalize zNC (l.getD i default) (l.getD j default) (q9 s.first) = c2 at *
   generalize okT l (q9 s.first) pre i j = ok at *
   subst hok
   clear hF1 sL1 sA1
   cases c1 with
   | false =>
    have hN2 := hN rfl
    clear hF2 hN
    repeat' (first | (refine Qr rfl ?_; try intro _ hK; try simp only [go_sem, *]) | (refine Qi rfl rfl rfl rfl ?_ ?_ <;> (intro hb; (try intro _ hK); have hc := hb; try simp only [go_sem] at hc; simp only [go_sem, *])) | refine Qh rfl ?_ | refine Qd rfl (by kernel_rfl) ?_ | (refine Qc rfl rfl ?_ ?_ <;> (intro hb; have hc := hb; try simp only [go_sem] at hc)) | refine q6 rfl ?_ | (refine Qb ?_ ?_; focus kernel_rfl) | (refine zD5 (sL2) ?_ ?_; (focus (simp only [go_sem, *]; done)); simp only [go_sem, *]) | (refine zD5 (sA2) ?_ ?_; (focus (simp only [go_sem, *]; done)); simp only [go_sem, *]) | ((with_reducible apply And.intro); focus omega) | (refine z8 hK ?_; clear hK; simp only [go_sem, *]) | simp only [z6, z7, go_sem, *])
    all_goals try contradiction
    exact u2 (i' := j + 1) [some 0, some 1] [] (by exact hN2)
   | true =>
    cases c2 with
    | true =>
     have hN2 := hN rfl
     clear hF2 hN
     repeat' (first | (refine Qr rfl ?_; try intro _ hK; try simp only [go_sem, *]) | (refine Qi rfl rfl rfl rfl ?_ ?_ <;> (intro hb; (try intro _ hK); have hc := hb; try simp only [go_sem] at hc; simp only [go_sem, *])) | refine Qh rfl ?_ | refine Qd rfl (by kernel_rfl) ?_ | (refine Qc rfl rfl ?_ ?_ <;> (intro hb; have hc := hb; try simp only [go_sem] at hc)) | refine q6 rfl ?_ | (refine Qb ?_ ?_; focus kernel_rfl) | (refine zD5 (sL2) ?_ ?_; (focus (simp only [go_sem, *]; done)); simp only [go_sem, *]) | (refine zD5 (sA2) ?_ ?_; (focus (simp only [go_sem, *]; done)); simp only [go_sem, *]) | ((with_reducible apply And.intro); focus omega) | (refine z8 hK ?_; clear hK; simp only [go_sem, *]) | simp only [z6, z7, go_sem, *])
     all_goals try contradiction
     exact u2 (i' := j + 1) [some 0, some 1] [] (by exact hN2)
    | false =>
     have hS := hF2 rfl
     clear hF2 hN
     subst hS
     repeat' (first | (refine Qr rfl ?_; try intro _ hK; try simp only [go_sem, *]) | (refine Qi rfl rfl rfl rfl ?_ ?_ <;> (intro hb; (try intro _ hK); have hc := hb; try simp only [go_sem] at hc; simp only [go_sem, *])) | refine Qh rfl ?_ | refine Qd rfl (by kernel_rfl) ?_ | (refine Qc rfl rfl ?_ ?_ <;> (intro hb; have hc := hb; try simp only [go_sem] at hc)) | refine q6 rfl ?_ | (refine Qb ?_ ?_; focus kernel_rfl) | (refine zD5 (sL2) ?_ ?_; (focus (simp only [go_sem, *]; done)); simp only [go_sem, *]) | (refine zD5 (sA2) ?_ ?_; (focus (simp only [go_sem, *]; done)); simp only [go_sem, *]) | ((with_reducible apply And.intro); focus omega) | (refine z8 hK ?_; clear hK; simp only [go_sem, *]) | simp only [z6, z7, go_sem, *])
     all_goals try contradiction
     refine ⟨[_], [some 0], [], ⟨rfl, trivial⟩, ?_⟩
     simp only [go_sem, *]
  ·have hj3 : ¬ (j : Int) < i := by omega
   obtain rfl : j = i := by omega
   have hN := zOz hQ
   clear hF1 sL1 sA1
   repeat' (first | (refine Qr rfl ?_; try intro _ hK; try simp only [go_sem, *]) | (refine Qi rfl rfl rfl rfl ?_ ?_ <;> (intro hb; (try intro _ hK); have hc := hb; try simp only [go_sem] at hc; simp only [go_sem, *])) | refine Qh rfl ?_ | refine Qd rfl (by kernel_rfl) ?_ | (refine Qc rfl rfl ?_ ?_ <;> (intro hb; have hc := hb; try simp only [go_sem] at hc)) | refine q6 rfl ?_ | (refine Qb ?_ ?_; focus kernel_rfl) | ((with_reducible apply And.intro); focus omega) | (refine z8 hK ?_; clear hK; simp only [go_sem, *]) | simp only [z6, z7, go_sem, *])
   all_goals try contradiction
   exact u2 (i' := j + 1) [some 0] [] (by exact hN)
 ·have hi3 : ¬ (i : Int) < l.length := by omega
  have hS := hT i (by omega) hP
  clear hF hT sL sA hx
  subst hS
  repeat' (first | (refine Qr rfl ?_; try intro _ hK; try simp only [go_sem, *]) | (refine Qi rfl rfl rfl rfl ?_ ?_ <;> (intro hb; (try intro _ hK); have hc := hb; try simp only [go_sem] at hc; simp only [go_sem, *])) | refine Qh rfl ?_ | refine Qd rfl (by kernel_rfl) ?_ | (refine Qc rfl rfl ?_ ?_ <;> (intro hb; have hc := hb; try simp only [go_sem] at hc)) | refine q6 rfl ?_ | (refine Qb ?_ ?_; focus kernel_rfl) | ((with_reducible apply And.intro); focus omega) | (refine z8 hK ?_; clear hK; simp only [go_sem, *]) | simp only [z6, z7, go_sem, *])
  all_goals try contradiction
  refine ⟨[_], [some 0], [], ⟨rfl, trivial⟩, ?_⟩
  simp only [go_sem, *]
end Go.Abs

namespace Go.Abs
open Go Go.Proofs Tryz
attribute [local irreducible] y6 Hold x8
theorem zPF (s : Story) (o : Told s) (l : List Truth) (hlt : l.length ≤ 1000) (hx : ∀ t, t ∈ l → ∀ h, h ∈ q9 s.first → (t.now h).length ≤ 1000) : ∀ (m start : Nat) (pre : List House), (∀ h, h ∈ pre → h ∈ q9 s.first) → pre.length + m ≤ 1000 → start ≤ (q9 s.first).length →
  zLp prog 118 [.ptr 0 0, .list (l.map (Truth.enc s.first)), .list (pre.map House.enc), iV start, iV m] [l0 s]
   (.tup [.list ((zRn (zNA l (q9 s.first)) (q9 s.first) m ((q9 s.first).length - start) pre).1.map House.enc), bV (zRn (zNA l (q9 s.first)) (q9 s.first) m ((q9 s.first).length - start) pre).2]) [l0 s]
 | 0, start, pre, hh, hp, hs => by
  have sS := zQ1 s o l pre hh (by omega) hlt hx
  rw [zN8]
  refine q8 func118 rfl (fun E hE => ?_); simp only [go_sem, ntmps118]
  repeat' (first | (refine Qr rfl ?_; try intro _ hK; try simp only [go_sem, *]) | refine Qh rfl ?_ | refine Qd rfl (by kernel_rfl) ?_ | (refine Qc rfl rfl ?_ ?_ <;> (intro hb; have hc := hb; try simp only [go_sem] at hc)) | refine q6 rfl ?_ | (refine Qb ?_ ?_; focus kernel_rfl) | (refine Y6 [0] (sS) ?_; simp only [go_sem, *]) | ((with_reducible apply And.intro); focus omega) | (refine z8 hK ?_; clear hK; simp only [go_sem, *]) | simp only [z6, z7, go_sem, *])
  all_goals try contradiction
  refine ⟨[_, _], [some 0], [], ⟨rfl, rfl, trivial⟩, ?_⟩
  simp only [go_sem, *]
 | m + 1, start, pre, hh, hp, hs => by
  have v := o.first
  have hct := v.count
  have IH := zPF s o l hlt hx m
  have sC := zHH pre (by omega)
  obtain ⟨R, hR⟩ : ∃ R, zRn (zNA l (q9 s.first)) (q9 s.first) (m + 1) ((q9 s.first).length - start) pre = R := ⟨_, rfl⟩
  have hst := fun i => zPp (zNA l (q9 s.first)) (q9 s.first) m i pre
  have hno := fun i => zN7 (zNA l (q9 s.first)) (q9 s.first) i (m + 1) pre
  have hin : ∀ i, i < (q9 s.first).length → ∀ h, h ∈ pre ++ [(q9 s.first).getD i default] → h ∈ q9 s.first := fun i hi h hm => by
   rcases List.mem_append.1 hm with hm | hm
   ·exact hh h hm
   ·rw [List.mem_singleton.1 hm]; exact w8 hi
  rw [hR]
  generalize zNA l (q9 s.first) = S at *
  have hbx : l0 s = .box [.list (s.first.map y7), .list (s.steps.map i9), .list (s.facts.map Fact.enc), .list ((q9 s.first).map House.enc)] := rfl
  rw [hbx] at IH ⊢
  generalize q9 s.first = HS at *
  have hw1 : IntKind.i64.wrap (((m + 1 : Nat) : Int) - 1) = (m : Int) := by rw [wrap_i64 (by omega) (by omega)]; omega
  have hz : (((m + 1 : Nat) : Int) == 0) = false := by rw [beq_eq_false_iff_ne]; omega
  obtain ⟨M, hM⟩ : ∃ M, M = m + 1 := ⟨_, rfl⟩
  rw [← hM] at hw1 hz hR hst hno ⊢
  have hM2 : m < M := by omega
  have hM3 : M ≤ 1000 := by omega
  clear hM hbx
  refine q8 func118 rfl (fun E hE => ?_); simp only [go_sem, ntmps118]
  repeat' (first | (refine Qr rfl ?_; try intro _ hK; try simp only [go_sem, *]) | refine Qh rfl ?_ | refine Qd rfl (by kernel_rfl) ?_ | (refine Qc rfl rfl ?_ ?_ <;> (intro hb; have hc := hb; try simp only [go_sem] at hc)) | refine q6 rfl ?_ | (refine Qb ?_ ?_; focus kernel_rfl) | ((with_reducible apply And.intro); focus omega) | (refine z8 hK ?_; clear hK; simp only [go_sem, *]) | simp only [z6, z7, go_sem, *])
  all_goals try contradiction
  refine u4 rfl (HS.length - start) (fun k (i : Nat) => (start + k ≤ i ∧ i ≤ start + k) ∧ zRn S HS M (HS.length - i) pre = R) 57 (fun k i => [(12, iV i), (4, iV M), (2, .list (pre.map House.enc)), (1, .list (l.map (Truth.enc s.first))), (0, .ptr 0 0)]) (fun k i => [.box [.list (s.first.map y7), .list (s.steps.map i9), .list (s.facts.map Fact.enc), .list (HS.map House.enc)]]) [some 0] [] (start) (by exact ⟨⟨Nat.le_refl _, Nat.le_refl _⟩, hR⟩) ?_; intro k i hk hP
  clear hR
  obtain ⟨⟨hik1, hik2⟩, hP⟩ := hP
  have hiM : i ≤ HS.length := by omega
  have hw : IntKind.i64.wrap ((i : Int) + (M : Int)) = (i : Int) + M := wrap_i64 (by omega) (by omega)
  have hw3 : IntKind.i64.wrap ((i : Int) + 1) = ((i + 1 : Nat) : Int) := by rw [wrap_i64 (by omega) (by omega)]; omega
  by_cases hi : i + M ≤ HS.length
  ·have hi3 : (i : Int) + M ≤ HS.length := by omega
   have hi2 : i < HS.length := by omega
   rw [hst i hi2] at hP
   have ih := IH (i + 1) (pre ++ [HS.getD i default]) (hin i hi2) (by simp; omega) (by omega)
   generalize zRn S HS m (HS.length - (i + 1)) (pre ++ [HS.getD i default]) = Q at *
   clear IH hst hno hin
   cases q2 : Q.2 with
   | true =>
    rw [q2, if_pos rfl] at hP
    subst hP
    rw [q2] at ih
    repeat' (first | (refine Qr rfl ?_; try intro _ hK; try simp only [go_sem, *]) | refine Qh rfl ?_ | refine Qd rfl (by kernel_rfl) ?_ | (refine Qc rfl rfl ?_ ?_ <;> (intro hb; have hc := hb; try simp only [go_sem] at hc)) | refine q6 rfl ?_ | (refine Qb ?_ ?_; focus kernel_rfl) | (refine s8 (sC) ?_; simp only [go_sem, *]) | ((with_reducible apply And.intro); focus omega) | (refine z8 hK ?_; clear hK; simp only [go_sem, *]) | simp only [z6, z7, go_sem, *])
    all_goals try contradiction
    refine zBM [0] [3] ih rfl (by simp only [go_sem]) (by simp) ?_ ?_ (by simp [go_sem]) (by simp [go_sem]) ?_
    ·simp only [go_sem, List.map_append, List.map_cons, List.map_nil, *]
     rw [List.take_of_length_le (by simp)]
    ·simp only [go_sem, *]
    simp only [go_sem, v6, *]
    repeat' (first | (refine Qr rfl ?_; try intro _ hK; try simp only [go_sem, *]) | refine Qh rfl ?_ | refine Qd rfl (by kernel_rfl) ?_ | (refine Qc rfl rfl ?_ ?_ <;> (intro hb; have hc := hb; try simp only [go_sem] at hc)) | refine q6 rfl ?_ | (refine Qb ?_ ?_; focus kernel_rfl) | ((with_reducible apply And.intro); focus omega) | (refine z8 hK ?_; clear hK; simp only [go_sem, *]) | simp only [z6, z7, go_sem, *])
    all_goals try contradiction
    refine ⟨[_, _], [some 0], [], ⟨rfl, rfl, trivial⟩, ?_⟩
    simp only [go_sem, *]
   | false =>
    rw [q2, if_neg (by simp)] at hP
    rw [q2] at ih
    repeat' (first | (refine Qr rfl ?_; try intro _ hK; try simp only [go_sem, *]) | refine Qh rfl ?_ | refine Qd rfl (by kernel_rfl) ?_ | (refine Qc rfl rfl ?_ ?_ <;> (intro hb; have hc := hb; try simp only [go_sem] at hc)) | refine q6 rfl ?_ | (refine Qb ?_ ?_; focus kernel_rfl) | (refine s8 (sC) ?_; simp only [go_sem, *]) | ((with_reducible apply And.intro); focus omega) | (refine z8 hK ?_; clear hK; simp only [go_sem, *]) | simp only [z6, z7, go_sem, *])
    all_goals try contradiction
    refine zBM [0] [3] ih rfl (by simp only [go_sem]) (by simp) ?_ ?_ (by simp [go_sem]) (by simp [go_sem]) ?_
    ·simp only [go_sem, List.map_append, List.map_cons, List.map_nil, *]
     rw [List.take_of_length_le (by simp)]
    ·simp only [go_sem, *]
    simp only [go_sem, v6, *]
    repeat' (first | (refine Qr rfl ?_; try intro _ hK; try simp only [go_sem, *]) | refine Qh rfl ?_ | refine Qd rfl (by kernel_rfl) ?_ | (refine Qc rfl rfl ?_ ?_ <;> (intro hb; have hc := hb; try simp only [go_sem] at hc)) | refine q6 rfl ?_ | (refine Qb ?_ ?_; focus kernel_rfl) | ((with_reducible apply And.intro); focus omega) | (refine z8 hK ?_; clear hK; simp only [go_sem, *]) | simp only [z6, z7, go_sem, *])
    all_goals try contradiction
    exact w6 (i' := k + 1) [some 0] [] (i + 1) (by exact ⟨⟨by omega, by omega⟩, hP⟩)
  ·have hi3 : ¬ (i : Int) + M ≤ HS.length := by omega
   rw [hno _ (by omega)] at hP
   subst hP
   clear IH hst hno hin
   repeat' (first | (refine Qr rfl ?_; try intro _ hK; try simp only [go_sem, *]) | refine Qh rfl ?_ | refine Qd rfl (by kernel_rfl) ?_ | (refine Qc rfl rfl ?_ ?_ <;> (intro hb; have hc := hb; try simp only [go_sem] at hc)) | refine q6 rfl ?_ | (refine Qb ?_ ?_; focus kernel_rfl) | ((with_reducible apply And.intro); focus omega) | (refine z8 hK ?_; clear hK; simp only [go_sem, *]) | simp only [z6, z7, go_sem, *])
   all_goals try contradiction
   refine ⟨[_, _], [some 0], [], ⟨rfl, rfl, trivial⟩, ?_⟩
   simp only [go_sem, *]
theorem zPA (s : Story) (h : r9 s = 0) (hl0 : r5 s = []) : zLp prog 69 [s.enc] [] (.tup [.list [], iV 11]) [] := by
 have sa := zAr s h
 rw [hl0] at sa
 refine q8 func69 rfl (fun E hE => ?_); simp only [go_sem, ntmps69]
 repeat' (first | (refine Qr rfl ?_; try intro _ hK; try simp only [go_sem, *]) | refine Qh rfl ?_ | (refine Qc rfl rfl ?_ ?_ <;> (intro hb; have hc := hb; try simp only [go_sem] at hc)) | refine q6 rfl ?_ | (refine s8 (sa) ?_; simp only [go_sem, *]) | ((with_reducible apply And.intro); focus omega) | (refine z8 hK ?_; clear hK; simp only [go_sem, *]) | simp only [z6, z7, go_sem, *])
 all_goals try contradiction
 (refine ⟨[_, _], [], [], ⟨rfl, rfl, trivial⟩, ?_⟩; simp only [go_sem, *])
theorem zPB (s : Story) (h : r9 s = 0) (hne : r5 s ≠ []) (M : Nat) (out : List House) (hM : zRn (zNA (r5 s) (q9 s.first)) (q9 s.first) M (q9 s.first).length [] = (out, true))
  (hmin : ∀ m, m < M → (zRn (zNA (r5 s) (q9 s.first)) (q9 s.first) m (q9 s.first).length []).2 = false) (hMn : M ≤ (q9 s.first).length) :
  zLp prog 69 [s.enc] [] (.tup [.list (out.map House.enc), iV 0]) [] := by
 have o := C2 h
 have v := o.first
 have hct := v.count
 have h3 := o.steps
 have hl := H0 h3 (fun w hw => (o.ways w hw).2.1)
 have sa := zAr s h
 have hsm : ∀ t, t ∈ r5 s → ∀ x, x ∈ q9 s.first → (t.now x).length ≤ 1000 := fun t hm x hx => by have := (zDU v t hm).small h3 hx; omega
 have sf := fun m (hm : m ≤ 1000) => zPF s o (r5 s) (by omega) hsm m 0 [] (by simp) (by simp; exact hm) (Nat.zero_le _)
 simp only [Nat.sub_zero] at sf
 have sm : ∀ m, m < M → ∃ q : List House, zLp prog 118 [.ptr 0 0, .list ((r5 s).map (Truth.enc s.first)), .list [], iV 0, iV m] [l0 s] (.tup [.list (q.map House.enc), bV false]) [l0 s] := fun m hm => by
  have a := sf m (by omega)
  rw [hmin m hm] at a
  exact ⟨_, a⟩
 have sM := sf M (by omega)
 rw [hM] at sM
 have hl0 : (((r5 s).length : Int) == 0) = false := by
  have := List.length_pos_iff.2 hne
  rw [beq_eq_false_iff_ne]; omega
 simp only [List.map_nil] at sM
 clear hM hmin sf hsm hne
 generalize r5 s = l at *
 refine q8 func69 rfl (fun E hE => ?_); simp only [go_sem, ntmps69]
 repeat' (first | (refine Qr rfl ?_; try intro _ hK; try simp only [go_sem, *]) | refine Qh rfl ?_ | (refine Qc rfl rfl ?_ ?_ <;> (intro hb; have hc := hb; try simp only [go_sem] at hc)) | refine q6 rfl ?_ | (refine s8 (sa) ?_; simp only [go_sem, *]) | ((with_reducible apply And.intro); focus omega) | (refine z8 hK ?_; clear hK; simp only [go_sem, *]) | simp only [z6, z7, go_sem, *])
 all_goals try contradiction
 refine u3 rfl (M + 1) (fun k => k ≤ M) 33 (fun k => [(7, iV k), (5, .list (l.map (Truth.enc s.first))), (4, .ptr 0 0)]) (fun k => [l0 s]) [some 1] [] (by exact Nat.zero_le _) ?_; intro k hk hP
 by_cases hk : k < M
 ·obtain ⟨q, s1⟩ := sm k hk
  clear sm sM
  repeat' (first | (refine Qr rfl ?_; try intro _ hK; try simp only [go_sem, *]) | refine Qh rfl ?_ | (refine Qc rfl rfl ?_ ?_ <;> (intro hb; have hc := hb; try simp only [go_sem] at hc)) | refine q6 rfl ?_ | (refine Y6 [0] (s1) ?_; simp only [go_sem, *]) | ((with_reducible apply And.intro); focus omega) | (refine z8 hK ?_; clear hK; simp only [go_sem, *]) | simp only [z6, z7, go_sem, *])
  all_goals try contradiction
  exact u2 (i' := k + 1) [some 0] [] (by omega)
 ·obtain rfl : k = M := by omega
  clear sm
  repeat' (first | (refine Qr rfl ?_; try intro _ hK; try simp only [go_sem, *]) | refine Qh rfl ?_ | (refine Qc rfl rfl ?_ ?_ <;> (intro hb; have hc := hb; try simp only [go_sem] at hc)) | refine q6 rfl ?_ | (refine Y6 [0] (sM) ?_; simp only [go_sem, *]) | ((with_reducible apply And.intro); focus omega) | (refine z8 hK ?_; clear hK; simp only [go_sem, *]) | simp only [z6, z7, go_sem, *])
  all_goals try contradiction
  (refine ⟨[_, _], [], [], ⟨rfl, rfl, trivial⟩, ?_⟩; simp only [go_sem, *])
end Go.Abs

namespace Go.Abs
open Go Go.Proofs Tryz
attribute [local irreducible] y6 Hold x8
@[go_sem, simp] theorem zRX (H : Nat → AObj) (m : List (Option Nat)) (ex : List Nat) (l : List (List Int)) (x y : AV) : XpL H m ex (List.map j4 l ++ [x]) (List.map j4 l ++ [y]) ↔ XpF H m ex x y := zPS H m ex (fun t => t.map iV) l x y
theorem zPP {n m i : Nat} (h : i < n) : zM7 n (m + 1) (n - i) = (zM7 n m (n - (i + 1))).map (fun l => (i : Int) :: l) ++ zM7 n (m + 1) (n - (i + 1)) := by
 obtain ⟨r, hr⟩ : ∃ r, n - (i + 1) = r := ⟨_, rfl⟩
 have e : n - i = r + 1 := by omega
 have e2 : n - (r + 1) = i := by omega
 rw [e, hr, zM7, e2]
theorem zNz {n r m : Nat} (h : r ≤ 24) : (zM7 n m r).length ≤ 16777216 := Nat.le_trans (zOK n r m) (Nat.pow_le_pow_right (by omega) h)
def zNJ (n : Int) : List Int → Nat → Int
 | [], _ => -1
 | x :: r, i => if x = n then i else zNJ n r (i + 1)
end Go.Abs

namespace Go.Abs
open Go Go.Proofs Tryz
attribute [local irreducible] y6 Hold x8
def zON : Code → Code
 | .seq x (.scope c) => .seq x c
 | c => c
def zP1 : Code → Bool
 | .seq _ (.scope _) => true
 | _ => false
theorem zOJ {P : Program} {f : FuncId} {fn : Func} {args : List AV} {fp : List AObj} {r : AV} {out : List AObj} (hf : P.funcs[f]? = some fn) (hb : fn.body.isSome = true) (hs : zP1 (B4 fn) = true)
  (h : ∀ E : Env, E.n = fp.length → Hold P E (sub [0] (zON (B4 fn))) (z6 (Hold P E (sub [1] (zON (B4 fn))) (fun e σ' => (e = .normal ∨ e = .ret) ∧ zA8 P fn fp.length r out σ')) (fun e σ' => (e = .normal ∨ e = .ret) ∧ zA8 P fn fp.length r out σ'))
   ⟨args.length + (fn.ntmps - args.length), zMQ 0 args, zLy 0 fp⟩) : zLp P f args fp r out := by
 refine q8 hf hb (fun E hE => ?_)
 have := h E hE
 simp only [sub] at this ⊢
 cases hc : B4 fn with
 | seq x y =>
  cases y with
  | scope c =>
   rw [hc] at this
   simp only [zON, zBR] at this
   refine zFk (this.mono ?_)
   rintro e σ' hq
   cases e with
   | normal =>
    have hq2 : Hold P E c (fun e σ' => (e = .normal ∨ e = .ret) ∧ zA8 P fn fp.length r out σ') σ' := hq
    show Hold P E (.scope c) _ σ'
    unfold Hold at hq2 ⊢
    intro a w hw
    refine wp_scope_straight (wp_mono (hq2 a w hw) ?_)
    rintro e a1 w1 ⟨σ2, ⟨h1, h2⟩, h3⟩
    rcases h1 with rfl | rfl
    ·exact ⟨σ2, ⟨.inl rfl, h2⟩, h3⟩
    ·exact ⟨σ2, ⟨.inr rfl, h2⟩, h3⟩
   | _ => exact hq
  | _ => rw [hc] at hs; cases hs
 | _ => rw [hc] at hs; cases hs
def zM8 (l : List Truth) (h : House) : Bool := l.all fun t => decide ((t.now h).length = 0)
def zNN (s : Story) : Int := if r9 s = 0 then if r5 s = [] then 11 else 0 else r9 s
def zNI (s : Story) : List House := if r9 s = 0 then if r5 s = [] then [] else (q9 s.first).filter (zM8 (r5 s)) else []
def zNn (l : List Truth) (h : House) (j : Nat) : Prop := ∀ t, t ∈ l.take j → (t.now h).length = 0
theorem zP6 {l : List Truth} {h : House} {j : Nat} (hj : j < l.length) (e : 0 < ((l.getD j default).now h).length) : zM8 l h = false := by
 unfold zM8
 rw [List.all_eq_false]
 exact ⟨_, w8 hj, by simp only [decide_eq_true_eq]; omega⟩
theorem zP3 {l : List Truth} {h : House} {j : Nat} (hj : l.length ≤ j) (e : zNn l h j) : zM8 l h = true := by
 unfold zM8
 rw [List.all_eq_true]
 intro t ht
 rw [zNn, List.take_of_length_le hj] at e
 simpa using e t ht
theorem zP5 {l : List Truth} {h : House} {j : Nat} (hj : j < l.length) (e : zNn l h j) (e2 : ¬ 0 < ((l.getD j default).now h).length) : zNn l h (j + 1) := by
 intro t ht
 rw [Z8 hj] at ht
 rcases List.mem_append.1 ht with ht | ht
 ·exact e t ht
 ·rw [List.mem_singleton.1 ht]; omega
theorem zO8 (s : Story) (hst : s.steps.length ≤ 4294967296) (hwl : ∀ w, w ∈ s.steps → w.length ≤ 4294967296) (hfl : s.facts.length ≤ 4294967296) (hpl : s.first.length ≤ 4294967296) :
  zLp prog 72 [s.enc] [] (.tup [.list ((zNI s).map House.enc), iV (zNN s)]) [] := by
 unfold zNI zNN
 by_cases e : r9 s = 0
 ·have sa := zAr s e
  have o := C2 e
  have v := o.first
  have hct := v.count
  have hw := v.wf
  have hl := H0 o.steps (fun w hw => (o.ways w hw).2.1)
  have hsm : ∀ t, t ∈ r5 s → ∀ x, x ∈ q9 s.first → (t.now x).length ≤ 1000 := fun t hm x hx => by have := (zDU v t hm).small o.steps hx; omega
  rw [if_pos e, if_pos e]
  clear e hst hwl hfl hpl
  by_cases hne : r5 s = []
  ·rw [if_pos hne, if_pos hne]
   rw [hne] at sa
   refine zOJ func72 rfl (by kernel_rfl) (fun E hE => ?_); simp only [go_sem, ntmps72]
   repeat' (first | (refine Qr rfl ?_; try intro _ hK; try simp only [go_sem, *]) | (refine Qi rfl rfl rfl rfl ?_ ?_ <;> (intro hb; (try intro _ hK); have hc := hb; try simp only [go_sem] at hc; simp only [go_sem, *])) | refine Qh rfl ?_ | refine Qd rfl (by kernel_rfl) ?_ | (refine Qc rfl rfl ?_ ?_ <;> (intro hb; have hc := hb; try simp only [go_sem] at hc)) | refine q6 rfl ?_ | (refine Qb ?_ ?_; focus kernel_rfl) | (refine s8 (sa) ?_; simp only [go_sem, *]) | ((with_reducible apply And.intro); focus omega) | (refine z8 hK ?_; clear hK; simp only [go_sem, *]) | simp only [z6, z7, go_sem, *])
   all_goals try contradiction
   (refine ⟨[_, _], [], [], ⟨rfl, rfl, trivial⟩, ?_⟩; simp only [go_sem, *])
  ·rw [if_neg hne, if_neg hne]
   have hl0 : (((r5 s).length : Int) == 0) = false := by
    have := List.length_pos_iff.2 hne
    rw [beq_eq_false_iff_ne]; omega
   have h0 : ([] : List House) ++ ((q9 s.first).drop 0).filter (zM8 (r5 s)) = (q9 s.first).filter (zM8 (r5 s)) := rfl
   generalize (q9 s.first).filter (zM8 (r5 s)) = R at *
   clear hne
   generalize r5 s = L at *
   refine zOJ func72 rfl (by kernel_rfl) (fun E hE => ?_); simp only [go_sem, ntmps72]
   repeat' (first | (refine Qr rfl ?_; try intro _ hK; try simp only [go_sem, *]) | (refine Qi rfl rfl rfl rfl ?_ ?_ <;> (intro hb; (try intro _ hK); have hc := hb; try simp only [go_sem] at hc; simp only [go_sem, *])) | refine Qh rfl ?_ | refine Qd rfl (by kernel_rfl) ?_ | (refine Qc rfl rfl ?_ ?_ <;> (intro hb; have hc := hb; try simp only [go_sem] at hc)) | refine q6 rfl ?_ | (refine Qb ?_ ?_; focus kernel_rfl) | (refine s8 (sa) ?_; simp only [go_sem, *]) | ((with_reducible apply And.intro); focus omega) | (refine z8 hK ?_; clear hK; simp only [go_sem, *]) | simp only [z6, z7, go_sem, *])
   all_goals try contradiction
   clear hl0 sa
   refine u4 rfl ((q9 s.first).length) (fun i (acc : List House) => acc ++ ((q9 s.first).drop i).filter (zM8 L) = R ∧ acc.length ≤ i) 52 (fun i acc => [(29, iV i), (28, iV (q9 s.first).length), (27, .list ((q9 s.first).map House.enc)), (7, .own 0 3 0 acc.length), (5, .list (L.map (Truth.enc s.first)))]) (fun i acc => [.row 3 (acc.map House.enc)]) [none] [] ([]) (by exact ⟨h0, Nat.le_refl _⟩) ?_; intro i acc hi hP
   clear h0
   obtain ⟨hP, hacc⟩ := hP
   by_cases hi : i < (q9 s.first).length
   ·have hi3 : (i : Int) < (q9 s.first).length := by omega
    have hm := w8 hi
    have hwf := hw _ hm
    rw [u0 hi] at hP
    have hno := fun j => zP6 (l := L) (h := (q9 s.first).getD i default) (j := j)
    have hen := fun j => zP3 (l := L) (h := (q9 s.first).getD i default) (j := j)
    have hyes : zM8 L ((q9 s.first).getD i default) = true → (acc ++ [(q9 s.first).getD i default]) ++ ((q9 s.first).drop (i + 1)).filter (zM8 L) = R := fun e => by rw [← hP, List.filter_cons_of_pos e]; simp
    have hnot : zM8 L ((q9 s.first).getD i default) = false → acc ++ ((q9 s.first).drop (i + 1)).filter (zM8 L) = R := fun e => by rw [← hP, List.filter_cons_of_neg (by rw [e]; simp)]
    clear hP
    generalize hgd : (q9 s.first).getD i default = h at *
    have hwf0 := hw
    clear hw
    repeat' (first | (refine Qr rfl ?_; try intro _ hK; try simp only [go_sem, *]) | (refine Qi rfl rfl rfl rfl ?_ ?_ <;> (intro hb; (try intro _ hK); have hc := hb; try simp only [go_sem] at hc; simp only [go_sem, *])) | refine Qh rfl ?_ | refine Qd rfl (by kernel_rfl) ?_ | (refine Qc rfl rfl ?_ ?_ <;> (intro hb; have hc := hb; try simp only [go_sem] at hc)) | refine q6 rfl ?_ | (refine Qb ?_ ?_; focus kernel_rfl) | ((with_reducible apply And.intro); focus omega) | (refine z8 hK ?_; clear hK; simp only [go_sem, *]) | simp only [z6, z7, go_sem, *])
    all_goals try contradiction
    refine u3 rfl (L.length) (fun j => zNn L h j) 52 (fun j => [(35, iV j), (34, iV L.length), (33, .list (L.map (Truth.enc s.first))), (9, .ptr 1 0), (29, iV i), (28, iV (q9 s.first).length), (27, .list ((q9 s.first).map House.enc)), (7, .own 0 3 0 acc.length), (5, .list (L.map (Truth.enc s.first)))]) (fun j => [.row 3 (acc.map House.enc), .box [iV h.street, iV h.plate.number, iV h.plate.letter]]) [some 0, some 1] [] (by intro t ht; cases ht) ?_; intro j hj hQ
    by_cases hj : j < L.length
    ·have hj3 : (j : Int) < L.length := by omega
     have hxl := hsm _ (w8 hj) _ hm
     have hn1 := hno j hj
     have hn2 := zP5 hj hQ
     clear hno hen
     repeat' (first | (refine Qr rfl ?_; try intro _ hK; try simp only [go_sem, *]) | (refine Qi rfl rfl rfl rfl ?_ ?_ <;> (intro hb; (try intro _ hK); have hc := hb; try simp only [go_sem] at hc; simp only [go_sem, *])) | refine Qh rfl ?_ | refine Qd rfl (by kernel_rfl) ?_ | (refine Qc rfl rfl ?_ ?_ <;> (intro hb; have hc := hb; try simp only [go_sem] at hc)) | refine q6 rfl ?_ | (refine Qb ?_ ?_; focus kernel_rfl) | ((with_reducible apply And.intro); focus omega) | (refine z8 hK ?_; clear hK; simp only [go_sem, *]) | simp only [z6, z7, go_sem, *])
     refine V7 (h := h) (hs := q9 s.first) (F := zLs (L.getD j default).now) hwf0 hwf ?_
     rw [if_pos hm, zLs]
     by_cases hz : 0 < ((L.getD j default).now h).length
     ·have hz3 : ((((L.getD j default).now h).length : Nat) : Int) > 0 := by omega
      have hP2 := hnot (hn1 hz)
      clear hn1 hn2 hyes hnot
      repeat' (first | (refine Qr rfl ?_; try intro _ hK; try simp only [go_sem, *]) | (refine Qi rfl rfl rfl rfl ?_ ?_ <;> (intro hb; (try intro _ hK); have hc := hb; try simp only [go_sem] at hc; simp only [go_sem, *])) | refine Qh rfl ?_ | refine Qd rfl (by kernel_rfl) ?_ | (refine Qc rfl rfl ?_ ?_ <;> (intro hb; have hc := hb; try simp only [go_sem] at hc)) | refine q6 rfl ?_ | (refine Qb ?_ ?_; focus kernel_rfl) | ((with_reducible apply And.intro); focus omega) | (refine z8 hK ?_; clear hK; simp only [go_sem, *]) | simp only [z6, z7, go_sem, *])
      all_goals try contradiction
      exact w6 (i' := i + 1) [some 0] [] (acc) (by exact ⟨hP2, by omega⟩)
     ·have hz3 : ¬ ((((L.getD j default).now h).length : Nat) : Int) > 0 := by omega
      have hQ2 := hn2 hz
      clear hn1 hn2 hyes hnot
      repeat' (first | (refine Qr rfl ?_; try intro _ hK; try simp only [go_sem, *]) | (refine Qi rfl rfl rfl rfl ?_ ?_ <;> (intro hb; (try intro _ hK); have hc := hb; try simp only [go_sem] at hc; simp only [go_sem, *])) | refine Qh rfl ?_ | refine Qd rfl (by kernel_rfl) ?_ | (refine Qc rfl rfl ?_ ?_ <;> (intro hb; have hc := hb; try simp only [go_sem] at hc)) | refine q6 rfl ?_ | (refine Qb ?_ ?_; focus kernel_rfl) | ((with_reducible apply And.intro); focus omega) | (refine z8 hK ?_; clear hK; simp only [go_sem, *]) | simp only [z6, z7, go_sem, *])
      all_goals try contradiction
      exact u2 (i' := j + 1) [some 0, some 1] [] (by exact hQ2)
    ·have hj3 : ¬ (j : Int) < L.length := by omega
     have hy := hyes (hen j (by omega) hQ)
     clear hno hen hnot hyes
     repeat' (first | (refine Qr rfl ?_; try intro _ hK; try simp only [go_sem, *]) | (refine Qi rfl rfl rfl rfl ?_ ?_ <;> (intro hb; (try intro _ hK); have hc := hb; try simp only [go_sem] at hc; simp only [go_sem, *])) | refine Qh rfl ?_ | refine Qd rfl (by kernel_rfl) ?_ | (refine Qc rfl rfl ?_ ?_ <;> (intro hb; have hc := hb; try simp only [go_sem] at hc)) | refine q6 rfl ?_ | (refine Qb ?_ ?_; focus kernel_rfl) | ((with_reducible apply And.intro); focus omega) | (refine z8 hK ?_; clear hK; simp only [go_sem, *]) | simp only [z6, z7, go_sem, *])
     all_goals try contradiction
     exact w6 (i' := i + 1) [some 3] [] (acc ++ [h]) (by exact ⟨hy, by simp; omega⟩)
   ·have hi3 : ¬ (i : Int) < (q9 s.first).length := by omega
    rw [u7 (by omega), List.filter_nil, List.append_nil] at hP
    subst hP
    repeat' (first | (refine Qr rfl ?_; try intro _ hK; try simp only [go_sem, *]) | (refine Qi rfl rfl rfl rfl ?_ ?_ <;> (intro hb; (try intro _ hK); have hc := hb; try simp only [go_sem] at hc; simp only [go_sem, *])) | refine Qh rfl ?_ | refine Qd rfl (by kernel_rfl) ?_ | (refine Qc rfl rfl ?_ ?_ <;> (intro hb; have hc := hb; try simp only [go_sem] at hc)) | refine q6 rfl ?_ | (refine Qb ?_ ?_; focus kernel_rfl) | ((with_reducible apply And.intro); focus omega) | (refine z8 hK ?_; clear hK; simp only [go_sem, *]) | simp only [z6, z7, go_sem, *])
    all_goals try contradiction
    refine ⟨[_, _], [], [0], ⟨rfl, rfl, trivial⟩, ?_⟩
    simp only [go_sem, *]
 ·rw [if_neg e, if_neg e]
  have sa := zLW s hst hwl hfl hpl e
  have e2 : (r9 s != 0) = true := by simpa using e
  clear e
  generalize r9 s = k at *
  refine zOJ func72 rfl (by kernel_rfl) (fun E hE => ?_); simp only [go_sem, ntmps72]
  repeat' (first | (refine Qr rfl ?_; try intro _ hK; try simp only [go_sem, *]) | (refine Qi rfl rfl rfl rfl ?_ ?_ <;> (intro hb; (try intro _ hK); have hc := hb; try simp only [go_sem] at hc; simp only [go_sem, *])) | refine Qh rfl ?_ | refine Qd rfl (by kernel_rfl) ?_ | (refine Qc rfl rfl ?_ ?_ <;> (intro hb; have hc := hb; try simp only [go_sem] at hc)) | refine q6 rfl ?_ | (refine Qb ?_ ?_; focus kernel_rfl) | (refine y4 (sa) ?_; simp only [go_sem, *]) | ((with_reducible apply And.intro); focus omega) | (refine z8 hK ?_; clear hK; simp only [go_sem, *]) | simp only [z6, z7, go_sem, *])
  all_goals try contradiction
  (refine ⟨[_, _], [], [], ⟨rfl, rfl, trivial⟩, ?_⟩; simp only [go_sem, *])
end Go.Abs

namespace Go.Abs
open Go Go.Proofs Tryz
attribute [local irreducible] y6 Hold x8
theorem zQs (s : Story) (hst : s.steps.length ≤ 4294967296) (hwl : ∀ w, w ∈ s.steps → w.length ≤ 4294967296) (hfl : s.facts.length ≤ 4294967296) (hpl : s.first.length ≤ 4294967296) :
  zLp prog 73 [s.enc] [] (.tup [.list ((zNI s).map House.enc), iV (zNN s)]) [] := by
 unfold zNI zNN
 have s1 := zNX s hst hwl hfl hpl (r9 s) rfl
 by_cases e : r9 s = 0
 ·have o := C2 e
  have v := o.first
  have hct := v.count
  have sa := zNW s o
  have sO := zLa s.first (by have := v.len; omega) (fun l hl => by have := (v.rows l hl).len; omega) (by omega)
  have hl := H0 o.steps (fun w hw => (o.ways w hw).2.1)
  have hsm : ∀ t, t ∈ r5 s → ∀ x, x ∈ q9 s.first → (t.now x).length ≤ 1000 := fun t hm x hx => by have := (zDU v t hm).small o.steps hx; omega
  rw [if_pos e, if_pos e]
  rw [e] at s1
  clear e hst hwl hfl hpl
  by_cases hne : r5 s = []
  ·rw [if_pos hne, if_pos hne]
   rw [hne] at sa
   refine q8 func73 rfl (fun E hE => ?_); simp only [go_sem, ntmps73]
   repeat' (first | (refine Qr rfl ?_; try intro _ hK; try simp only [go_sem, *]) | (refine Qi rfl rfl rfl rfl ?_ ?_ <;> (intro hb; (try intro _ hK); have hc := hb; try simp only [go_sem] at hc; simp only [go_sem, *])) | refine Qh rfl ?_ | (refine Qc rfl rfl ?_ ?_ <;> (intro hb; have hc := hb; try simp only [go_sem] at hc)) | refine q6 rfl ?_ | ((first | refine y4 (s1) ?_ | refine y4 (sa) ?_); simp only [go_sem, *]) | ((with_reducible apply And.intro); focus omega) | (refine z8 hK ?_; clear hK; simp only [go_sem, *]) | simp only [z6, z7, go_sem, *])
   all_goals try contradiction
   (refine ⟨[_, _], [], [], ⟨rfl, rfl, trivial⟩, ?_⟩; simp only [go_sem, *])
  ·rw [if_neg hne, if_neg hne]
   have hl0 : (((r5 s).length : Int) == 0) = false := by
    have := List.length_pos_iff.2 hne
    rw [beq_eq_false_iff_ne]; omega
   have h0 : ([] : List House) ++ ((q9 s.first).drop 0).filter (zM8 (r5 s)) = (q9 s.first).filter (zM8 (r5 s)) := rfl
   generalize (q9 s.first).filter (zM8 (r5 s)) = R at *
   clear hne
   generalize r5 s = L at *
   generalize hHd : q9 s.first = H at *
   refine q8 func73 rfl (fun E hE => ?_); simp only [go_sem, ntmps73]
   repeat' (first | (refine Qr rfl ?_; try intro _ hK; try simp only [go_sem, *]) | (refine Qi rfl rfl rfl rfl ?_ ?_ <;> (intro hb; (try intro _ hK); have hc := hb; try simp only [go_sem] at hc; simp only [go_sem, *])) | refine Qh rfl ?_ | (refine Qc rfl rfl ?_ ?_ <;> (intro hb; have hc := hb; try simp only [go_sem] at hc)) | refine q6 rfl ?_ | ((first | refine y4 (s1) ?_ | refine y4 (sa) ?_); simp only [go_sem, *]) | (refine s8 (sO) ?_; simp only [go_sem, *]) | ((with_reducible apply And.intro); focus omega) | (refine z8 hK ?_; clear hK; simp only [go_sem, *]) | simp only [z6, z7, go_sem, *])
   all_goals try contradiction
   clear hl0 sa sO s1
   refine u4 rfl (H.length) (fun i (acc : List House) => acc ++ (H.drop i).filter (zM8 L) = R ∧ acc.length ≤ i) 58 (fun i acc => [(8, iV i), (7, Q3 H), (6, .own 0 3 0 acc.length), (5, .list (L.map (Truth.encR s.first)))]) (fun i acc => [.row 3 (acc.map House.enc)]) [none] [1] ([]) (by exact ⟨h0, Nat.le_refl _⟩) ?_; intro i acc hi hP
   clear h0
   obtain ⟨hP, hacc⟩ := hP
   by_cases hi : i < H.length
   ·have hi3 : (i : Int) < H.length := by omega
    rw [u0 hi] at hP
    have hyes : zM8 L (H.getD i default) = true → (acc ++ [H.getD i default]) ++ (H.drop (i + 1)).filter (zM8 L) = R := fun e => by rw [← hP, List.filter_cons_of_pos e]; simp
    have hnot : zM8 L (H.getD i default) = false → acc ++ (H.drop (i + 1)).filter (zM8 L) = R := fun e => by rw [← hP, List.filter_cons_of_neg (by rw [e]; simp)]
    have hlo : ∀ b, (L.drop 0).all (fun t => decide ((t.now (H.getD i default)).length = 0)) = b → zM8 L (H.getD i default) = b := fun b h => h
    have h00 : (true && (L.drop 0).all (fun t => decide ((t.now (H.getD i default)).length = 0))) = zM8 L (H.getD i default) := by rw [Bool.true_and]; rfl
    generalize zM8 L (H.getD i default) = F at *
    clear hP hlo
    repeat' (first | (refine Qr rfl ?_; try intro _ hK; try simp only [go_sem, *]) | (refine Qi rfl rfl rfl rfl ?_ ?_ <;> (intro hb; (try intro _ hK); have hc := hb; try simp only [go_sem] at hc; simp only [go_sem, *])) | refine Qh rfl ?_ | (refine Qc rfl rfl ?_ ?_ <;> (intro hb; have hc := hb; try simp only [go_sem] at hc)) | refine q6 rfl ?_ | ((with_reducible apply And.intro); focus omega) | (refine z8 hK ?_; clear hK; simp only [go_sem, *]) | simp only [z6, z7, go_sem, *])
    all_goals try contradiction
    refine u4 rfl (L.length) (fun j (b : Bool) => (b && (L.drop j).all (fun t => decide ((t.now (H.getD i default)).length = 0))) = F) 58 (fun j b => [(10, iV j), (9, bV b), (8, iV i), (7, Q3 H), (6, .own 0 3 0 acc.length), (5, .list (L.map (Truth.encR s.first)))]) (fun j b => [.row 3 (acc.map House.enc)]) [some 0] [] (true) (by exact h00) ?_; intro j b hj hQ
    clear h00
    by_cases hj : j < L.length
    ·have hj3 : (j : Int) < L.length := by omega
     rw [u0 hj, List.all_cons, ← Bool.and_assoc] at hQ
     have hz : (((((L.getD j default).now (H.getD i default)).length : Nat) : Int) == 0) = decide (((L.getD j default).now (H.getD i default)).length = 0) := by
      apply zN3
      rw [beq_iff_eq, decide_eq_true_eq]; omega
     generalize decide (((L.getD j default).now (H.getD i default)).length = 0) = d at *
     obtain ⟨b2, hb2⟩ : ∃ b2, b2 = (b && d) := ⟨_, rfl⟩
     rw [← hb2] at hQ
     clear hyes hnot
     cases b <;> (
      repeat' (first | (refine Qr rfl ?_; try intro _ hK; try simp only [go_sem, *]) | (refine Qi rfl rfl rfl rfl ?_ ?_ <;> (intro hb; (try intro _ hK); have hc := hb; try simp only [go_sem] at hc; simp only [go_sem, *])) | refine Qh rfl ?_ | (refine Qc rfl rfl ?_ ?_ <;> (intro hb; have hc := hb; try simp only [go_sem] at hc)) | refine q6 rfl ?_ | ((with_reducible apply And.intro); focus omega) | (refine z8 hK ?_; clear hK; simp only [go_sem, *]) | simp only [z6, z7, go_sem, *])
      all_goals try contradiction
      exact w6 (i' := j + 1) [some 0] [] (b2) (by exact hQ))
    ·have hj3 : ¬ (j : Int) < L.length := by omega
     rw [u7 (by omega), List.all_nil, Bool.and_true] at hQ
     subst hQ
     cases b with
     | true =>
      have hy := hyes rfl
      clear hyes hnot
      repeat' (first | (refine Qr rfl ?_; try intro _ hK; try simp only [go_sem, *]) | (refine Qi rfl rfl rfl rfl ?_ ?_ <;> (intro hb; (try intro _ hK); have hc := hb; try simp only [go_sem] at hc; simp only [go_sem, *])) | refine Qh rfl ?_ | (refine Qc rfl rfl ?_ ?_ <;> (intro hb; have hc := hb; try simp only [go_sem] at hc)) | refine q6 rfl ?_ | ((with_reducible apply And.intro); focus omega) | (refine z8 hK ?_; clear hK; simp only [go_sem, *]) | simp only [z6, z7, go_sem, *])
      all_goals try contradiction
      exact w6 (i' := i + 1) [some 2] [] (acc ++ [H.getD i default]) (by exact ⟨hy, by simp; omega⟩)
     | false =>
      have hy := hnot rfl
      clear hyes hnot
      repeat' (first | (refine Qr rfl ?_; try intro _ hK; try simp only [go_sem, *]) | (refine Qi rfl rfl rfl rfl ?_ ?_ <;> (intro hb; (try intro _ hK); have hc := hb; try simp only [go_sem] at hc; simp only [go_sem, *])) | refine Qh rfl ?_ | (refine Qc rfl rfl ?_ ?_ <;> (intro hb; have hc := hb; try simp only [go_sem] at hc)) | refine q6 rfl ?_ | ((with_reducible apply And.intro); focus omega) | (refine z8 hK ?_; clear hK; simp only [go_sem, *]) | simp only [z6, z7, go_sem, *])
      all_goals try contradiction
      exact w6 (i' := i + 1) [some 0] [] (acc) (by exact ⟨hy, by omega⟩)
   ·have hi3 : ¬ (i : Int) < H.length := by omega
    rw [u7 (by omega), List.filter_nil, List.append_nil] at hP
    subst hP
    repeat' (first | (refine Qr rfl ?_; try intro _ hK; try simp only [go_sem, *]) | (refine Qi rfl rfl rfl rfl ?_ ?_ <;> (intro hb; (try intro _ hK); have hc := hb; try simp only [go_sem] at hc; simp only [go_sem, *])) | refine Qh rfl ?_ | (refine Qc rfl rfl ?_ ?_ <;> (intro hb; have hc := hb; try simp only [go_sem] at hc)) | refine q6 rfl ?_ | ((with_reducible apply And.intro); focus omega) | (refine z8 hK ?_; clear hK; simp only [go_sem, *]) | simp only [z6, z7, go_sem, *])
    all_goals try contradiction
    refine ⟨[_, _], [], [0], ⟨rfl, rfl, trivial⟩, ?_⟩
    simp only [go_sem, *]
 ·rw [if_neg e, if_neg e]
  have e2 : (r9 s != 0) = true := by simpa using e
  clear e
  generalize r9 s = k at *
  refine q8 func73 rfl (fun E hE => ?_); simp only [go_sem, ntmps73]
  repeat' (first | (refine Qr rfl ?_; try intro _ hK; try simp only [go_sem, *]) | (refine Qi rfl rfl rfl rfl ?_ ?_ <;> (intro hb; (try intro _ hK); have hc := hb; try simp only [go_sem] at hc; simp only [go_sem, *])) | refine Qh rfl ?_ | (refine Qc rfl rfl ?_ ?_ <;> (intro hb; have hc := hb; try simp only [go_sem] at hc)) | refine q6 rfl ?_ | (refine y4 (s1) ?_; simp only [go_sem, *]) | ((with_reducible apply And.intro); focus omega) | (refine z8 hK ?_; clear hK; simp only [go_sem, *]) | simp only [z6, z7, go_sem, *])
  all_goals try contradiction
  (refine ⟨[_, _], [], [], ⟨rfl, rfl, trivial⟩, ?_⟩; simp only [go_sem, *])
end Go.Abs

