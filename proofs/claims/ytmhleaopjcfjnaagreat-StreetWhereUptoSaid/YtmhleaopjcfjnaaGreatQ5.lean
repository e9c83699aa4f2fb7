/-
  WHAT THE PROOF STANDS ON, PART 5: contracts of the program's functions and the logic that they are proved in. No condition.
-/
import Derived.Shelf.SlLaysF0
import Derived.Test.YtmhleaopjcfjnaaGreatProg
import Derived.Shelf.SlSortCmp.NoneTotal
import Derived.Test.YtmhleaopjcfjnaaGreatQ4
set_option maxRecDepth 100000
set_option maxHeartbeats 4000000
set_option linter.unusedVariables false
set_option linter.unusedSimpArgs false
set_option linter.unusedSectionVars false
namespace Go.Abs
open Go Go.Proofs Tryz
attribute [local irreducible] y6 Hold x8
theorem zQo (p : zLo) (h1 : p.length ≤ 4294967296) : zLp prog 28 [x7 p] [] (iV (check p)) [] := by
  have e0 : p.length = 0 → check p = 7 := fun h => by unfold check; rw [if_pos h]
  have e1 : ¬ p.length = 0 → 3 < p.length → check p = 6 := fun h h' => by unfold check; rw [if_neg h, if_pos h']
  have e2 : ¬ p.length = 0 → ¬ 3 < p.length → check p = j3 p := fun h h' => by unfold check; rw [if_neg h, if_neg h']
  refine q8 func28 rfl (fun E hE => ?_); simp only [go_sem, ntmps28]
  repeat' (first | (refine Qr rfl ?_; try intro _ hK; try simp only [go_sem, *]) | (refine Qi rfl rfl rfl rfl ?_ ?_ <;> (intro hb; (try intro _ hK); have hc := hb; try simp only [go_sem] at hc; simp only [go_sem, *])) | refine Qh rfl ?_ | refine Qd rfl (by kernel_rfl) ?_ | (refine Qc rfl rfl ?_ ?_ <;> (intro hb; have hc := hb; try simp only [go_sem] at hc)) | refine q6 rfl ?_ | (refine Qb ?_ ?_; focus kernel_rfl) | ((with_reducible apply And.intro); focus omega) | (refine z8 hK ?_; clear hK; simp only [go_sem, *]) | simp only [z6, z7, go_sem, *])
  · (refine ⟨[_], [], [], ⟨rfl, trivial⟩, ?_⟩; simp only [go_sem, *])
    rw [e0 (by omega)]
  · (refine ⟨[_], [], [], ⟨rfl, trivial⟩, ?_⟩; simp only [go_sem, *])
    rw [e1 (by omega) (by omega)]
  · have e3 := e2 (by omega) (by omega)
    clear e0 e1 e2
    refine u3 rfl (p.length) (fun i => j3 (p.drop i) = j3 p) 56 (fun i => [(3, iV i), (1, .ptr 0 0)]) (fun i => [.box [.list (p.map y7)]]) [some 0] [] (by simp) ?_; intro i hi hP
    repeat' (first | (refine Qr rfl ?_; try intro _ hK; try simp only [go_sem, *]) | (refine Qi rfl rfl rfl rfl ?_ ?_ <;> (intro hb; (try intro _ hK); have hc := hb; try simp only [go_sem] at hc; simp only [go_sem, *])) | refine Qh rfl ?_ | refine Qd rfl (by kernel_rfl) ?_ | (refine Qc rfl rfl ?_ ?_ <;> (intro hb; have hc := hb; try simp only [go_sem] at hc)) | refine q6 rfl ?_ | (refine Qb ?_ ?_; focus kernel_rfl) | ((with_reducible apply And.intro); focus omega) | (refine z8 hK ?_; clear hK; simp only [go_sem, *]) | simp only [z6, z7, go_sem, *])
    · (refine ⟨[_], [], [], ⟨rfl, trivial⟩, ?_⟩; simp only [go_sem, *])
      rw [← hP, zCm (by omega), if_pos (by omega)]
    · have hl : (p.getD i default).length ≤ 8 := by omega
      have hi' : i < p.length := by omega
      rw [zCm hi', if_neg (by omega)] at hP
      generalize hll : p.getD i default = l at *
      refine u3 rfl (l.length) (fun k => p4 (N8 l k) (l.drop k) = p4 none l) 56 (fun k => [(5, iV k), (4, y7 l), (3, iV i), (1, .ptr 0 0)]) (fun k => [.box [.list (p.map y7)]]) [some 0] [] (by simp [N8]) ?_; intro k hk hK
      have hw : 0 < k → IntKind.i64.wrap ((k : Int) - 1) = ((k - 1 : Nat) : Int) := fun h => by rw [wrap_i64 (by omega) (by omega)]; omega
      have hk1 : k < l.length → k - 1 < l.length := fun h => by omega
      have hstep : ∀ h : k < l.length, _ := fun h => zEC h (N8 l k) rfl
      repeat' (first | (refine Qr rfl ?_; try intro _ hK; try simp only [go_sem, *]) | (refine Qi rfl rfl rfl rfl ?_ ?_ <;> (intro hb; (try intro _ hK); have hc := hb; try simp only [go_sem] at hc; simp only [go_sem, *])) | refine Qh rfl ?_ | refine Qd rfl (by kernel_rfl) ?_ | (refine Qc rfl rfl ?_ ?_ <;> (intro hb; have hc := hb; try simp only [go_sem] at hc)) | refine q6 rfl ?_ | (refine Qb ?_ ?_; focus kernel_rfl) | ((first | refine y4 (zLU _) ?_ | refine y4 (zHE _ _) ?_); simp only [go_sem, *]) | ((with_reducible apply And.intro); focus omega) | (refine z8 hK ?_; clear hK; simp only [go_sem, *]) | simp only [z6, z7, go_sem, *])
      · (refine ⟨[_], [], [], ⟨rfl, trivial⟩, ?_⟩; simp only [go_sem, *])
        rw [hstep (by omega), if_neg (by simp_all)] at hK
        rw [← hK, if_neg (by omega)] at hP
        rw [← hP]
      · (refine ⟨[_], [], [], ⟨rfl, trivial⟩, ?_⟩; simp only [go_sem, *])
        rw [hstep (by omega), if_pos (by assumption), if_neg (by intro h; rcases h with h | h; · omega
                                                                 · simp_all)] at hK
        rw [← hK, if_neg (by omega)] at hP
        rw [← hP]
      · exact u2 (i' := k + 1) [some 0] [] (by rw [← hK, hstep (by omega), if_pos (by assumption), if_pos (.inr (by assumption)), zCh])
      · exact u2 (i' := k + 1) [some 0] [] (by rw [← hK, hstep (by omega), if_pos (by assumption), if_pos (.inl (by omega)), zCh])
      · rw [u7 (by omega)] at hK
        have h0 : p4 none l = 0 := by rw [← hK]; cases N8 l k <;> rfl
        rw [if_pos h0] at hP
        exact u2 (i' := i + 1) [some 0] [] (by exact hP)
    · (refine ⟨[_], [], [], ⟨rfl, trivial⟩, ?_⟩; simp only [go_sem, *])
      rw [← hP, u7 (by omega), j3]
end Go.Abs

namespace Go.Abs
open Go
def zR2 (p : zLo) (l : List Change) : List Change := l.filter fun c => decide (can p c = 0)
def zPk (kind : Int) (p : zLo) (s : Nat) : List Change := (List.range' s (p.length - s)).flatMap fun s => zR2 p (B8 kind p s)
def chK : Nat → zLo → List Change
 | 0, _ => []
 | m + 1, p => zPk (6 - (m : Nat)) p 0 ++ chK m p
def g1 (q : zLo) (p : zLo) (c : Change) : Option (List Change) := (r7 0 (s9 p c) q).map (c :: ·)
def g2 (q : zLo) (p : zLo) (c : Change) : Option (List Change) := (r7 1 (s9 p c) q).map (c :: ·)
end Go.Abs

namespace Go.Abs
open Go
def zNB (xs : List House) : Nat → List House
 | 0 => []
 | p + 1 => if 0 < p ∧ xs.getD p default = xs.getD (p - 1) default then zNB xs p else zNB xs p ++ [xs.getD p default]
theorem zN5 {xs : List House} {p : Nat} (h : 0 < p) (e : xs.getD p default = xs.getD (p - 1) default) : zNB xs (p + 1) = zNB xs p := by rw [zNB, if_pos ⟨h, e⟩]
theorem zOb {xs : List House} {p : Nat} (e : ¬ xs.getD p default = xs.getD (p - 1) default) : zNB xs (p + 1) = zNB xs p ++ [xs.getD p default] := by rw [zNB, if_neg (fun h => e h.2)]
theorem zOa (xs : List House) : ∀ p, (zNB xs p).length ≤ p
 | 0 => Nat.le_refl _
 | p + 1 => by
  have := zOa xs p
  rw [zNB]
  split
  ·omega
  ·simp; omega
def zNm (xs : List House) (p : Nat) : Prop := ∀ j, 0 < j → j < p → ¬ xs.getD j default = xs.getD (j - 1) default
theorem zN4 {xs : List House} : ∀ {p : Nat}, p ≤ xs.length → zNm xs p → zNB xs p = xs.take p
 | 0, _, _ => rfl
 | p + 1, hp, h => by
  have ih := zN4 (p := p) (by omega) (fun j h0 hj => h j h0 (by omega))
  rw [zDR (by omega), ← ih, zNB]
  rw [if_neg (fun hh => h p hh.1 (by omega) hh.2)]
theorem zOc {xs : List House} (hs : xs.Pairwise fun a b => ¬ b.lt a = true) : ∀ p, p ≤ xs.length → Strict (zNB xs p) ∧ ∀ z, z ∈ zNB xs p ↔ z ∈ xs.take p
 | 0, _ => ⟨List.Pairwise.nil, fun z => by simp [zNB]⟩
 | p + 1, hp => by
  obtain ⟨h1, h2⟩ := zOc hs p (by omega)
  have hle : ∀ i j, i < j → j < xs.length → ¬ (xs.getD j default).lt (xs.getD i default) = true := fun i j hij hj => by
   have := List.pairwise_iff_getElem.1 hs i j (by omega) hj hij
   simpa [List.getD, hj, show i < xs.length by omega] using this
  rw [zDR (by omega), zNB]
  by_cases c : 0 < p ∧ xs.getD p default = xs.getD (p - 1) default
  ·rw [if_pos c]
   refine ⟨h1, fun z => ?_⟩
   rw [h2, List.mem_append, List.mem_singleton]
   constructor
   ·exact .inl
   ·rintro (h | rfl)
    ·exact h
    ·rw [c.2]
     exact List.mem_take_iff_getElem.2 ⟨p - 1, by omega, by simp [List.getD, show p - 1 < xs.length by omega]⟩
  ·rw [if_neg c]
   refine ⟨?_, fun z => by rw [List.mem_append, List.mem_append, h2]⟩
   refine List.pairwise_append.2 ⟨h1, List.pairwise_singleton _ _, fun a ha b hb => ?_⟩
   rw [List.mem_singleton.1 hb]
   rw [h2] at ha
   obtain ⟨i, hi, rfl⟩ := List.mem_take_iff_getElem.1 ha
   have hi' : i < p := by omega
   have hiL : i < xs.length := by omega
   have e1 : xs[i] = xs.getD i default := by simp [List.getD, hiL]
   rw [e1]
   -- the neighbour ahead is not greater than the new one, and not it
   have g1 := hle (p - 1) p (by omega) (by omega)
   have g2 : ¬ xs.getD p default = xs.getD (p - 1) default := fun e => c ⟨by omega, e⟩
   have g3 : (xs.getD (p - 1) default).lt (xs.getD p default) = true := by
    rcases House.lt_tri (xs.getD (p - 1) default) (xs.getD p default) with h | h | h
    ·exact h
    ·exact absurd h.symm g2
    ·exact absurd h g1
   by_cases e : i = p - 1
   ·rw [e]; exact g3
   ·have g4 := hle i (p - 1) (by omega) (by omega)
    rcases House.lt_tri (xs.getD i default) (xs.getD (p - 1) default) with h | h | h
    ·exact House.lt_trans h g3
    ·rw [h]; exact g3
    ·exact absurd h g4
end Go.Abs

namespace Go.Abs
open Go
theorem zNq {α β : Type} (f : α → List β) (k : Nat) : ∀ (l : List α), (∀ x, x ∈ l → (f x).length ≤ k) → (l.flatMap f).length ≤ l.length * k
 | [], _ => Nat.zero_le _
 | x :: r, h => by
  have h1 := h x (by simp)
  have h2 := zNq f k r (fun y hy => h y (by simp [hy]))
  rw [List.flatMap_cons, List.length_append, List.length_cons, Nat.add_mul]
  omega
def zNP (s : Story) (h : House) : List House := if M6 s h = 0 then zA0 s h else []
def zNE (s : Story) (h : House) : List House := (r5 s).flatMap fun t => (q9 s.first).filter fun x => decide (h ∈ t.now x)
def zNZ (s : Story) (h : House) : Int := if r9 s = 0 then if r5 s = [] then 11 else if zNE s h = [] then 3 else 0 else r9 s
def zNO (s : Story) (h : House) : List House := if r9 s = 0 then if r5 s = [] then [] else s6 (zNE s h) else []
def zNH (s : Story) (h to : House) : Nat := (r5 s).countP fun t => decide (to ∈ t.now h)
def zNk (n all : Nat) : Int := if n = 0 then 2 else if n = all then 1 else 3
def zNl (s : Story) (h to : House) : Int := if M6 s h = 0 then zNk (zNH s h to) (r5 s).length else 0
theorem zOQ {s : Story} {h : House} (he : M6 s h = 0) : r9 s = 0 ∧ h ∈ q9 s.first ∧ r5 s ≠ [] := by
 unfold M6 at he
 by_cases h1 : r9 s = 0
 ·rw [if_pos h1] at he
  by_cases h2 : h ∈ q9 s.first
  ·rw [if_pos h2] at he
   refine ⟨h1, h2, fun e => ?_⟩
   rw [if_pos e] at he; omega
  ·rw [if_neg h2] at he; omega
 ·rw [if_neg h1] at he; exact absurd he h1
theorem zO4 : s6 [] = [] := rfl
end Go.Abs

namespace Go.Abs
open Go
def Few (s : Story) (t : Truth) : Prop := ∀ h, h ∈ q9 s.first → (t.now h).length ≤ 1 + t.ways.length
theorem zNh (l : List House) : (s6 l).length ≤ l.length := N2 (R3 l).nodup (fun _ hx => mem_sortH.1 hx)
def zR4 (s : Story) (f : Fact) : Story := ⟨s.first, s.steps, s.facts ++ [f]⟩
end Go.Abs

namespace Go.Proofs
open Go.Shelf
def Tryz.sortPlace_ren : Go.Shelf.Ren := ⟨fun | 6 => 135 | 15 => 154 | 14 => 159 | 28 => 184 | 29 => 185 | 20 => 186 | 21 => 187 | 22 => 188 | 23 => 189 | 24 => 190 | 25 => 191 | 26 => 192 | 27 => 193 | 46 => 205 | 47 => 201 | 48 => 202 | 49 => 206 | 50 => 207 | 57 => 209 | n => n, fun | 22 => 50 | 24 => 57 | 25 => 169 | 3 => 3 | 39 => 129 | 0 => 0 | 53 => 209 | 55 => 113 | 4 => 4 | 46 => 202 | 45 => 201 | 50 => 206 | 5 => 5 | 9 => 9 | 66 => 222 | 70 => 225 | 76 => 229 | 77 => 230 | n => n, fun | n => n⟩
theorem Tryz.sortPlace : Go.Proofs.SlLaysF0.n6 Tryz.prog Tryz.sortPlace_ren := {
 mixed := by kernel_rfl
 f6 := ⟨Tryz.f135.name, by decide, Tryz.func135.trans (congrArg some (by kernel_rfl))⟩
 f14 := ⟨Tryz.f159.name, by decide, Tryz.func159.trans (congrArg some (by kernel_rfl))⟩
 f15 := Tryz.func154.trans (congrArg some (by kernel_rfl))
 f20 := ⟨Tryz.f186.name, by decide, Tryz.func186.trans (congrArg some (by kernel_rfl))⟩
 f21 := ⟨Tryz.f187.name, by decide, Tryz.func187.trans (congrArg some (by kernel_rfl))⟩
 f22 := ⟨Tryz.f188.name, by decide, Tryz.func188.trans (congrArg some (by kernel_rfl))⟩
 f23 := ⟨Tryz.f189.name, by decide, Tryz.func189.trans (congrArg some (by kernel_rfl))⟩
 f24 := ⟨Tryz.f190.name, by decide, Tryz.func190.trans (congrArg some (by kernel_rfl))⟩
 f25 := ⟨Tryz.f191.name, by decide, Tryz.func191.trans (congrArg some (by kernel_rfl))⟩
 f26 := ⟨Tryz.f192.name, by decide, Tryz.func192.trans (congrArg some (by kernel_rfl))⟩
 f27 := ⟨Tryz.f193.name, by decide, Tryz.func193.trans (congrArg some (by kernel_rfl))⟩
 f28 := Tryz.func184.trans (congrArg some (by kernel_rfl))
 f29 := Tryz.func185.trans (congrArg some (by kernel_rfl))
 f46 := ⟨Tryz.f205.name, by decide, Tryz.func205.trans (congrArg some (by kernel_rfl))⟩
 f47 := Tryz.func201.trans (congrArg some (by kernel_rfl))
 f48 := Tryz.func202.trans (congrArg some (by kernel_rfl))
 f49 := ⟨Tryz.f206.name, by decide, Tryz.func206.trans (congrArg some (by kernel_rfl))⟩
 f50 := ⟨Tryz.f207.name, by decide, Tryz.func207.trans (congrArg some (by kernel_rfl))⟩
 f57 := ⟨Tryz.f209.name, by decide, Tryz.func209.trans (congrArg some (by kernel_rfl))⟩
 t0 := Tryz.underlying0
 a0 := Tryz.isAgg0
 z0 := Tryz.sizeOf0
 v0 := Tryz.zeroValue0
 t3 := Tryz.underlying3
 a3 := Tryz.isAgg3
 z3 := Tryz.sizeOf3
 v3 := Tryz.zeroValue3
 t4 := Tryz.underlying4
 a4 := Tryz.isAgg4
 z4 := Tryz.sizeOf4
 v4 := Tryz.zeroValue4
 t5 := Tryz.underlying5
 a5 := Tryz.isAgg5
 z5 := Tryz.sizeOf5
 v5 := Tryz.zeroValue5
 t9 := Tryz.underlying9
 a9 := Tryz.isAgg9
 z9 := Tryz.sizeOf9
 v9 := Tryz.zeroValue9
 t22 := Tryz.underlying50
 a22 := Tryz.isAgg50
 z22 := Tryz.sizeOf50
 v22 := Tryz.zeroValue50
 t25 := Tryz.underlying169
 a25 := Tryz.isAgg169
 z25 := Tryz.sizeOf169
 v25 := Tryz.zeroValue169
 t39 := Tryz.underlying129
 a39 := Tryz.isAgg129
 z39 := Tryz.sizeOf129
 v39 := Tryz.zeroValue129
 t45 := Tryz.underlying201
 a45 := Tryz.isAgg201
 z45 := Tryz.sizeOf201
 v45 := Tryz.zeroValue201
 t46 := Tryz.underlying202
 a46 := Tryz.isAgg202
 z46 := Tryz.sizeOf202
 v46 := Tryz.zeroValue202
 t50 := Tryz.underlying206
 a50 := Tryz.isAgg206
 z50 := Tryz.sizeOf206
 v50 := Tryz.zeroValue206
 t53 := Tryz.underlying209
 a53 := Tryz.isAgg209
 z53 := Tryz.sizeOf209
 v53 := Tryz.zeroValue209
 t55 := Tryz.underlying113
 a55 := Tryz.isAgg113
 z55 := Tryz.sizeOf113
 v55 := Tryz.zeroValue113
 t66 := Tryz.underlying222
 a66 := Tryz.isAgg222
 z66 := Tryz.sizeOf222
 v66 := Tryz.zeroValue222
 t70 := Tryz.underlying225
 a70 := Tryz.isAgg225
 z70 := Tryz.sizeOf225
 v70 := Tryz.zeroValue225
 t76 := Tryz.underlying229
 a76 := Tryz.isAgg229
 z76 := Tryz.sizeOf229
 v76 := Tryz.zeroValue229
 t77 := Tryz.underlying230
 a77 := Tryz.isAgg230
 z77 := Tryz.sizeOf230
 v77 := Tryz.zeroValue230 }
end Go.Proofs

namespace Go.Abs
open Go Go.Proofs Go.Sort
theorem SR.grown {E : Env} {I : Nat → Prop} {loc : Nat → Loc} {σ : AS} {a : Act} {w w' : World} (h : SR E I loc σ a w) (ho : w'.os = w.os) (ht : w'.tape = w.tape) (hu : w'.output = w.output) (hz : w.heap.size ≤ w'.heap.size)
  (hk : ∀ k, k < w.heap.size → w'.heap[k]? = w.heap[k]?) (hd : w.drawn ≤ w'.drawn) : SR E I loc σ a w' := by
 have hI : ∀ b, I b → w'.heap[b]? = w.heap[b]? := fun b hb => hk b (h.imm b hb)
 exact ⟨h.defers.imp (fun r g1 g2 g3 g4 => ⟨by rw [hk r (Array.getElem?_eq_some_iff.1 g1).1]; exact g1, g2, g3, g4⟩), h.size, fun t => (h.tmps t).mono hI (fun _ x => x) (fun _ _ => rfl),
  fun o => (h.objs o).mono hI (fun _ x => x) (fun _ _ => rfl) (fun e => h.un e) (fun hl b c hb => hk b ((h.objs o).lt hl hb)), h.inj, fun b hb => by have := h.imm b hb; omega, h.sep,
  h.fr.of_same ho ht hu hz (fun b hb _ => hk b (by have := h.fr.size; omega)) hd, h.base, h.top, h.keep⟩
def zM9 (h : House) : List Value := [.int .i64 h.street, .int .i64 h.plate.number, .int .i64 h.plate.letter]
theorem zOY (h : House) : h.enc.cells = (zM9 h).map AV.raw := rfl
theorem zPj (h : House) : ∀ j, j < 3 → ((zM9 h).getD j undef).oneCell' = true
 | 0, _ => rfl
 | 1, _ => rfl
 | 2, _ => rfl
 | j + 3, h => by omega
theorem zR0 (d : List House) {t : Nat} (h : t < d.length * 3) : (flatK zM9 3 d.toArray)[t]! = (zM9 (d.getD (t / 3) default)).getD (t % 3) undef := by
 rw [get_flatK _ _ _ _ (by simpa using h)]
 have h1 : t / 3 < d.length := by omega
 have h2 : t % 3 < 3 := by omega
 have e : d.toArray[t / 3]! = d.getD (t / 3) default := by simp [List.getD, h1]
 rw [e]
 rw [getElem!_pos _ _ (by simpa [zM9] using h2)]
 simp [List.getD, zM9, h2]
theorem zQ4 {P : Program} {f : FuncId} {fn : Value} (le : House → House → Bool)
  (hsome : ∀ (blk cap : Nat) (d : Array House) (w : World), HoldsK zM9 3 w blk 0 d → blk < w.heap.size → d.size < 4611686018427387904 →
   Calls P f #[.slice (some ⟨blk, 0, none⟩) d.size cap, fn] w fun e w' => e = .returned (.tuple #[]) ∧ ∃ n os, w' = sortWorldK zM9 3 w blk 0 n (d.toList.mergeSort le).toArray os)
  (hnone : ∀ (p : Option Addr) (cap : Nat) (w : World), Calls P f #[.slice p 0 cap, fn] w fun e w' => e = .returned (.tuple #[]) ∧ w' = w)
  (l : List House) (hl : l.length < 4611686018427387904) :
  zLp P f [.own 0 3 0 l.length, .raw fn] [.row 3 (l.map House.enc)] (.tup []) [.row 3 ((l.mergeSort le).map House.enc)] := by
 intro w I loc vs hs hv hargs
 obtain ⟨v0, v1, rfl⟩ : ∃ v0 v1, vs = #[v0, v1] := by
  have h2 : vs.size = 2 := hv
  exact ⟨vs[0], vs[1], by apply Array.ext <;> simp [h2]; intro i hi _; match i, hi with | 0, _ => rfl | 1, _ => rfl⟩
 have h0 := hargs 0 (by simp) (by simp)
 have h1 := (hargs 1 (by simp) (by simp)).raw_eq
 simp only [List.getElem_cons_zero, List.getElem_toArray] at h0
 simp only [List.getElem_toArray, List.getElem_cons_succ, List.getElem_cons_zero] at h1
 subst h1
 by_cases hl0 : l = []
 ·subst hl0
  obtain ⟨p, cap, rfl⟩ : ∃ p cap, v0 = .slice p 0 cap := by
   cases h0 with
   | pure h => cases h
   | ownN o sz h => exact ⟨_, _, rfl⟩
   | own o sz off len b c a cap => exact ⟨_, _, rfl⟩
  refine (hnone p cap w).mono ?_
  rintro e w' ⟨rfl, rfl⟩
  exact ⟨_, I, loc, rfl, ⟨by simpa using hs, .tup [] #[] rfl (fun i h => by cases h), by simp⟩⟩
 ·have hpos : 0 < l.length := List.length_pos_iff.2 hl0
  generalize hn : l.length = n at h0
  cases h0 with
  | pure h => cases h
  | ownN o sz h => omega
  | own o sz off len b c a cap hb hcap hcs ha =>
   have ha := ha (by omega)
   subst ha
   subst hn
   have hO : OR w I loc 0 (.row 3 (l.map House.enc)) := hs.objs 0
   obtain ⟨_, _, hO⟩ := hO
   rcases hO with ⟨hn, _⟩ | ⟨b', C, e, hb', hh, hsz, hcell⟩
   ·rw [hb] at hn; cases hn
   rw [hb] at hb'
   injection hb' with hb1 hb2
   subst hb1 hb2
   rw [List.length_map] at hsz
   have hblk : b < w.heap.size := (Array.getElem?_eq_some_iff.1 hh).1
   have key : ∀ t, t < l.length * 3 → C[t]? = some ((zM9 (l.getD (t / 3) default)).getD (t % 3) undef) := fun t ht => by
    have i1 : t / 3 < l.length := by omega
    have i2 : t % 3 < 3 := by omega
    have i3 : t / 3 * 3 + t % 3 = t := by omega
    have hp := hcell (t / 3) (by simpa using i1) (t % 3) (by simp [AV.cells]; exact i2) (by rw [i3]; omega)
    have e1 : ((l.map House.enc)[t / 3]'(by simpa using i1)).cells = (zM9 (l.getD (t / 3) default)).map AV.raw := by
     rw [List.getElem_map, zOY]; simp [List.getD, i1]
    have e2 : (((l.map House.enc)[t / 3]'(by simpa using i1)).cells[t % 3]'(by rw [e1]; simpa [zM9] using i2)) = .raw ((zM9 (l.getD (t / 3) default)).getD (t % 3) undef) := by
     simp only [e1]
     rw [List.getElem_map]
     simp [List.getD, zM9, i2]
    rw [e2] at hp
    have := (VR.pure (loc := loc) hp).raw_eq
    simp only [i3] at this
    rw [Array.getElem?_eq_getElem (by omega), this]
   have hH : HoldsK zM9 3 w b 0 l.toArray := fun j hj => by
    have hj' : j < l.length * 3 := by simpa using hj
    refine ⟨?_, ?_⟩
    ·simp only [World.cell?, hh, Nat.zero_add, key j hj', id, zR0 l hj']; rfl
    ·simp [World.frozen?, hh]
   refine (hsome b cap l.toArray w hH hblk (by simpa using hl)).mono ?_
   rintro e' w' ⟨rfl, n, os, rfl⟩
   simp only [List.toList_toArray]
   have hpm : (l.mergeSort le).length = l.length := List.length_mergeSort l
   generalize l.mergeSort le = d at *
   have hF : (flatK zM9 3 d.toArray).size = l.length * 3 := by simp [hpm]
   obtain ⟨F, hFe⟩ : ∃ F, F = flatK zM9 3 d.toArray := ⟨_, rfl⟩
   have hw1 : (putRowK zM9 3 (Sort.ahead w n) b 0 d.toArray).heap[b]? = some (.cells (putCells id 0 F C) e (0, 0)) := by
    unfold putRowK putRow mapBlock
    rw [hFe]
    simp [Sort.ahead, Array.getElem?_modify, hh, onCells]
   have hsr : SR (Y7 w I 1 loc) I loc ((Go.Abs.hs [.row 3 (l.map House.enc)]).setO 0 (.row 3 (d.map House.enc))) J3 (putRowK zM9 3 (Sort.ahead w n) b 0 d.toArray) := by
    refine SR.writeG (w' := putRowK zM9 3 (Sort.ahead w n) b 0 d.toArray) (A := .row 3 (d.map House.enc)) hs (by rfl) hb rfl rfl rfl (by simp [putRowK, Sort.ahead]) (fun k hk => ?_) ?_ (by simp) (Nat.le_add_right _ _)
    ·unfold putRowK putRow mapBlock
     simp [Sort.ahead, Array.getElem?_modify, Ne.symm hk]
    ·refine ⟨by omega, fun i hi => by simp [AV.cells], .inr ⟨b, putCells id 0 F C, e, ?_, hw1, ?_, fun i hi j hj hij => ?_⟩⟩
     ·rw [hb]; simp [putCells]
     ·simp only [putCells, Array.size_mapIdx, List.length_map]; omega
     ·have hi' : i < d.length := by simpa using hi
      have hj' : j < 3 := by simpa [AV.cells] using hj
      have ht : i * 3 + j < d.length * 3 := by omega
      have e1 : ((d.map House.enc)[i]).cells = (zM9 (d.getD i default)).map AV.raw := by
       rw [List.getElem_map, zOY]; simp [List.getD, hi']
      have e2 : ((d.map House.enc)[i]).cells[j] = .raw ((zM9 (d.getD i default)).getD j undef) := by
       simp only [e1]
       rw [List.getElem_map]
       simp [List.getD, zM9, hj']
      have e3 : (putCells id 0 F C)[i * 3 + j] = (zM9 (d.getD i default)).getD j undef := by
       simp only [putCells, Array.getElem_mapIdx]
       rw [if_pos ⟨Nat.zero_le _, by rw [hFe, hF]; omega⟩, Nat.sub_zero, hFe, id, zR0 d ht]
       rw [show (i * 3 + j) / 3 = i by omega, show (i * 3 + j) % 3 = j by omega]
      rw [e2, e3]
      exact .raw _ (zPj _ _ hj')
   have hsr2 := hsr.grown (w' := sortWorldK zM9 3 w b 0 n d.toArray os) rfl rfl rfl (by simp [sortWorldK]) (fun k hk => heap_grow_old _ _ hk) (Nat.le_refl _)
   refine ⟨_, I, loc, rfl, ⟨hsr2.congr rfl (fun t => rfl) (fun o => ?_), .tup [] #[] rfl (fun i h => by cases h), by simp⟩⟩
   rw [AS.obj_setO]
   by_cases ho : 0 = o
   ·subst ho; rfl
   ·rw [if_neg ho]
    simp [Go.Abs.hs, zLy, AS.obj, lkO, ho]
end Go.Abs

namespace Go.Abs
open Go
section
variable {P : Program} {E : Env} {I : Nat → Prop} {loc : Nat → Loc} {σ : AS} {a : Act} {w : World}
theorem zPm (hs : SR E I loc σ a w) {x : Operand} {t et ty : TypeId} {z : Value} {sz : Nat} (ht : P.underlying t = some (.slice et)) (hz : ∀ w, (zeroValue et).run P w = .ok z w) (hzc : z.cells.size = sz) (hz1 : ∀ i (h : i < z.cells.size), (z.cells[i]).oneCell' = true)
  {oid off len : Nat} {xs : List AV} (hx : σ.ev x = .own oid sz off len) (hA : σ.obj oid = .row sz xs) (hlen : off + len = xs.length) (hpos : 0 < len) :
  ∃ w', (Builtin.clear_ #[t] ty #[a.eval x]).run P w = .ok (.tuple #[]) w' ∧ SR E I loc (σ.setO oid (.row sz (xs.take off))) a w' := by
 have hv := hs.ev x
 rw [hx] at hv
 have hlive : (σ.obj oid).live = true := by rw [hA]; rfl
 have hO : OR w I loc oid (.row sz xs) := by rw [← hA]; exact hs.objs oid
 generalize a.eval x = v at hv
 cases hv with
 | pure hp => cases hp
 | ownN o sz h => omega
 | own o sz off len b c ad cap hb hcap hcs ha =>
  obtain ⟨h0, hxl, hO⟩ := hO
  rcases hO with ⟨hn, _⟩ | ⟨b', C, e, hb', hC, hsz, hcell⟩
  ·rw [hb] at hn; cases hn
  rw [hb] at hb'
  injection hb' with hb1 hb2
  subst hb1 hb2
  have had := ha (by omega)
  subst had
  obtain ⟨us, hus⟩ : ∃ us, us = Builtin.zeroCells z.cells len := ⟨_, rfl⟩
  have husz : us.size = len * sz := by rw [hus]; simp [Builtin.zeroCells, hzc]
  have hus1 : ∀ v, v ∈ us.toList → v.oneCell' = true := fun v hv => by
   rw [hus] at hv
   simp only [Builtin.zeroCells, Array.toList_map, List.mem_map] at hv
   obtain ⟨i, _, rfl⟩ := hv
   have hi : i % z.cells.size < z.cells.size := Nat.mod_lt _ (by omega)
   rw [getElem!_pos z.cells _ hi]
   exact hz1 _ hi
  have hfit : off * sz + us.size ≤ C.size := by
   rw [husz, ← Nat.add_mul, hlen]; exact hsz
  have hst := run_storeCells_at P b (off * sz) e us.toList 0 C w hC (by simpa using hfit) hus1
  have hspl : (C.toList.take (off * sz + 0) ++ us.toList ++ C.toList.drop (off * sz + 0 + us.toList.length)).toArray = spl C (off * sz) us := by simp [spl]
  rw [hspl] at hst
  obtain ⟨m, rfl⟩ : ∃ m, len = m + 1 := ⟨len - 1, by omega⟩
  refine ⟨w.setRow b (spl C (off * sz) us), ?_, ?_⟩
  ·rw [hus] at hst ⊢
   simp [Builtin.clear_, run_underlying ht, hz, hst]
  ·have hsep := hs.sep oid b C.size hlive hb
   refine hs.write hlive hb hC (A := .row sz (xs.take off)) ⟨h0, fun i hi => ?_, .inr ⟨b, spl C (off * sz) us, e, by rw [o9 hfit]; exact hb, setRow_heap w b C _ e _ hC, ?_, fun i hi j hj hij => ?_⟩⟩ (by simp)
   ·rw [List.getElem_take]; exact hxl _ _
   ·rw [o9 hfit, List.length_take]
    exact Nat.le_trans (Nat.mul_le_mul_right _ (by omega)) hsz
   ·have hi' : i < off := by simp at hi; omega
    have hi2 : i < xs.length := by omega
    have e1 : ((xs.take off)[i]'hi) = xs[i] := List.getElem_take
    have hj' : j < (xs[i]).cells.length := by rw [← e1]; exact hj
    have hjs : j < sz := by rw [← hxl i hi2]; exact hj'
    have hlt : i * sz + j < off * sz := by
     have := Nat.mul_le_mul_right sz (show i + 1 ≤ off by omega)
     rw [Nat.add_mul, Nat.one_mul] at this
     omega
    have hijC : i * sz + j < C.size := by omega
    have e2 : ((xs.take off)[i]'hi).cells[j] = (xs[i]).cells[j] := by congr 2
    rw [e2, K3 hfit _ hij hijC, dif_neg (by omega)]
    exact (hcell i hi2 j hj' hijC).mono (fun k hk => setRow_other w b k _ (fun e => hsep.1 (e ▸ hk))) (fun _ x => x)
theorem zPz {Q : Exit → AS → Prop} {id : Nat} {pre : List Oper} {o : Oper} {x : Operand} {t et : TypeId} {z : Value} (sz : Nat) (hop : o.op = .call ⟨.builtin .clear, #[x], #[t]⟩) (hg : o.guard = none) (hdst : o.dst = none)
  (ht : P.underlying t = some (.slice et)) (hz : ∀ w, (zeroValue et).run P w = .ok z w) (hzc : z.cells.size = sz) (hz1 : ∀ i (h : i < z.cells.size), (z.cells[i]).oneCell' = true)
  (h : y6 P (pre ++ [o]) (fun σ1 _ => ∃ oid off len xs, σ1.ev x = .own oid sz off len ∧ σ1.obj oid = .row sz xs ∧ off + len = xs.length ∧ 0 < len ∧ Q .normal (σ1.setO oid (.row sz (xs.take off)))) pre σ []) : Hold P E (.region id (pre ++ [o]).toArray false) Q σ := fun a w hs => by
 refine wpIn_wide.1 (wpIn_region_list (n := 0) ?_)
 refine E8 (post := [o]) ?_ pre σ [] a w h hs
 rintro σ1 ts1 a1 w1 ⟨oid, off, len, xs, h1, h2, h3, h4, hq⟩ ⟨I1, loc1, hs1⟩
 unfold wpListIn
 rw [if_pos (by simp [Region.wanted, hg])]
 obtain ⟨w', hr, hsr⟩ := zPm (ty := o.type) hs1 ht hz hzc hz1 h1 h2 h3 h4
 refine zM4 (M7 (x := .tuple #[]) (w' := w') ?_ ?_)
 ·simp only [execOp, hop, resolve, Sem.run_bind, Sem.run_pure, Result.andThen_ok, invoke]
  simp [builtin, hr]
 ·rw [hdst]
  exact ⟨_, hq, I1, loc1, hsr⟩
end
end Go.Abs

namespace Go.Abs
open Go Go.Proofs Go.Sort
abbrev zRx (w : World) : Nat → Prop := fun b => b < w.heap.size
theorem zPa (w : World) : SR (Y7 w (zRx w) 0 (fun _ => .un)) (zRx w) (fun _ => .un) (hs []) J3 w :=
 ⟨.nil, rfl, fun t => .pure (.any _), fun o => rfl, fun o o' b c c' h => by simp [hs, zLy, AS.obj, lkO, AObj.live] at h, fun b hb => hb, fun o b c h => by simp [hs, zLy, AS.obj, lkO, AObj.live] at h,
  ⟨rfl, rfl, rfl, Nat.le_refl _, fun b _ _ => rfl, Nat.le_refl _⟩, fun b hb => hb, fun b hb => .inl hb, fun k hk => absurd hk (Nat.not_lt_zero k)⟩
theorem zPe {P : Program} {f : FuncId} {args : List AV} {r : Value} (sp : zLp P f args [] (.raw r) []) (w : World) (vs : Array Value) (hl : vs.size = args.length) (hv : ∀ i (h : i < args.length) (h' : i < vs.size), PR w (zRx w) args[i] vs[i]) :
  Calls P f vs w fun e w' => e = .returned r ∧ ∃ q os', w' = grow (w.drewN q) os' := by
 refine (sp w (zRx w) (fun _ => .un) vs (zPa w) hl (fun i h h' => .pure (hv i h h'))).mono ?_
 rintro e w' ⟨v, I', loc', rfl, hp⟩
 have hr := hp.val.raw_eq
 subst hr
 have fr := hp.sr.fr
 refine ⟨rfl, w'.drawn - w.drawn, w'.heap.extract w.heap.size w'.heap.size, ?_⟩
 have h1 : w'.os = w.os := fr.os
 have h2 : w'.tape = w.tape := fr.tape
 have h3 : w'.output = w.output := fr.output
 have h4 : w.heap.size ≤ w'.heap.size := fr.size
 have h5 : ∀ k, k < w.heap.size → w'.heap[k]? = w.heap[k]? := fun k hk => fr.block k hk (fun ⟨j, c, hj, _⟩ => absurd hj (Nat.not_lt_zero j))
 have h6 : w.drawn ≤ w'.drawn := fr.drawn
 have h7 : w'.heap = w.heap ++ w'.heap.extract w.heap.size w'.heap.size := by
  apply Array.ext
  ·simp; omega
  ·intro i hi1 hi2
   by_cases hi : i < w.heap.size
   ·have := h5 i hi
    rw [Array.getElem?_eq_getElem hi1, Array.getElem?_eq_getElem hi] at this
    rw [Array.getElem_append_left hi]
    exact Option.some.inj this
   ·rw [Array.getElem_append_right (by omega), Array.getElem_extract]
    congr 1
    omega
 cases w' with
 | mk heap tape drawn os output =>
  simp only at h1 h2 h3 h4 h6 h7
  subst h1 h2 h3
  have h8 : w.drawn + (drawn - w.drawn) = drawn := by omega
  show _ = ({ heap := w.heap ++ _, tape := w.tape, drawn := w.drawn + (drawn - w.drawn), os := w.os, output := w.output } : World)
  rw [h8, ← h7]
theorem zOu (w : World) (I : Nat → Prop) (x : House) : PR w I x.enc (.agg (zM9 x).toArray) := by
 refine .agg _ _ rfl (fun i h h' => ?_)
 match i, h with
 | 0, _ => exact .raw _ rfl
 | 1, _ => exact .raw _ rfl
 | 2, _ => exact .raw _ rfl
 | i + 3, h => exact absurd h (by show ¬ i + 3 < 3; omega)
theorem zQO (blk off size : Nat) (w : World) : CmpLays Tryz.prog 136 #[] zM9 3 zME blk off size w := fun m os dk _ x y => by
 refine zPe (zHe x y) _ #[.agg (zM9 x).toArray, .agg (zM9 y).toArray] rfl (fun i h h' => ?_)
 match i, h with
 | 0, _ => exact zOu _ _ x
 | 1, _ => exact zOu _ _ y
 | i + 2, h => exact absurd h (by show ¬ i + 2 < 2; omega)
theorem zOs (x y : House) : ltOf zME x y = true ↔ x.lt y = true := by
 unfold ltOf
 rw [decide_eq_true_eq, A0]
theorem zNf (x y : House) : ltOf zME x y = false ↔ ¬ x.lt y = true := by
 rw [← zOs]; cases ltOf zME x y <;> simp
theorem zQ9 : SWO (ltOf zME) where
 irrefl x := by rw [zNf, House.lt_iff]; omega
 trans x y z h1 h2 := by rw [zOs, House.lt_iff] at *; omega
 ntrans x y z h1 h2 := by rw [zNf, House.lt_iff] at *; omega
def leH (x y : House) : Bool := !(ltOf zME) y x
theorem zQf (xs : List House) (h : xs.length < 4611686018427387904) :
  zLp Tryz.prog 135 [.own 0 3 0 xs.length, fnV 136] [.row 3 (xs.map House.enc)] (.tup []) [.row 3 ((xs.mergeSort leH).map House.enc)] := by
 have eg : ∀ args w, (callFunc 136 args).run Tryz.prog w = .ok (.enter 136 args) w := fun args w => zAj (by kernel_rfl) args
 refine zQ4 leH (fun blk cap d w hH hblk hsz => ?_) (fun p cap w => AnyF.slices_SortFunc_none Tryz.sortPlace p cap _ w) xs h
 exact AnyQ.slices_SortFunc_total Tryz.sortPlace 3 Tryz.isAgg57 Tryz.sizeOf57 zM9 (fun _ => rfl) (fun x v hv => by simp [zM9] at hv; rcases hv with rfl | rfl | rfl <;> rfl) zME zQ9 136 #[] blk 0 cap d w eg (zQO blk 0 d.size w) hH hblk hsz
  (fun x y h1 h2 => by
   rw [zNf] at h1 h2
   rcases House.lt_tri x y with h | h | h
   ·exact absurd h h1
   ·exact h
   ·exact absurd h h2)
end Go.Abs

namespace Go.Abs
open Go Go.Proofs Tryz
attribute [local irreducible] y6 Hold x8
section
variable {P : Program} {E : Env} {Q : Exit → AS → Prop} {σ : AS} {p : List Nat} {b : Code}
theorem zQU {id : Nat} {ops : List Oper} {o : Oper} {x : Operand} {t et : TypeId} {z : Value} (k sz : Nat) (h : sub p b = .region id ops.toArray false) (hk : ops[k]? = some o) (hl : ops.length = k + 1) (hop : o.op = .call ⟨.builtin .clear, #[x], #[t]⟩) (hg : o.guard = none) (hdst : o.dst = none)
  (ht : P.underlying t = some (.slice et)) (hz : ∀ w, (zeroValue et).run P w = .ok z w) (hzc : z.cells.size = sz) (hz1 : ∀ i (h : i < z.cells.size), (z.cells[i]).oneCell' = true)
  (hx : y6 P ops (fun σ1 _ => ∃ oid off len xs, σ1.ev x = .own oid sz off len ∧ σ1.obj oid = .row sz xs ∧ off + len = xs.length ∧ 0 < len ∧ Q .normal (σ1.setO oid (.row sz (xs.take off)))) (ops.take k) σ []) : Hold P E (sub p b) Q σ := by
 obtain ⟨hlt, he⟩ := List.getElem?_eq_some_iff.1 hk
 have e : ops = ops.take k ++ [o] := by
  rw [← he]
  conv => lhs; rw [← List.take_append_drop k ops, List.drop_eq_getElem_cons hlt, List.drop_of_length_le (by omega)]
 obtain ⟨pre, hpre⟩ : ∃ pre, pre = ops.take k := ⟨_, rfl⟩
 rw [← hpre] at e hx
 rw [h]
 clear h hk he hlt hpre hl
 subst e
 exact zPz sz hop hg hdst ht hz hzc hz1 hx
end
structure CmpTo (xs ys : List House) (p kk : Nat) : Prop where
 len : ys.length = xs.length
 kept : ys.take kk = zNB xs p
 num : (zNB xs p).length = kk
 less : kk < p
 rest : ∀ j, p ≤ j + 1 → j < xs.length → ys.getD j default = xs.getD j default
theorem CmpTo.same {xs ys : List House} {p kk : Nat} (h : CmpTo xs ys p kk) (hp : 0 < p) (e : xs.getD p default = xs.getD (p - 1) default) : CmpTo xs ys (p + 1) kk := by
 obtain ⟨h1, h2, h3, h4, h5⟩ := h
 refine ⟨h1, ?_, ?_, by omega, fun j h6 h7 => h5 j (by omega) h7⟩ <;> rw [zN5 hp e] <;> assumption
theorem CmpTo.new {xs ys : List House} {p kk : Nat} (h : CmpTo xs ys p kk) (hp : p < xs.length) (e : ¬ xs.getD p default = xs.getD (p - 1) default) : CmpTo xs (ys.set kk (xs.getD p default)) (p + 1) (kk + 1) := by
 obtain ⟨h1, h2, h3, h4, h5⟩ := h
 have hkk : kk < ys.length := by omega
 refine ⟨by simpa using h1, ?_, ?_, by omega, fun j h6 h7 => ?_⟩
 ·rw [zOb e, ← h2, List.take_add_one, List.take_set_of_le (Nat.le_refl _)]
  simp [hkk]
 ·rw [zOb e, List.length_append, h3]; rfl
 ·have hne : ¬ kk = j := by omega
  rw [← h5 j (by omega) h7]
  simp [List.getD, List.getElem?_set, hne]
theorem CmpTo.start {xs : List House} {k : Nat} (h0 : 0 < k) (hk : k < xs.length) (ha : zNm xs k) (e : xs.getD k default = xs.getD (k - 1) default) : CmpTo xs xs (k + 1) k := by
 have h1 := zN4 (by omega) ha
 refine ⟨rfl, by rw [zN5 h0 e, h1], by rw [zN5 h0 e, h1]; simp; omega, by omega, fun _ _ _ => rfl⟩
theorem zPi (i : Nat) (h : i < (Value.agg #[.int .i64 0, .int .i64 0, .int .i64 0]).cells.size) : ((Value.agg #[.int .i64 0, .int .i64 0, .int .i64 0]).cells[i]).oneCell' = true := by
 match i, h with
 | 0, _ => rfl
 | 1, _ => rfl
 | 2, _ => rfl
 | i + 3, h => exact absurd h (by show ¬ i + 3 < 3; omega)
theorem zQb (l : List House) (h1 : l.length ≤ 4294967296) :
  zLp prog 137 [.own 0 3 0 l.length] [.row 3 (l.map House.enc)] (.own 0 3 0 (zNB l l.length).length) [.row 3 ((zNB l l.length).map House.enc)] := by
 have hend : ∀ k, l.length ≤ k → zNm l k → zNB l l.length = l := fun k hk ha => by
  rw [zN4 (Nat.le_refl _) (fun j h0 hj => ha j h0 (by omega)), List.take_of_length_le (Nat.le_refl _)]
 by_cases h2 : l.length < 2
 ·have h3 : (l.length : Int) < 2 := by omega
  have hs := hend 1
  refine q8 func137 rfl (fun E hE => ?_); simp only [go_sem, ntmps137]
  rw [show zNB l l.length = l from by
   rcases l with _ | ⟨x, _ | ⟨y, r⟩⟩
   ·rfl
   ·rfl
   ·simp at h2; omega]
  clear hend hs
  repeat' (first | (refine Qr rfl ?_; try intro _ hK; try simp only [go_sem, *]) | refine Qh rfl ?_ | refine Qd rfl (by kernel_rfl) ?_ | (refine Qc rfl rfl ?_ ?_ <;> (intro hb; have hc := hb; try simp only [go_sem] at hc)) | refine q6 rfl ?_ | (refine Qb ?_ ?_; focus kernel_rfl) | ((with_reducible apply And.intro); focus omega) | (refine z8 hK ?_; clear hK; simp only [go_sem, *]) | simp only [z6, z7, go_sem, *])
  all_goals try contradiction
  refine ⟨[_], [some 0], [], ⟨rfl, trivial⟩, ?_⟩
  simp only [go_sem, *]
 have h3 : ¬ (l.length : Int) < 2 := by omega
 obtain ⟨R, hR⟩ : ∃ R, zNB l l.length = R := ⟨_, rfl⟩
 rw [hR] at hend ⊢
 refine q8 func137 rfl (fun E hE => ?_); simp only [go_sem, ntmps137]
 repeat' (first | (refine Qr rfl ?_; try intro _ hK; try simp only [go_sem, *]) | refine Qh rfl ?_ | refine Qd rfl (by kernel_rfl) ?_ | (refine Qc rfl rfl ?_ ?_ <;> (intro hb; have hc := hb; try simp only [go_sem] at hc)) | refine q6 rfl ?_ | (refine Qb ?_ ?_; focus kernel_rfl) | ((with_reducible apply And.intro); focus omega) | (refine z8 hK ?_; clear hK; simp only [go_sem, *]) | simp only [z6, z7, go_sem, *])
 all_goals try contradiction
 refine u4 rfl (l.length - 1) (fun i (k : Nat) => (k ≤ i + 1 ∧ i + 1 ≤ k) ∧ zNm l k) 61 (fun i k => [(3, iV k), (0, .own 0 3 0 l.length)]) (fun i k => [.row 3 (l.map House.enc)]) [some 0] [] (1) (by exact ⟨⟨Nat.le_refl _, Nat.le_refl _⟩, fun j h0 hj => by omega⟩) ?_; intro i k hi hP
 obtain ⟨⟨hk1, hk2⟩, hP⟩ := hP
 have hw : IntKind.i64.wrap ((k : Int) - 1) = ((k - 1 : Nat) : Int) := by rw [wrap_i64 (by omega) (by omega)]; omega
 have hw2 : IntKind.i64.wrap ((k : Int) + 1) = ((k + 1 : Nat) : Int) := by rw [wrap_i64 (by omega) (by omega)]; omega
 by_cases hk : k < l.length
 ·have hk3 : (k : Int) < l.length := by omega
  have hkm : k - 1 < l.length := by omega
  by_cases e : l.getD k default = l.getD (k - 1) default
  ·have e2 : decide (l.getD k default = l.getD (k - 1) default) = true := by simpa using e
   have hS := CmpTo.start (by omega) hk hP e
   clear e hend
   repeat' (first | (refine Qr rfl ?_; try intro _ hK; try simp only [go_sem, *]) | refine Qh rfl ?_ | refine Qd rfl (by kernel_rfl) ?_ | (refine Qc rfl rfl ?_ ?_ <;> (intro hb; have hc := hb; try simp only [go_sem] at hc)) | refine q6 rfl ?_ | (refine Qb ?_ ?_; focus kernel_rfl) | ((with_reducible apply And.intro); focus omega) | (refine z8 hK ?_; clear hK; simp only [go_sem, *]) | simp only [z6, z7, go_sem, *])
   all_goals try contradiction
   clear hP
   refine X7 rfl (fun zn zN zenv zAs => ∃ (j : Nat) (k2 kk : Nat) (ys : List House), zn = (l.length - k - 1) - j ∧ j ≤ (l.length - k - 1) ∧ ((k2 ≤ j + 1 ∧ j + 1 ≤ k2) ∧ CmpTo l ys (k + k2) kk) ∧ zN = 61 ∧ zenv = [(5, iV k2), (4, .own 0 3 k (l.length - k)), (3, iV kk), (0, .own 0 3 0 l.length)] ∧ zAs = [.row 3 (ys.map House.enc)]) (l.length - k - 1) ⟨[some 0], [], _, _, _, (by (simp only [Weak, go_sem, List.map_append, List.map_set, *] <;> (try simp (disch := omega) only [t8]) <;> (try simp) <;> (try omega))), 0, 1, k, l, (by simp), (by simp), (by exact ⟨⟨Nat.le_refl _, Nat.le_refl _⟩, hS⟩), rfl, rfl, rfl⟩ ?_; rintro _ _ _ _ ⟨j, k2, kk, ys, rfl, hj, hQ, rfl, rfl, rfl⟩
   clear hS
   obtain ⟨⟨hj1, hj2⟩, hQ⟩ := hQ
   have hyl := hQ.len
   have hkl := hQ.less
   have hv : IntKind.i64.wrap ((k2 : Int) - 1) = ((k2 - 1 : Nat) : Int) := by rw [wrap_i64 (by omega) (by omega)]; omega
   have hv2 : IntKind.i64.wrap ((k2 : Int) + 1) = ((k2 + 1 : Nat) : Int) := by rw [wrap_i64 (by omega) (by omega)]; omega
   have hv3 : IntKind.i64.wrap ((kk : Int) + 1) = ((kk + 1 : Nat) : Int) := by rw [wrap_i64 (by omega) (by omega)]; omega
   by_cases hp : k + k2 < l.length
   ·have hp3 : (k2 : Int) < ((l.length - k : Nat) : Int) := by omega
    have hp4 : k2 < l.length - k := by omega
    have hp5 : k2 - 1 < l.length - k := by omega
    have g1 := hQ.rest (k + k2) (by omega) hp
    have g2 := hQ.rest (k + (k2 - 1)) (by omega) (by omega)
    have hkp : k + k2 - 1 = k + (k2 - 1) := by omega
    have hp6 : k + (k2 - 1) < l.length := by omega
    have hkkl : kk < l.length := by omega
    by_cases e : l.getD (k + k2) default = l.getD (k + k2 - 1) default
    ·have hN := hQ.same (by omega) e
     rw [hkp] at e
     have e2 : decide (l.getD (k + k2) default = l.getD (k + (k2 - 1)) default) = true := by simpa using e
     clear e hkp
     repeat' (first | (refine Qr rfl ?_; try intro _ hK; try simp only [go_sem, *]) | refine Qh rfl ?_ | refine Qd rfl (by kernel_rfl) ?_ | (refine Qc rfl rfl ?_ ?_ <;> (intro hb; have hc := hb; try simp only [go_sem] at hc)) | refine q6 rfl ?_ | (refine Qb ?_ ?_; focus kernel_rfl) | ((with_reducible apply And.intro); focus omega) | (refine z8 hK ?_; clear hK; simp only [go_sem, *]) | simp only [z6, z7, go_sem, *])
     all_goals try contradiction
     refine ⟨_, (by omega), [some 0], [], _, _, _, (by (simp only [Weak, go_sem, List.map_append, List.map_set, *] <;> (try simp (disch := omega) only [t8]) <;> (try simp) <;> (try omega))), j + 1, k2 + 1, kk, ys, rfl, (by omega), (by exact ⟨⟨by omega, by omega⟩, hN⟩), rfl, rfl, rfl⟩
    ·have hN := hQ.new hp e
     rw [hkp] at e
     have e2 : decide (l.getD (k + k2) default = l.getD (k + (k2 - 1)) default) = false := by simpa using e
     clear e hkp
     repeat' (first | (refine Qr rfl ?_; try intro _ hK; try simp only [go_sem, *]) | refine Qh rfl ?_ | refine Qd rfl (by kernel_rfl) ?_ | (refine Qc rfl rfl ?_ ?_ <;> (intro hb; have hc := hb; try simp only [go_sem] at hc)) | refine q6 rfl ?_ | (refine Qb ?_ ?_; focus kernel_rfl) | ((with_reducible apply And.intro); focus omega) | (refine z8 hK ?_; clear hK; simp only [go_sem, *]) | simp only [z6, z7, go_sem, *])
     all_goals try contradiction
     refine ⟨_, (by omega), [some 0], [], _, _, _, (by (simp only [Weak, go_sem, List.map_append, List.map_set, *] <;> (try simp (disch := omega) only [t8]) <;> (try simp) <;> (try omega))), j + 1, k2 + 1, kk + 1, ys.set kk (l.getD (k + k2) default), rfl, (by omega), (by exact ⟨⟨by omega, by omega⟩, hN⟩), rfl, rfl, rfl⟩
   ·have hp3 : ¬ (k2 : Int) < ((l.length - k : Nat) : Int) := by omega
    have hpe : k + k2 = l.length := by omega
    rw [hpe] at hQ
    have hkept := hQ.kept
    have hnum := hQ.num
    rw [hR] at hkept hnum
    clear hR hQ
    repeat' (first | (refine zQU 3 3 rfl rfl rfl rfl rfl rfl Tryz.underlying50 Tryz.zeroValue57 rfl zPi ?_) | (refine Qr rfl ?_; try intro _ hK; try simp only [go_sem, *]) | refine Qh rfl ?_ | refine Qd rfl (by kernel_rfl) ?_ | (refine Qc rfl rfl ?_ ?_ <;> (intro hb; have hc := hb; try simp only [go_sem] at hc)) | refine q6 rfl ?_ | (refine Qb ?_ ?_; focus kernel_rfl) | ((with_reducible apply And.intro); focus omega) | (refine z8 hK ?_; clear hK; simp only [go_sem, *]) | simp only [z6, z7, go_sem, *])
    all_goals try contradiction
    refine ⟨0, kk, l.length - kk, ys.map House.enc, rfl, by rw [if_pos rfl], by rw [List.length_map]; omega, by omega, ?_⟩
    rw [← List.map_take, hkept]
    subst hnum
    repeat' (first | (refine Qr rfl ?_; try intro _ hK; try simp only [go_sem, *]) | refine Qh rfl ?_ | refine Qd rfl (by kernel_rfl) ?_ | (refine Qc rfl rfl ?_ ?_ <;> (intro hb; have hc := hb; try simp only [go_sem] at hc)) | refine q6 rfl ?_ | (refine Qb ?_ ?_; focus kernel_rfl) | ((with_reducible apply And.intro); focus omega) | (refine z8 hK ?_; clear hK; simp only [go_sem, *]) | simp only [z6, z7, go_sem, *])
    all_goals try contradiction
    refine ⟨[_], [some 0], [], ⟨rfl, trivial⟩, ?_⟩
    simp only [go_sem, *]
    all_goals rfl
  ·have e2 : decide (l.getD k default = l.getD (k - 1) default) = false := by simpa using e
   have hN : zNm l (k + 1) := fun j h0 hj => by
    rcases Nat.lt_or_ge j k with h | h
    ·exact hP j h0 h
    ·obtain rfl : j = k := by omega
     exact e
   clear e hend
   repeat' (first | (refine Qr rfl ?_; try intro _ hK; try simp only [go_sem, *]) | refine Qh rfl ?_ | refine Qd rfl (by kernel_rfl) ?_ | (refine Qc rfl rfl ?_ ?_ <;> (intro hb; have hc := hb; try simp only [go_sem] at hc)) | refine q6 rfl ?_ | (refine Qb ?_ ?_; focus kernel_rfl) | ((with_reducible apply And.intro); focus omega) | (refine z8 hK ?_; clear hK; simp only [go_sem, *]) | simp only [z6, z7, go_sem, *])
   all_goals try contradiction
   exact w6 (i' := i + 1) [some 0] [] (k + 1) (by exact ⟨⟨by omega, by omega⟩, hN⟩)
 ·have hk3 : ¬ (k : Int) < l.length := by omega
  have hRe := hend k (by omega) hP
  clear hend hR
  subst hRe
  repeat' (first | (refine Qr rfl ?_; try intro _ hK; try simp only [go_sem, *]) | refine Qh rfl ?_ | refine Qd rfl (by kernel_rfl) ?_ | (refine Qc rfl rfl ?_ ?_ <;> (intro hb; have hc := hb; try simp only [go_sem] at hc)) | refine q6 rfl ?_ | (refine Qb ?_ ?_; focus kernel_rfl) | ((with_reducible apply And.intro); focus omega) | (refine z8 hK ?_; clear hK; simp only [go_sem, *]) | simp only [z6, z7, go_sem, *])
  all_goals try contradiction
  refine ⟨[_], [some 0], [], ⟨rfl, trivial⟩, ?_⟩
  simp only [go_sem, *]
theorem zOd (l : List House) : zNB (l.mergeSort leH) l.length = s6 l := by
 have hp := List.pairwise_mergeSort (le := leH) (fun a b c h1 h2 => by
  unfold leH at *
  simp only [Bool.not_eq_true', zNf, House.lt_iff] at *
  omega) (fun a b => by
  unfold leH
  simp only [Bool.or_eq_true, Bool.not_eq_true', zNf, House.lt_iff]
  omega) l
 have hl : (l.mergeSort leH).length = l.length := List.length_mergeSort l
 have hs := zOc (xs := l.mergeSort leH) (hp.imp (fun {a b} h => by
  unfold leH at h
  simpa only [Bool.not_eq_true', zNf] using h)) l.length (by omega)
 refine I7 hs.1 (R3 l) (fun z => ?_)
 rw [hs.2, List.take_of_length_le (by omega), List.mem_mergeSort, mem_sortH]
theorem zPL (l : List House) (h : l.length ≤ 4294967296) : zLp prog 99 [.list (l.map House.enc)] [] (.list ((s6 l).map House.enc)) [] := by
 have ss := zQf l (by omega)
 have hl : (l.mergeSort leH).length = l.length := List.length_mergeSort l
 have sc := zQb (l.mergeSort leH) (by omega)
 rw [hl, zOd] at sc
 have hcl := zHH l h
 have hsl : (s6 l).length ≤ l.length := by rw [← zOd]; exact zOa _ _
 generalize l.mergeSort leH = M at *
 generalize s6 l = S at *
 refine q8 func99 rfl (fun E hE => ?_); simp only [go_sem, ntmps99]
 repeat' (first | (refine Qr rfl ?_; try intro _ hK; try simp only [go_sem, *]) | refine Qh rfl ?_ | (refine Qc rfl rfl ?_ ?_ <;> (intro hb; have hc := hb; try simp only [go_sem] at hc)) | refine q6 rfl ?_ | (refine s8 (hcl) ?_; simp only [go_sem, *]) | (refine y9 [0] [] (ss) (by simp) ?_ ?_ (by simp) (.inl rfl) ?_ ?_ ?_; (iterate 2 (focus (simp only [go_sem, *]; done))); (iterate 2 (focus (first | (simp; done) | (simp [go_sem]; done)))); simp only [go_sem, *]) | (refine y9 [0] [] (sc) (by simp) ?_ ?_ (by simp) (.inl rfl) ?_ ?_ ?_; (iterate 2 (focus (simp only [go_sem, *]; done))); (iterate 2 (focus (first | (simp; done) | (simp [go_sem]; done)))); simp only [go_sem, *]) | ((with_reducible apply And.intro); focus omega) | (refine z8 hK ?_; clear hK; simp only [go_sem, *]) | simp only [z6, z7, go_sem, *])
 all_goals try contradiction
 refine ⟨[_], [], [0], ⟨rfl, trivial⟩, ?_⟩
 simp only [go_sem, *]
 all_goals exact Nat.le_refl _
end Go.Abs

namespace Go.Abs
open Go Go.Proofs Tryz
attribute [local irreducible] y6 Hold x8
def zNa (p : zLo) : Bool := p.any fun l => decide (20 < l.length)
def zNR (p : zLo) : Bool := decide (20 < p.length) || zNa p
theorem zRM {p : zLo} {i : Nat} (h : i < p.length) : zNa (p.drop i) = (decide (20 < (p.getD i default).length) || zNa (p.drop (i + 1))) := by
 unfold zNa; rw [u0 h, List.any_cons]
theorem zQ3 (p : zLo) (h1 : p.length ≤ 4294967296) (W : Bool) (hW : zNR p = W) : zLp prog 19 [x7 p] [] (bV W) [] := by
 unfold zNR at hW
 by_cases q : 20 < p.length
 ·have q2 : (p.length : Int) > 20 := by omega
  have e : decide (20 < p.length) = true := by simpa using q
  rw [e, Bool.true_or] at hW
  subst hW
  clear e q
  refine q8 func19 rfl (fun E hE => ?_); simp only [go_sem, ntmps19]
  repeat' (first | (refine Qr rfl ?_; try intro _ hK; try simp only [go_sem, *]) | refine Qh rfl ?_ | (refine Qc rfl rfl ?_ ?_ <;> (intro hb; have hc := hb; try simp only [go_sem] at hc)) | refine q6 rfl ?_ | ((with_reducible apply And.intro); focus omega) | (refine z8 hK ?_; clear hK; simp only [go_sem, *]) | simp only [z6, z7, go_sem, *])
  all_goals first | contradiction | omega | skip
  (refine ⟨[_], [], [], ⟨rfl, trivial⟩, ?_⟩; simp only [go_sem, *])
 ·have q2 : ¬ (p.length : Int) > 20 := by omega
  have e : decide (20 < p.length) = false := by simpa using q
  rw [e, Bool.false_or] at hW
  have hW0 : zNa (p.drop 0) = W := hW
  clear e hW
  refine q8 func19 rfl (fun E hE => ?_); simp only [go_sem, ntmps19]
  repeat' (first | (refine Qr rfl ?_; try intro _ hK; try simp only [go_sem, *]) | refine Qh rfl ?_ | (refine Qc rfl rfl ?_ ?_ <;> (intro hb; have hc := hb; try simp only [go_sem] at hc)) | refine q6 rfl ?_ | ((with_reducible apply And.intro); focus omega) | (refine z8 hK ?_; clear hK; simp only [go_sem, *]) | simp only [z6, z7, go_sem, *])
  all_goals first | contradiction | omega | skip
  refine u3 rfl (p.length) (fun i => zNa (p.drop i) = W) 22 (fun i => [(3, iV i), (1, .ptr 0 0)]) (fun i => [zL3 p]) [some 0] [] (by exact hW0) ?_; intro i hi hP
  by_cases hi2 : i < p.length
  ·rw [zRM hi2] at hP
   by_cases r : 20 < (p.getD i default).length
   ·have r2 : ((p.getD i default).length : Int) > 20 := by omega
    have e : decide (20 < (p.getD i default).length) = true := by simpa using r
    rw [e, Bool.true_or] at hP
    subst hP
    clear e r
    repeat' (first | (refine Qr rfl ?_; try intro _ hK; try simp only [go_sem, *]) | refine Qh rfl ?_ | (refine Qc rfl rfl ?_ ?_ <;> (intro hb; have hc := hb; try simp only [go_sem] at hc)) | refine q6 rfl ?_ | ((with_reducible apply And.intro); focus omega) | (refine z8 hK ?_; clear hK; simp only [go_sem, *]) | simp only [z6, z7, go_sem, *])
    all_goals first | contradiction | omega | skip
    (refine ⟨[_], [], [], ⟨rfl, trivial⟩, ?_⟩; simp only [go_sem, *])
   ·have r2 : ¬ ((p.getD i default).length : Int) > 20 := by omega
    have e : decide (20 < (p.getD i default).length) = false := by simpa using r
    rw [e, Bool.false_or] at hP
    clear e r
    repeat' (first | (refine Qr rfl ?_; try intro _ hK; try simp only [go_sem, *]) | refine Qh rfl ?_ | (refine Qc rfl rfl ?_ ?_ <;> (intro hb; have hc := hb; try simp only [go_sem] at hc)) | refine q6 rfl ?_ | ((with_reducible apply And.intro); focus omega) | (refine z8 hK ?_; clear hK; simp only [go_sem, *]) | simp only [z6, z7, go_sem, *])
    all_goals first | contradiction | omega | skip
    exact u2 (i' := i + 1) [some 0] [] (by exact hP)
  ·rw [u7 (by omega)] at hP
   have hP2 : false = W := hP
   subst hP2
   repeat' (first | (refine Qr rfl ?_; try intro _ hK; try simp only [go_sem, *]) | refine Qh rfl ?_ | (refine Qc rfl rfl ?_ ?_ <;> (intro hb; have hc := hb; try simp only [go_sem] at hc)) | refine q6 rfl ?_ | ((with_reducible apply And.intro); focus omega) | (refine z8 hK ?_; clear hK; simp only [go_sem, *]) | simp only [z6, z7, go_sem, *])
   (refine ⟨[_], [], [], ⟨rfl, trivial⟩, ?_⟩; simp only [go_sem, *])
end Go.Abs

namespace Go.Abs
open Go Go.Proofs Tryz
attribute [local irreducible] y6 Hold x8
def bkt (L : List House) (i s : Nat) : List Plate := ((L.take i).filter (fun h => h.street == (s : Int))).map House.plate
theorem zNe {L : List House} {i s : Nat} (h : i < L.length) (e : (L.getD i default).street = (s : Int)) : bkt L (i + 1) s = bkt L i s ++ [(L.getD i default).plate] := by
 have q : ((L.getD i default).street == (s : Int)) = true := by rw [beq_iff_eq]; exact e
 unfold bkt
 rw [Z8 h, List.filter_append, List.map_append, List.filter_cons, if_pos q]; rfl
theorem zNQ {L : List House} {i s : Nat} (h : i < L.length) (e : (L.getD i default).street ≠ (s : Int)) : bkt L (i + 1) s = bkt L i s := by
 have q : ¬ ((L.getD i default).street == (s : Int)) = true := by rw [beq_iff_eq]; exact e
 unfold bkt
 rw [Z8 h, List.filter_append, List.map_append, List.filter_cons, if_neg q]; simp
theorem zN2 (L : List House) (i s : Nat) : (bkt L i s).length ≤ L.length := by
 unfold bkt; rw [List.length_map]
 exact Nat.le_trans (List.length_filter_le _ _) (by simp; omega)
theorem zNd {L : List House} {i s : Nat} (h : L.length ≤ i) : bkt L i s = (L.filter (fun h => h.street == (s : Int))).map House.plate := by
 unfold bkt; rw [List.take_of_length_le h]
theorem zQp (l : List House) (hst : ∀ z, z ∈ l → 0 ≤ z.street ∧ z.street < 1) (hl : l.length ≤ 4294967296) : zLp prog 127 [.list (l.map House.enc), iV 1] [] (x7 (zL6 l 1)) [] := by
 have rz : List.replicate 1 (AV.raw (Value.slice none 0 0)) = [AV.raw (Value.slice none 0 0)] := rfl
 have hv : IntKind.i64.wrap 1 = (1 : Int) := wrap_i64 (by omega) (by omega)
 have ss := zLb l hl
 have hsl : (s6 l).length ≤ l.length := by have := zFF l []; simpa [s6] using this
 have hsm : ∀ z, z ∈ s6 l → 0 ≤ z.street ∧ z.street < 1 := fun z hz => hst z (mem_sortH.1 hz)
 have he : zL6 l 1 = [((s6 l).filter (fun h => h.street == ((0 : Nat) : Int))).map House.plate] := by simp [zL6, List.range_succ]
 rw [he]
 clear he hst
 generalize s6 l = L at *
 have hlb := fun i s => zN2 L i s
 have z0 : bkt L 0 0 = [] := rfl
 have z1 : bkt L 0 1 = [] := rfl
 have z2 : bkt L 0 2 = [] := rfl
 refine q8 func127 rfl (fun E hE => ?_); simp only [go_sem, ntmps127]
 repeat' (first | (refine Qr rfl ?_; try intro _ hK; try simp only [go_sem, *]) | refine Qh rfl ?_ | refine Qd rfl (by kernel_rfl) ?_ | (refine Qc rfl rfl ?_ ?_ <;> (intro hb; have hc := hb; try simp only [go_sem] at hc)) | refine q6 rfl ?_ | (refine Qb ?_ ?_; focus kernel_rfl) | (refine y4 (ss) ?_; simp only [go_sem, *]) | ((with_reducible apply And.intro); focus omega) | (refine z8 hK ?_; clear hK; simp only [go_sem, *]) | simp only [z6, z7, go_sem, *])
 refine u3 rfl (L.length) (fun i => NoP i) 43 (fun i => [(6, iV i), (5, .ptr 1 0), (4, .ptr 0 0), (0, .list (L.map House.enc))]) (fun i => [.box [zLz], .box [.own 2 1 0 1], .box [.own 3 2 0 (bkt L i 0).length], .row 2 ((bkt L i 0).map Plate.enc)]) [some 0, some 2, some 1, none] [] (by trivial) ?_; intro i hi hP
 have hb0 := hlb i 0
 clear hlb z0 z1 z2
 by_cases hi2 : i < L.length
 ·have hz := hsm _ (w8 hi2)
  rcases (by omega : (L.getD i default).street = 0) with hs0
  ·have e0 := zNe (s := 0) hi2 (by rw [hs0]; rfl)
   repeat' (first | (refine Qr rfl ?_; try intro _ hK; try simp only [go_sem, *]) | refine Qh rfl ?_ | refine Qd rfl (by kernel_rfl) ?_ | (refine Qc rfl rfl ?_ ?_ <;> (intro hb; have hc := hb; try simp only [go_sem] at hc)) | refine q6 rfl ?_ | (with_reducible (show (∀ _ : AV, _ → _) ∧ _); refine And.intro ?_ ?_; (focus (intro y hy; first | (obtain ⟨z, _, rfl⟩ := List.mem_map.1 (hy); simp [go_sem]; done) | (obtain ⟨z, _, rfl⟩ := List.mem_map.1 (List.mem_of_mem_take hy); simp [go_sem]; done) | (obtain ⟨z, _, rfl⟩ := List.mem_map.1 (List.mem_of_mem_drop hy); simp [go_sem]; done) | (obtain ⟨z, _, rfl⟩ := List.mem_map.1 (List.mem_of_mem_drop (List.mem_of_mem_take hy)); simp [go_sem]; done)))) | (refine Qb ?_ ?_; focus kernel_rfl) | ((with_reducible apply And.intro); focus omega) | (refine z8 hK ?_; clear hK; simp only [go_sem, *]) | simp only [z6, z7, go_sem, *])
   all_goals try contradiction
   exact u2 (i' := i + 1) [some 0, some 1, some 2, some 5] [] (by trivial)
 ·have e0 := zNd (L := L) (i := i) (s := 0) (by omega)
  repeat' (first | (refine Qr rfl ?_; try intro _ hK; try simp only [go_sem, *]) | refine Qh rfl ?_ | refine Qd rfl (by kernel_rfl) ?_ | (refine Qc rfl rfl ?_ ?_ <;> (intro hb; have hc := hb; try simp only [go_sem] at hc)) | refine q6 rfl ?_ | (refine Qb ?_ ?_; focus kernel_rfl) | ((with_reducible apply And.intro); focus omega) | (refine z8 hK ?_; clear hK; simp only [go_sem, *]) | simp only [z6, z7, go_sem, *])
  refine ⟨[.agg [.own 2 1 0 1]], [], [2, 3], ⟨by simp only [u1, go_sem], trivial⟩, ?_⟩
  simp only [go_sem, *]
  try simp [List.take_of_length_le]
theorem zQq (l : List House) (hst : ∀ z, z ∈ l → 0 ≤ z.street ∧ z.street < 2) (hl : l.length ≤ 4294967296) : zLp prog 127 [.list (l.map House.enc), iV 2] [] (x7 (zL6 l 2)) [] := by
 have rz : List.replicate 2 (AV.raw (Value.slice none 0 0)) = [AV.raw (Value.slice none 0 0), AV.raw (Value.slice none 0 0)] := rfl
 have hv : IntKind.i64.wrap 2 = (2 : Int) := wrap_i64 (by omega) (by omega)
 have ss := zLb l hl
 have hsl : (s6 l).length ≤ l.length := by have := zFF l []; simpa [s6] using this
 have hsm : ∀ z, z ∈ s6 l → 0 ≤ z.street ∧ z.street < 2 := fun z hz => hst z (mem_sortH.1 hz)
 have he : zL6 l 2 = [((s6 l).filter (fun h => h.street == ((0 : Nat) : Int))).map House.plate, ((s6 l).filter (fun h => h.street == ((1 : Nat) : Int))).map House.plate] := by simp [zL6, List.range_succ]
 rw [he]
 clear he hst
 generalize s6 l = L at *
 have hlb := fun i s => zN2 L i s
 have z0 : bkt L 0 0 = [] := rfl
 have z1 : bkt L 0 1 = [] := rfl
 have z2 : bkt L 0 2 = [] := rfl
 refine q8 func127 rfl (fun E hE => ?_); simp only [go_sem, ntmps127]
 repeat' (first | (refine Qr rfl ?_; try intro _ hK; try simp only [go_sem, *]) | refine Qh rfl ?_ | refine Qd rfl (by kernel_rfl) ?_ | (refine Qc rfl rfl ?_ ?_ <;> (intro hb; have hc := hb; try simp only [go_sem] at hc)) | refine q6 rfl ?_ | (refine Qb ?_ ?_; focus kernel_rfl) | (refine y4 (ss) ?_; simp only [go_sem, *]) | ((with_reducible apply And.intro); focus omega) | (refine z8 hK ?_; clear hK; simp only [go_sem, *]) | simp only [z6, z7, go_sem, *])
 refine u3 rfl (L.length) (fun i => NoP i) 43 (fun i => [(6, iV i), (5, .ptr 1 0), (4, .ptr 0 0), (0, .list (L.map House.enc))]) (fun i => [.box [zLz], .box [.own 2 1 0 2], .box [.own 3 2 0 (bkt L i 0).length, .own 4 2 0 (bkt L i 1).length], .row 2 ((bkt L i 0).map Plate.enc), .row 2 ((bkt L i 1).map Plate.enc)]) [some 0, some 2, some 1, none, none] [] (by trivial) ?_; intro i hi hP
 have hb0 := hlb i 0
 have hb1 := hlb i 1
 clear hlb z0 z1 z2
 by_cases hi2 : i < L.length
 ·have hz := hsm _ (w8 hi2)
  rcases (by omega : (L.getD i default).street = 0 ∨ (L.getD i default).street = 1) with hs0 | hs0
  ·have e0 := zNe (s := 0) hi2 (by rw [hs0]; rfl)
   have e1 := zNQ (s := 1) hi2 (by rw [hs0]; decide)
   repeat' (first | (refine Qr rfl ?_; try intro _ hK; try simp only [go_sem, *]) | refine Qh rfl ?_ | refine Qd rfl (by kernel_rfl) ?_ | (refine Qc rfl rfl ?_ ?_ <;> (intro hb; have hc := hb; try simp only [go_sem] at hc)) | refine q6 rfl ?_ | (with_reducible (show (∀ _ : AV, _ → _) ∧ _); refine And.intro ?_ ?_; (focus (intro y hy; first | (obtain ⟨z, _, rfl⟩ := List.mem_map.1 (hy); simp [go_sem]; done) | (obtain ⟨z, _, rfl⟩ := List.mem_map.1 (List.mem_of_mem_take hy); simp [go_sem]; done) | (obtain ⟨z, _, rfl⟩ := List.mem_map.1 (List.mem_of_mem_drop hy); simp [go_sem]; done) | (obtain ⟨z, _, rfl⟩ := List.mem_map.1 (List.mem_of_mem_drop (List.mem_of_mem_take hy)); simp [go_sem]; done)))) | (refine Qb ?_ ?_; focus kernel_rfl) | ((with_reducible apply And.intro); focus omega) | (refine z8 hK ?_; clear hK; simp only [go_sem, *]) | simp only [z6, z7, go_sem, *])
   all_goals try contradiction
   exact u2 (i' := i + 1) [some 0, some 1, some 2, some 6, some 4] [] (by trivial)
  ·have e0 := zNQ (s := 0) hi2 (by rw [hs0]; decide)
   have e1 := zNe (s := 1) hi2 (by rw [hs0]; rfl)
   repeat' (first | (refine Qr rfl ?_; try intro _ hK; try simp only [go_sem, *]) | refine Qh rfl ?_ | refine Qd rfl (by kernel_rfl) ?_ | (refine Qc rfl rfl ?_ ?_ <;> (intro hb; have hc := hb; try simp only [go_sem] at hc)) | refine q6 rfl ?_ | (with_reducible (show (∀ _ : AV, _ → _) ∧ _); refine And.intro ?_ ?_; (focus (intro y hy; first | (obtain ⟨z, _, rfl⟩ := List.mem_map.1 (hy); simp [go_sem]; done) | (obtain ⟨z, _, rfl⟩ := List.mem_map.1 (List.mem_of_mem_take hy); simp [go_sem]; done) | (obtain ⟨z, _, rfl⟩ := List.mem_map.1 (List.mem_of_mem_drop hy); simp [go_sem]; done) | (obtain ⟨z, _, rfl⟩ := List.mem_map.1 (List.mem_of_mem_drop (List.mem_of_mem_take hy)); simp [go_sem]; done)))) | (refine Qb ?_ ?_; focus kernel_rfl) | ((with_reducible apply And.intro); focus omega) | (refine z8 hK ?_; clear hK; simp only [go_sem, *]) | simp only [z6, z7, go_sem, *])
   all_goals try contradiction
   exact u2 (i' := i + 1) [some 0, some 1, some 2, some 3, some 6] [] (by trivial)
 ·have e0 := zNd (L := L) (i := i) (s := 0) (by omega)
  have e1 := zNd (L := L) (i := i) (s := 1) (by omega)
  repeat' (first | (refine Qr rfl ?_; try intro _ hK; try simp only [go_sem, *]) | refine Qh rfl ?_ | refine Qd rfl (by kernel_rfl) ?_ | (refine Qc rfl rfl ?_ ?_ <;> (intro hb; have hc := hb; try simp only [go_sem] at hc)) | refine q6 rfl ?_ | (refine Qb ?_ ?_; focus kernel_rfl) | ((with_reducible apply And.intro); focus omega) | (refine z8 hK ?_; clear hK; simp only [go_sem, *]) | simp only [z6, z7, go_sem, *])
  refine ⟨[.agg [.own 2 1 0 2]], [], [2, 3, 4], ⟨by simp only [u1, go_sem], trivial⟩, ?_⟩
  simp only [go_sem, *]
  try simp [List.take_of_length_le]
theorem zQr (l : List House) (hst : ∀ z, z ∈ l → 0 ≤ z.street ∧ z.street < 3) (hl : l.length ≤ 4294967296) : zLp prog 127 [.list (l.map House.enc), iV 3] [] (x7 (zL6 l 3)) [] := by
 have rz : List.replicate 3 (AV.raw (Value.slice none 0 0)) = [AV.raw (Value.slice none 0 0), AV.raw (Value.slice none 0 0), AV.raw (Value.slice none 0 0)] := rfl
 have hv : IntKind.i64.wrap 3 = (3 : Int) := wrap_i64 (by omega) (by omega)
 have ss := zLb l hl
 have hsl : (s6 l).length ≤ l.length := by have := zFF l []; simpa [s6] using this
 have hsm : ∀ z, z ∈ s6 l → 0 ≤ z.street ∧ z.street < 3 := fun z hz => hst z (mem_sortH.1 hz)
 have he : zL6 l 3 = [((s6 l).filter (fun h => h.street == ((0 : Nat) : Int))).map House.plate, ((s6 l).filter (fun h => h.street == ((1 : Nat) : Int))).map House.plate, ((s6 l).filter (fun h => h.street == ((2 : Nat) : Int))).map House.plate] := by simp [zL6, List.range_succ]
 rw [he]
 clear he hst
 generalize s6 l = L at *
 have hlb := fun i s => zN2 L i s
 have z0 : bkt L 0 0 = [] := rfl
 have z1 : bkt L 0 1 = [] := rfl
 have z2 : bkt L 0 2 = [] := rfl
 refine q8 func127 rfl (fun E hE => ?_); simp only [go_sem, ntmps127]
 repeat' (first | (refine Qr rfl ?_; try intro _ hK; try simp only [go_sem, *]) | refine Qh rfl ?_ | refine Qd rfl (by kernel_rfl) ?_ | (refine Qc rfl rfl ?_ ?_ <;> (intro hb; have hc := hb; try simp only [go_sem] at hc)) | refine q6 rfl ?_ | (refine Qb ?_ ?_; focus kernel_rfl) | (refine y4 (ss) ?_; simp only [go_sem, *]) | ((with_reducible apply And.intro); focus omega) | (refine z8 hK ?_; clear hK; simp only [go_sem, *]) | simp only [z6, z7, go_sem, *])
 refine u3 rfl (L.length) (fun i => NoP i) 43 (fun i => [(6, iV i), (5, .ptr 1 0), (4, .ptr 0 0), (0, .list (L.map House.enc))]) (fun i => [.box [zLz], .box [.own 2 1 0 3], .box [.own 3 2 0 (bkt L i 0).length, .own 4 2 0 (bkt L i 1).length, .own 5 2 0 (bkt L i 2).length], .row 2 ((bkt L i 0).map Plate.enc), .row 2 ((bkt L i 1).map Plate.enc), .row 2 ((bkt L i 2).map Plate.enc)]) [some 0, some 2, some 1, none, none, none] [] (by trivial) ?_; intro i hi hP
 have hb0 := hlb i 0
 have hb1 := hlb i 1
 have hb2 := hlb i 2
 clear hlb z0 z1 z2
 by_cases hi2 : i < L.length
 ·have hz := hsm _ (w8 hi2)
  rcases (by omega : (L.getD i default).street = 0 ∨ (L.getD i default).street = 1 ∨ (L.getD i default).street = 2) with hs0 | hs0 | hs0
  ·have e0 := zNe (s := 0) hi2 (by rw [hs0]; rfl)
   have e1 := zNQ (s := 1) hi2 (by rw [hs0]; decide)
   have e2 := zNQ (s := 2) hi2 (by rw [hs0]; decide)
   repeat' (first | (refine Qr rfl ?_; try intro _ hK; try simp only [go_sem, *]) | refine Qh rfl ?_ | refine Qd rfl (by kernel_rfl) ?_ | (refine Qc rfl rfl ?_ ?_ <;> (intro hb; have hc := hb; try simp only [go_sem] at hc)) | refine q6 rfl ?_ | (with_reducible (show (∀ _ : AV, _ → _) ∧ _); refine And.intro ?_ ?_; (focus (intro y hy; first | (obtain ⟨z, _, rfl⟩ := List.mem_map.1 (hy); simp [go_sem]; done) | (obtain ⟨z, _, rfl⟩ := List.mem_map.1 (List.mem_of_mem_take hy); simp [go_sem]; done) | (obtain ⟨z, _, rfl⟩ := List.mem_map.1 (List.mem_of_mem_drop hy); simp [go_sem]; done) | (obtain ⟨z, _, rfl⟩ := List.mem_map.1 (List.mem_of_mem_drop (List.mem_of_mem_take hy)); simp [go_sem]; done)))) | (refine Qb ?_ ?_; focus kernel_rfl) | ((with_reducible apply And.intro); focus omega) | (refine z8 hK ?_; clear hK; simp only [go_sem, *]) | simp only [z6, z7, go_sem, *])
   all_goals try contradiction
   exact u2 (i' := i + 1) [some 0, some 1, some 2, some 7, some 4, some 5] [] (by trivial)
  ·have e0 := zNQ (s := 0) hi2 (by rw [hs0]; decide)
   have e1 := zNe (s := 1) hi2 (by rw [hs0]; rfl)
   have e2 := zNQ (s := 2) hi2 (by rw [hs0]; decide)
   repeat' (first | (refine Qr rfl ?_; try intro _ hK; try simp only [go_sem, *]) | refine Qh rfl ?_ | refine Qd rfl (by kernel_rfl) ?_ | (refine Qc rfl rfl ?_ ?_ <;> (intro hb; have hc := hb; try simp only [go_sem] at hc)) | refine q6 rfl ?_ | (with_reducible (show (∀ _ : AV, _ → _) ∧ _); refine And.intro ?_ ?_; (focus (intro y hy; first | (obtain ⟨z, _, rfl⟩ := List.mem_map.1 (hy); simp [go_sem]; done) | (obtain ⟨z, _, rfl⟩ := List.mem_map.1 (List.mem_of_mem_take hy); simp [go_sem]; done) | (obtain ⟨z, _, rfl⟩ := List.mem_map.1 (List.mem_of_mem_drop hy); simp [go_sem]; done) | (obtain ⟨z, _, rfl⟩ := List.mem_map.1 (List.mem_of_mem_drop (List.mem_of_mem_take hy)); simp [go_sem]; done)))) | (refine Qb ?_ ?_; focus kernel_rfl) | ((with_reducible apply And.intro); focus omega) | (refine z8 hK ?_; clear hK; simp only [go_sem, *]) | simp only [z6, z7, go_sem, *])
   all_goals try contradiction
   exact u2 (i' := i + 1) [some 0, some 1, some 2, some 3, some 7, some 5] [] (by trivial)
  ·have e0 := zNQ (s := 0) hi2 (by rw [hs0]; decide)
   have e1 := zNQ (s := 1) hi2 (by rw [hs0]; decide)
   have e2 := zNe (s := 2) hi2 (by rw [hs0]; rfl)
   repeat' (first | (refine Qr rfl ?_; try intro _ hK; try simp only [go_sem, *]) | refine Qh rfl ?_ | refine Qd rfl (by kernel_rfl) ?_ | (refine Qc rfl rfl ?_ ?_ <;> (intro hb; have hc := hb; try simp only [go_sem] at hc)) | refine q6 rfl ?_ | (with_reducible (show (∀ _ : AV, _ → _) ∧ _); refine And.intro ?_ ?_; (focus (intro y hy; first | (obtain ⟨z, _, rfl⟩ := List.mem_map.1 (hy); simp [go_sem]; done) | (obtain ⟨z, _, rfl⟩ := List.mem_map.1 (List.mem_of_mem_take hy); simp [go_sem]; done) | (obtain ⟨z, _, rfl⟩ := List.mem_map.1 (List.mem_of_mem_drop hy); simp [go_sem]; done) | (obtain ⟨z, _, rfl⟩ := List.mem_map.1 (List.mem_of_mem_drop (List.mem_of_mem_take hy)); simp [go_sem]; done)))) | (refine Qb ?_ ?_; focus kernel_rfl) | ((with_reducible apply And.intro); focus omega) | (refine z8 hK ?_; clear hK; simp only [go_sem, *]) | simp only [z6, z7, go_sem, *])
   all_goals try contradiction
   exact u2 (i' := i + 1) [some 0, some 1, some 2, some 3, some 4, some 7] [] (by trivial)
 ·have e0 := zNd (L := L) (i := i) (s := 0) (by omega)
  have e1 := zNd (L := L) (i := i) (s := 1) (by omega)
  have e2 := zNd (L := L) (i := i) (s := 2) (by omega)
  repeat' (first | (refine Qr rfl ?_; try intro _ hK; try simp only [go_sem, *]) | refine Qh rfl ?_ | refine Qd rfl (by kernel_rfl) ?_ | (refine Qc rfl rfl ?_ ?_ <;> (intro hb; have hc := hb; try simp only [go_sem] at hc)) | refine q6 rfl ?_ | (refine Qb ?_ ?_; focus kernel_rfl) | ((with_reducible apply And.intro); focus omega) | (refine z8 hK ?_; clear hK; simp only [go_sem, *]) | simp only [z6, z7, go_sem, *])
  refine ⟨[.agg [.own 2 1 0 3]], [], [2, 3, 4, 5], ⟨by simp only [u1, go_sem], trivial⟩, ?_⟩
  simp only [go_sem, *]
  try simp [List.take_of_length_le]
end Go.Abs

namespace Go.Abs
open Go Go.Proofs Tryz
attribute [local irreducible] y6 Hold x8
theorem zQA (p : zLo) (c : Change) (hp : p.length ≤ 4294967296) (h1 : zLr c.kind 1 7 = false) : zLp prog 132 [x7 p, c.enc] [] (.tup [iV 8, .agg [iV c.kind, iV c.street, iV 0, iV 0, iV 0, iV 0, iV 0]]) [] := by
 have hw : IntKind.i64.wrap ((p.length : Int) - 1) = (p.length : Int) - 1 := wrap_i64 (by omega) (by omega)
 have s1 := zIC c.kind 1 7
 rw [h1] at s1
 refine q8 func132 rfl (fun E hE => ?_); simp only [go_sem, ntmps132]
 repeat' (first | (refine Qr rfl ?_; try intro _ hK; try simp only [go_sem, *]) | refine Qh rfl ?_ | refine Qd rfl (by kernel_rfl) ?_ | (refine Qc rfl rfl ?_ ?_ <;> (intro hb; have hc := hb; try simp only [go_sem] at hc)) | refine q6 rfl ?_ | (refine Qb ?_ ?_; focus kernel_rfl) | (refine y4 (s1) ?_; simp only [go_sem, *]) | ((with_reducible apply And.intro); focus omega) | (refine z8 hK ?_; clear hK; simp only [go_sem, *]) | simp only [z6, z7, go_sem, *])
 all_goals try contradiction
 refine ⟨[iV 8, .agg [iV c.kind, iV c.street, iV 0, iV 0, iV 0, iV 0, iV 0]], [], [], ⟨rfl, by simp only [u1, go_sem], trivial⟩, ?_⟩
 simp only [go_sem, *]
theorem zQK (p : zLo) (c : Change) (hp : p.length ≤ 4294967296) (h1 : zLr c.kind 1 7 = true) (h2 : zLr c.street 0 ((p.length : Int) - 1) = false) : zLp prog 132 [x7 p, c.enc] [] (.tup [iV 3, .agg [iV c.kind, iV c.street, iV 0, iV 0, iV 0, iV 0, iV 0]]) [] := by
 have hw : IntKind.i64.wrap ((p.length : Int) - 1) = (p.length : Int) - 1 := wrap_i64 (by omega) (by omega)
 have s1 := zIC c.kind 1 7
 rw [h1] at s1
 have s2 := zIC c.street 0 ((p.length : Int) - 1)
 rw [h2] at s2
 refine q8 func132 rfl (fun E hE => ?_); simp only [go_sem, ntmps132]
 repeat' (first | (refine Qr rfl ?_; try intro _ hK; try simp only [go_sem, *]) | refine Qh rfl ?_ | refine Qd rfl (by kernel_rfl) ?_ | (refine Qc rfl rfl ?_ ?_ <;> (intro hb; have hc := hb; try simp only [go_sem] at hc)) | refine q6 rfl ?_ | (refine Qb ?_ ?_; focus kernel_rfl) | ((first | refine y4 (s1) ?_ | refine y4 (s2) ?_); simp only [go_sem, *]) | ((with_reducible apply And.intro); focus omega) | (refine z8 hK ?_; clear hK; simp only [go_sem, *]) | simp only [z6, z7, go_sem, *])
 all_goals try contradiction
 refine ⟨[iV 3, .agg [iV c.kind, iV c.street, iV 0, iV 0, iV 0, iV 0, iV 0]], [], [], ⟨rfl, by simp only [u1, go_sem], trivial⟩, ?_⟩
 simp only [go_sem, *]
theorem zQG (p : zLo) (c : Change) (hp : p.length ≤ 4294967296) (h1 : zLr c.kind 1 7 = true) (h2 : zLr c.street 0 ((p.length : Int) - 1) = true) (k4 : (c.kind == 4) = true) (k5 : (c.kind == 5) = false) (k6 : (c.kind == 6) = false) (k7 : (c.kind == 7) = false) (h3 : zLr c.other 0 ((p.length : Int) - 1) = false) : zLp prog 132 [x7 p, c.enc] [] (.tup [iV 3, .agg [iV c.kind, iV c.street, iV c.other, iV 0, iV 0, iV 0, iV 0]]) [] := by
 have hw : IntKind.i64.wrap ((p.length : Int) - 1) = (p.length : Int) - 1 := wrap_i64 (by omega) (by omega)
 have s1 := zIC c.kind 1 7
 rw [h1] at s1
 have s2 := zIC c.street 0 ((p.length : Int) - 1)
 rw [h2] at s2
 have s3 := zIC c.other 0 ((p.length : Int) - 1)
 rw [h3] at s3
 refine q8 func132 rfl (fun E hE => ?_); simp only [go_sem, ntmps132]
 repeat' (first | (refine Qr rfl ?_; try intro _ hK; try simp only [go_sem, *]) | refine Qh rfl ?_ | refine Qd rfl (by kernel_rfl) ?_ | (refine Qc rfl rfl ?_ ?_ <;> (intro hb; have hc := hb; try simp only [go_sem] at hc)) | refine q6 rfl ?_ | (refine Qb ?_ ?_; focus kernel_rfl) | ((first | refine y4 (s1) ?_ | refine y4 (s2) ?_ | refine y4 (s3) ?_); simp only [go_sem, *]) | ((with_reducible apply And.intro); focus omega) | (refine z8 hK ?_; clear hK; simp only [go_sem, *]) | simp only [z6, z7, go_sem, *])
 all_goals try contradiction
 refine ⟨[iV 3, .agg [iV c.kind, iV c.street, iV c.other, iV 0, iV 0, iV 0, iV 0]], [], [], ⟨rfl, by simp only [u1, go_sem], trivial⟩, ?_⟩
 simp only [go_sem, *]
theorem zQI (p : zLo) (c : Change) (hp : p.length ≤ 4294967296) (h1 : zLr c.kind 1 7 = true) (h2 : zLr c.street 0 ((p.length : Int) - 1) = true) (k4 : (c.kind == 4) = true) (k5 : (c.kind == 5) = false) (k6 : (c.kind == 6) = false) (k7 : (c.kind == 7) = false) (h3 : zLr c.other 0 ((p.length : Int) - 1) = true) (h4 : (c.other == c.street) = true) : zLp prog 132 [x7 p, c.enc] [] (.tup [iV 4, .agg [iV c.kind, iV c.street, iV c.other, iV 0, iV 0, iV 0, iV 0]]) [] := by
 have hw : IntKind.i64.wrap ((p.length : Int) - 1) = (p.length : Int) - 1 := wrap_i64 (by omega) (by omega)
 have s1 := zIC c.kind 1 7
 rw [h1] at s1
 have s2 := zIC c.street 0 ((p.length : Int) - 1)
 rw [h2] at s2
 have s3 := zIC c.other 0 ((p.length : Int) - 1)
 rw [h3] at s3
 refine q8 func132 rfl (fun E hE => ?_); simp only [go_sem, ntmps132]
 repeat' (first | (refine Qr rfl ?_; try intro _ hK; try simp only [go_sem, *]) | refine Qh rfl ?_ | refine Qd rfl (by kernel_rfl) ?_ | (refine Qc rfl rfl ?_ ?_ <;> (intro hb; have hc := hb; try simp only [go_sem] at hc)) | refine q6 rfl ?_ | (refine Qb ?_ ?_; focus kernel_rfl) | ((first | refine y4 (s1) ?_ | refine y4 (s2) ?_ | refine y4 (s3) ?_); simp only [go_sem, *]) | ((with_reducible apply And.intro); focus omega) | (refine z8 hK ?_; clear hK; simp only [go_sem, *]) | simp only [z6, z7, go_sem, *])
 all_goals try contradiction
 refine ⟨[iV 4, .agg [iV c.kind, iV c.street, iV c.other, iV 0, iV 0, iV 0, iV 0]], [], [], ⟨rfl, by simp only [u1, go_sem], trivial⟩, ?_⟩
 simp only [go_sem, *]
theorem zQH (p : zLo) (c : Change) (hp : p.length ≤ 4294967296) (h1 : zLr c.kind 1 7 = true) (h2 : zLr c.street 0 ((p.length : Int) - 1) = true) (k4 : (c.kind == 4) = false) (k5 : (c.kind == 5) = false) (k6 : (c.kind == 6) = false) (k7 : (c.kind == 7) = true) (h3 : zLr c.other 0 ((p.length : Int) - 1) = false) : zLp prog 132 [x7 p, c.enc] [] (.tup [iV 3, .agg [iV c.kind, iV c.street, iV c.other, iV 0, iV 0, iV 0, iV 0]]) [] := by
 have hw : IntKind.i64.wrap ((p.length : Int) - 1) = (p.length : Int) - 1 := wrap_i64 (by omega) (by omega)
 have s1 := zIC c.kind 1 7
 rw [h1] at s1
 have s2 := zIC c.street 0 ((p.length : Int) - 1)
 rw [h2] at s2
 have s3 := zIC c.other 0 ((p.length : Int) - 1)
 rw [h3] at s3
 refine q8 func132 rfl (fun E hE => ?_); simp only [go_sem, ntmps132]
 repeat' (first | (refine Qr rfl ?_; try intro _ hK; try simp only [go_sem, *]) | refine Qh rfl ?_ | refine Qd rfl (by kernel_rfl) ?_ | (refine Qc rfl rfl ?_ ?_ <;> (intro hb; have hc := hb; try simp only [go_sem] at hc)) | refine q6 rfl ?_ | (refine Qb ?_ ?_; focus kernel_rfl) | ((first | refine y4 (s1) ?_ | refine y4 (s2) ?_ | refine y4 (s3) ?_); simp only [go_sem, *]) | ((with_reducible apply And.intro); focus omega) | (refine z8 hK ?_; clear hK; simp only [go_sem, *]) | simp only [z6, z7, go_sem, *])
 all_goals try contradiction
 refine ⟨[iV 3, .agg [iV c.kind, iV c.street, iV c.other, iV 0, iV 0, iV 0, iV 0]], [], [], ⟨rfl, by simp only [u1, go_sem], trivial⟩, ?_⟩
 simp only [go_sem, *]
theorem zQJ (p : zLo) (c : Change) (hp : p.length ≤ 4294967296) (h1 : zLr c.kind 1 7 = true) (h2 : zLr c.street 0 ((p.length : Int) - 1) = true) (k4 : (c.kind == 4) = false) (k5 : (c.kind == 5) = false) (k6 : (c.kind == 6) = false) (k7 : (c.kind == 7) = true) (h3 : zLr c.other 0 ((p.length : Int) - 1) = true) (h4 : (c.other == c.street) = true) : zLp prog 132 [x7 p, c.enc] [] (.tup [iV 4, .agg [iV c.kind, iV c.street, iV c.other, iV 0, iV 0, iV 0, iV 0]]) [] := by
 have hw : IntKind.i64.wrap ((p.length : Int) - 1) = (p.length : Int) - 1 := wrap_i64 (by omega) (by omega)
 have s1 := zIC c.kind 1 7
 rw [h1] at s1
 have s2 := zIC c.street 0 ((p.length : Int) - 1)
 rw [h2] at s2
 have s3 := zIC c.other 0 ((p.length : Int) - 1)
 rw [h3] at s3
 refine q8 func132 rfl (fun E hE => ?_); simp only [go_sem, ntmps132]
 repeat' (first | (refine Qr rfl ?_; try intro _ hK; try simp only [go_sem, *]) | refine Qh rfl ?_ | refine Qd rfl (by kernel_rfl) ?_ | (refine Qc rfl rfl ?_ ?_ <;> (intro hb; have hc := hb; try simp only [go_sem] at hc)) | refine q6 rfl ?_ | (refine Qb ?_ ?_; focus kernel_rfl) | ((first | refine y4 (s1) ?_ | refine y4 (s2) ?_ | refine y4 (s3) ?_); simp only [go_sem, *]) | ((with_reducible apply And.intro); focus omega) | (refine z8 hK ?_; clear hK; simp only [go_sem, *]) | simp only [z6, z7, go_sem, *])
 all_goals try contradiction
 refine ⟨[iV 4, .agg [iV c.kind, iV c.street, iV c.other, iV 0, iV 0, iV 0, iV 0]], [], [], ⟨rfl, by simp only [u1, go_sem], trivial⟩, ?_⟩
 simp only [go_sem, *]
theorem zQC (p : zLo) (c : Change) (hp : p.length ≤ 4294967296) (h1 : zLr c.kind 1 7 = true) (h2 : zLr c.street 0 ((p.length : Int) - 1) = true) (k4 : (c.kind == 4) = true) (k5 : (c.kind == 5) = false) (k6 : (c.kind == 6) = false) (k7 : (c.kind == 7) = false) (h3 : zLr c.other 0 ((p.length : Int) - 1) = true) (h4 : (c.other == c.street) = false) : zLp prog 132 [x7 p, c.enc] [] (.tup [iV 0, .agg [iV c.kind, iV c.street, iV c.other, iV 0, iV 0, iV 0, iV 0]]) [] := by
 have hw : IntKind.i64.wrap ((p.length : Int) - 1) = (p.length : Int) - 1 := wrap_i64 (by omega) (by omega)
 have s1 := zIC c.kind 1 7
 rw [h1] at s1
 have s2 := zIC c.street 0 ((p.length : Int) - 1)
 rw [h2] at s2
 have s3 := zIC c.other 0 ((p.length : Int) - 1)
 rw [h3] at s3
 refine q8 func132 rfl (fun E hE => ?_); simp only [go_sem, ntmps132]
 repeat' (first | (refine Qr rfl ?_; try intro _ hK; try simp only [go_sem, *]) | refine Qh rfl ?_ | refine Qd rfl (by kernel_rfl) ?_ | (refine Qc rfl rfl ?_ ?_ <;> (intro hb; have hc := hb; try simp only [go_sem] at hc)) | refine q6 rfl ?_ | (refine Qb ?_ ?_; focus kernel_rfl) | ((first | refine y4 (s1) ?_ | refine y4 (s2) ?_ | refine y4 (s3) ?_); simp only [go_sem, *]) | ((with_reducible apply And.intro); focus omega) | (refine z8 hK ?_; clear hK; simp only [go_sem, *]) | simp only [z6, z7, go_sem, *])
 all_goals try contradiction
 refine ⟨[iV 0, .agg [iV c.kind, iV c.street, iV c.other, iV 0, iV 0, iV 0, iV 0]], [], [], ⟨rfl, by simp only [u1, go_sem], trivial⟩, ?_⟩
 simp only [go_sem, *]
theorem zQF (p : zLo) (c : Change) (hp : p.length ≤ 4294967296) (h1 : zLr c.kind 1 7 = true) (h2 : zLr c.street 0 ((p.length : Int) - 1) = true) (k4 : (c.kind == 4) = false) (k5 : (c.kind == 5) = false) (k6 : (c.kind == 6) = false) (k7 : (c.kind == 7) = true) (h3 : zLr c.other 0 ((p.length : Int) - 1) = true) (h4 : (c.other == c.street) = false) : zLp prog 132 [x7 p, c.enc] [] (.tup [iV 0, .agg [iV c.kind, iV c.street, iV c.other, iV c.src.number, iV c.src.letter, iV c.dst.number, iV c.dst.letter]]) [] := by
 have hw : IntKind.i64.wrap ((p.length : Int) - 1) = (p.length : Int) - 1 := wrap_i64 (by omega) (by omega)
 have s1 := zIC c.kind 1 7
 rw [h1] at s1
 have s2 := zIC c.street 0 ((p.length : Int) - 1)
 rw [h2] at s2
 have s3 := zIC c.other 0 ((p.length : Int) - 1)
 rw [h3] at s3
 refine q8 func132 rfl (fun E hE => ?_); simp only [go_sem, ntmps132]
 repeat' (first | (refine Qr rfl ?_; try intro _ hK; try simp only [go_sem, *]) | refine Qh rfl ?_ | refine Qd rfl (by kernel_rfl) ?_ | (refine Qc rfl rfl ?_ ?_ <;> (intro hb; have hc := hb; try simp only [go_sem] at hc)) | refine q6 rfl ?_ | (refine Qb ?_ ?_; focus kernel_rfl) | ((first | refine y4 (s1) ?_ | refine y4 (s2) ?_ | refine y4 (s3) ?_); simp only [go_sem, *]) | ((with_reducible apply And.intro); focus omega) | (refine z8 hK ?_; clear hK; simp only [go_sem, *]) | simp only [z6, z7, go_sem, *])
 all_goals try contradiction
 refine ⟨[iV 0, .agg [iV c.kind, iV c.street, iV c.other, iV c.src.number, iV c.src.letter, iV c.dst.number, iV c.dst.letter]], [], [], ⟨rfl, by simp only [u1, go_sem], trivial⟩, ?_⟩
 simp only [go_sem, *]
theorem zQD (p : zLo) (c : Change) (hp : p.length ≤ 4294967296) (h1 : zLr c.kind 1 7 = true) (h2 : zLr c.street 0 ((p.length : Int) - 1) = true) (k4 : (c.kind == 4) = false) (k5 : (c.kind == 5) = true) (k6 : (c.kind == 6) = false) (k7 : (c.kind == 7) = false) : zLp prog 132 [x7 p, c.enc] [] (.tup [iV 0, .agg [iV c.kind, iV c.street, iV 0, iV c.src.number, iV c.src.letter, iV 0, iV 0]]) [] := by
 have hw : IntKind.i64.wrap ((p.length : Int) - 1) = (p.length : Int) - 1 := wrap_i64 (by omega) (by omega)
 have s1 := zIC c.kind 1 7
 rw [h1] at s1
 have s2 := zIC c.street 0 ((p.length : Int) - 1)
 rw [h2] at s2
 refine q8 func132 rfl (fun E hE => ?_); simp only [go_sem, ntmps132]
 repeat' (first | (refine Qr rfl ?_; try intro _ hK; try simp only [go_sem, *]) | refine Qh rfl ?_ | refine Qd rfl (by kernel_rfl) ?_ | (refine Qc rfl rfl ?_ ?_ <;> (intro hb; have hc := hb; try simp only [go_sem] at hc)) | refine q6 rfl ?_ | (refine Qb ?_ ?_; focus kernel_rfl) | ((first | refine y4 (s1) ?_ | refine y4 (s2) ?_); simp only [go_sem, *]) | ((with_reducible apply And.intro); focus omega) | (refine z8 hK ?_; clear hK; simp only [go_sem, *]) | simp only [z6, z7, go_sem, *])
 all_goals try contradiction
 refine ⟨[iV 0, .agg [iV c.kind, iV c.street, iV 0, iV c.src.number, iV c.src.letter, iV 0, iV 0]], [], [], ⟨rfl, by simp only [u1, go_sem], trivial⟩, ?_⟩
 simp only [go_sem, *]
theorem zQE (p : zLo) (c : Change) (hp : p.length ≤ 4294967296) (h1 : zLr c.kind 1 7 = true) (h2 : zLr c.street 0 ((p.length : Int) - 1) = true) (k4 : (c.kind == 4) = false) (k5 : (c.kind == 5) = false) (k6 : (c.kind == 6) = true) (k7 : (c.kind == 7) = false) : zLp prog 132 [x7 p, c.enc] [] (.tup [iV 0, .agg [iV c.kind, iV c.street, iV 0, iV c.src.number, iV c.src.letter, iV 0, iV 0]]) [] := by
 have hw : IntKind.i64.wrap ((p.length : Int) - 1) = (p.length : Int) - 1 := wrap_i64 (by omega) (by omega)
 have s1 := zIC c.kind 1 7
 rw [h1] at s1
 have s2 := zIC c.street 0 ((p.length : Int) - 1)
 rw [h2] at s2
 refine q8 func132 rfl (fun E hE => ?_); simp only [go_sem, ntmps132]
 repeat' (first | (refine Qr rfl ?_; try intro _ hK; try simp only [go_sem, *]) | refine Qh rfl ?_ | refine Qd rfl (by kernel_rfl) ?_ | (refine Qc rfl rfl ?_ ?_ <;> (intro hb; have hc := hb; try simp only [go_sem] at hc)) | refine q6 rfl ?_ | (refine Qb ?_ ?_; focus kernel_rfl) | ((first | refine y4 (s1) ?_ | refine y4 (s2) ?_); simp only [go_sem, *]) | ((with_reducible apply And.intro); focus omega) | (refine z8 hK ?_; clear hK; simp only [go_sem, *]) | simp only [z6, z7, go_sem, *])
 all_goals try contradiction
 refine ⟨[iV 0, .agg [iV c.kind, iV c.street, iV 0, iV c.src.number, iV c.src.letter, iV 0, iV 0]], [], [], ⟨rfl, by simp only [u1, go_sem], trivial⟩, ?_⟩
 simp only [go_sem, *]
theorem zQB (p : zLo) (c : Change) (hp : p.length ≤ 4294967296) (h1 : zLr c.kind 1 7 = true) (h2 : zLr c.street 0 ((p.length : Int) - 1) = true) (k4 : (c.kind == 4) = false) (k5 : (c.kind == 5) = false) (k6 : (c.kind == 6) = false) (k7 : (c.kind == 7) = false) : zLp prog 132 [x7 p, c.enc] [] (.tup [iV 0, .agg [iV c.kind, iV c.street, iV 0, iV 0, iV 0, iV 0, iV 0]]) [] := by
 have hw : IntKind.i64.wrap ((p.length : Int) - 1) = (p.length : Int) - 1 := wrap_i64 (by omega) (by omega)
 have s1 := zIC c.kind 1 7
 rw [h1] at s1
 have s2 := zIC c.street 0 ((p.length : Int) - 1)
 rw [h2] at s2
 refine q8 func132 rfl (fun E hE => ?_); simp only [go_sem, ntmps132]
 repeat' (first | (refine Qr rfl ?_; try intro _ hK; try simp only [go_sem, *]) | refine Qh rfl ?_ | refine Qd rfl (by kernel_rfl) ?_ | (refine Qc rfl rfl ?_ ?_ <;> (intro hb; have hc := hb; try simp only [go_sem] at hc)) | refine q6 rfl ?_ | (refine Qb ?_ ?_; focus kernel_rfl) | ((first | refine y4 (s1) ?_ | refine y4 (s2) ?_); simp only [go_sem, *]) | ((with_reducible apply And.intro); focus omega) | (refine z8 hK ?_; clear hK; simp only [go_sem, *]) | simp only [z6, z7, go_sem, *])
 all_goals try contradiction
 refine ⟨[iV 0, .agg [iV c.kind, iV c.street, iV 0, iV 0, iV 0, iV 0, iV 0]], [], [], ⟨rfl, by simp only [u1, go_sem], trivial⟩, ?_⟩
 simp only [go_sem, *]
def zND (p : zLo) (c : Change) : Int :=
 if zLr c.kind 1 7 = false then 8
 else if zLr c.street 0 (p.length - 1) = false then 3
 else if (c.kind = 4 ∨ c.kind = 7) ∧ zLr c.other 0 (p.length - 1) = false then 3
 else if (c.kind = 4 ∨ c.kind = 7) ∧ c.other = c.street then 4 else 0
def zNK (c : Change) : Change := ⟨c.kind, c.street, if c.kind = 4 ∨ c.kind = 7 then c.other else 0, if 5 ≤ c.kind then c.src else zeroPlate, if c.kind = 7 then c.dst else zeroPlate⟩
theorem zPf (p : zLo) (c : Change) : can p c = if zND p c = 0 then (if c = zNK c then x9 p c else 1) else zND p c := by
 unfold can zND
 by_cases h1 : zLr c.kind 1 7 = false
 ·rw [if_pos h1, if_pos h1, if_neg (by decide)]
 rw [if_neg h1, if_neg h1]
 by_cases h2 : zLr c.street 0 (p.length - 1) = false
 ·rw [if_pos h2, if_pos h2, if_neg (by decide)]
 rw [if_neg h2, if_neg h2]
 by_cases h3 : (c.kind = 4 ∨ c.kind = 7) ∧ zLr c.other 0 (p.length - 1) = false
 ·rw [if_pos h3, if_pos h3, if_neg (by decide)]
 rw [if_neg h3, if_neg h3]
 by_cases h4 : (c.kind = 4 ∨ c.kind = 7) ∧ c.other = c.street
 ·rw [if_pos h4, if_pos h4, if_neg (by decide)]
 rw [if_neg h4, if_neg h4, if_pos rfl]
 by_cases h5 : (¬ (c.kind = 4 ∨ c.kind = 7) ∧ c.other ≠ 0) ∨ (¬ 5 ≤ c.kind ∧ c.src ≠ zeroPlate) ∨ (¬ c.kind = 7 ∧ c.dst ≠ zeroPlate)
 ·rw [if_pos h5, if_neg]
  intro e
  rw [Change.eq_iff] at e
  obtain ⟨_, _, e1, e2, e3⟩ := e
  simp only [zNK] at e1 e2 e3
  rcases h5 with ⟨a, b⟩ | ⟨a, b⟩ | ⟨a, b⟩
  ·rw [if_neg a] at e1; exact b e1
  ·rw [if_neg a] at e2; exact b e2
  ·rw [if_neg a] at e3; exact b e3
 ·rw [if_neg h5, if_pos]
  rw [Change.eq_iff]
  refine ⟨rfl, rfl, ?_, ?_, ?_⟩
  ·simp only [zNK]
   split
   ·rfl
   ·rename_i a; exact Classical.byContradiction fun b => h5 (.inl ⟨a, b⟩)
  ·simp only [zNK]
   split
   ·rfl
   ·rename_i a; exact Classical.byContradiction fun b => h5 (.inr (.inl ⟨a, b⟩))
  ·simp only [zNK]
   split
   ·rfl
   ·rename_i a; exact Classical.byContradiction fun b => h5 (.inr (.inr ⟨a, b⟩))
theorem zQm (p : zLo) (c : Change) (hp : p.length ≤ 4294967296) : ∃ x : Change, (zND p c = 0 → x = zNK c) ∧ zLp prog 132 [x7 p, c.enc] [] (.tup [iV (zND p c), x.enc]) [] := by
 have bt : ∀ {b : Bool}, ¬ b = false → b = true := fun h => by simpa using h
 have nk : ∀ n : Int, ¬ c.kind = n → (c.kind == n) = false := fun n h => by rw [beq_eq_false_iff_ne]; exact h
 have yk : ∀ n : Int, c.kind = n → (c.kind == n) = true := fun n h => by rw [beq_iff_eq]; exact h
 by_cases h1 : zLr c.kind 1 7 = false
 ·have e : zND p c = 8 := by unfold zND; rw [if_pos h1]
  rw [e]
  exact ⟨⟨c.kind, c.street, 0, zeroPlate, zeroPlate⟩, fun h => by omega, zQA p c hp h1⟩
 by_cases h2 : zLr c.street 0 (p.length - 1) = false
 ·have e : zND p c = 3 := by unfold zND; rw [if_neg h1, if_pos h2]
  rw [e]
  exact ⟨⟨c.kind, c.street, 0, zeroPlate, zeroPlate⟩, fun h => by omega, zQK p c hp (bt h1) h2⟩
 have b1 := bt h1
 have b2 := bt h2
 by_cases k47 : c.kind = 4 ∨ c.kind = 7
 ·by_cases h3 : zLr c.other 0 (p.length - 1) = false
  ·have e : zND p c = 3 := by unfold zND; rw [if_neg h1, if_neg h2, if_pos ⟨k47, h3⟩]
   rw [e]
   refine ⟨⟨c.kind, c.street, c.other, zeroPlate, zeroPlate⟩, fun h => by omega, ?_⟩
   rcases k47 with k | k
   ·exact zQG p c hp b1 b2 (yk 4 k) (nk 5 (by omega)) (nk 6 (by omega)) (nk 7 (by omega)) h3
   ·exact zQH p c hp b1 b2 (nk 4 (by omega)) (nk 5 (by omega)) (nk 6 (by omega)) (yk 7 k) h3
  ·have b3 := bt h3
   by_cases h4 : c.other = c.street
   ·have e : zND p c = 4 := by unfold zND; rw [if_neg h1, if_neg h2, if_neg (fun h => h3 h.2), if_pos ⟨k47, h4⟩]
    have s4 : (c.other == c.street) = true := by rw [beq_iff_eq]; exact h4
    rw [e]
    refine ⟨⟨c.kind, c.street, c.other, zeroPlate, zeroPlate⟩, fun h => by omega, ?_⟩
    rcases k47 with k | k
    ·exact zQI p c hp b1 b2 (yk 4 k) (nk 5 (by omega)) (nk 6 (by omega)) (nk 7 (by omega)) b3 s4
    ·exact zQJ p c hp b1 b2 (nk 4 (by omega)) (nk 5 (by omega)) (nk 6 (by omega)) (yk 7 k) b3 s4
   ·have e : zND p c = 0 := by unfold zND; rw [if_neg h1, if_neg h2, if_neg (fun h => h3 h.2), if_neg (fun h => h4 h.2)]
    have s4 : (c.other == c.street) = false := by rw [beq_eq_false_iff_ne]; exact h4
    rw [e]
    rcases k47 with k | k
    ·refine ⟨⟨c.kind, c.street, c.other, zeroPlate, zeroPlate⟩, fun _ => ?_, zQC p c hp b1 b2 (yk 4 k) (nk 5 (by omega)) (nk 6 (by omega)) (nk 7 (by omega)) b3 s4⟩
     unfold zNK; simp [k]
    ·refine ⟨⟨c.kind, c.street, c.other, c.src, c.dst⟩, fun _ => ?_, zQF p c hp b1 b2 (nk 4 (by omega)) (nk 5 (by omega)) (nk 6 (by omega)) (yk 7 k) b3 s4⟩
     unfold zNK; simp [k]
 ·have e : zND p c = 0 := by unfold zND; rw [if_neg h1, if_neg h2, if_neg (fun h => k47 h.1), if_neg (fun h => k47 h.1)]
  rw [e]
  by_cases k5 : c.kind = 5
  ·refine ⟨⟨c.kind, c.street, 0, c.src, zeroPlate⟩, fun _ => ?_, zQD p c hp b1 b2 (nk 4 (by omega)) (yk 5 k5) (nk 6 (by omega)) (nk 7 (by omega))⟩
   unfold zNK; simp [k5]
  ·by_cases k6 : c.kind = 6
   ·refine ⟨⟨c.kind, c.street, 0, c.src, zeroPlate⟩, fun _ => ?_, zQE p c hp b1 b2 (nk 4 (by omega)) (nk 5 k5) (yk 6 k6) (nk 7 (by omega))⟩
    unfold zNK; simp [k6]
   ·have hk := betw_iff.1 b1
    refine ⟨⟨c.kind, c.street, 0, zeroPlate, zeroPlate⟩, fun _ => ?_, zQB p c hp b1 b2 (nk 4 (by omega)) (nk 5 k5) (nk 6 k6) (nk 7 (by omega))⟩
    unfold zNK
    rw [if_neg k47, if_neg (by omega), if_neg (by omega)]
end Go.Abs

namespace Go.Abs
open Go Go.Proofs Tryz
attribute [local irreducible] y6 Hold x8
theorem zOl (l : List Plate) (x : Plate) : zMI l x < 0 ↔ x ∉ l := by
 unfold zMI
 split
 ·rename_i h; simp [h]
 ·rename_i h; simp [h]
theorem zNw {l : List Plate} {x : Plate} (h : x ∈ l) : ¬ zMI l x < 0 := fun e => (zOl l x).1 e h
theorem zNv {l : List Plate} {x : Plate} (h : x ∉ l) : zMI l x < 0 := (zOl l x).2 h
theorem zPu (p : zLo) (c : Change) (v : Valid p) (hs : 0 ≤ c.street ∧ c.street < p.length) (ho : 0 ≤ c.other ∧ c.other < p.length) (k : c.kind = 4) (R : Int) (hR : x9 p c = R) : zLp prog 133 [x7 p, c.enc] [] (iV R) [] := by
 have hl := (v.row c.street).len
 have hol := (v.row c.other).len
 have hob := zDv (v.row c.other)
 have hok := (v.row c.street).ok
 have sb := zLX (q7 p c.other) (by omega) (v.row c.other).ok
 have hs' : c.street.toNat < p.length := by omega
 have ho' : c.other.toNat < p.length := by omega
 obtain ⟨hs0, hs1⟩ := hs
 obtain ⟨ho0, ho1⟩ := ho
 have hw : IntKind.i64.wrap (((q7 p c.street).length : Int) + ((q7 p c.other).length : Int)) = ((q7 p c.street).length : Int) + ((q7 p c.other).length : Int) := wrap_i64 (by omega) (by omega)
 rw [A7 k] at hR
 have k' : (c.kind == 4) = true := by rw [beq_iff_eq]; exact k
 clear k
 by_cases q : 8 < (q7 p c.street).length + (q7 p c.other).length
 ·rw [if_pos q] at hR
  have q' : ((q7 p c.street).length : Int) + ((q7 p c.other).length : Int) > 8 := by omega
  subst hR
  clear hob hok
  refine q8 func133 rfl (fun E hE => ?_); simp only [go_sem, ntmps133]
  repeat' (first | (refine Qr rfl ?_; try intro _ hK; try simp only [go_sem, *]) | (refine Qi rfl rfl rfl rfl ?_ ?_ <;> (intro hb; (try intro _ hK); have hc := hb; try simp only [go_sem] at hc; simp only [go_sem, *])) | refine Qh rfl ?_ | refine Qd rfl (by kernel_rfl) ?_ | (refine Qc rfl rfl ?_ ?_ <;> (intro hb; have hc := hb; try simp only [go_sem] at hc)) | refine q6 rfl ?_ | (refine Qb ?_ ?_; focus kernel_rfl) | ((with_reducible apply And.intro); focus omega) | (refine z8 hK ?_; clear hK; simp only [go_sem, *]) | simp only [z6, z7, go_sem, *])
  all_goals first | contradiction | omega | skip
  (refine ⟨[_], [], [], ⟨rfl, trivial⟩, ?_⟩; simp only [go_sem, *])
 ·rw [if_neg q] at hR
  have q' : ¬ ((q7 p c.street).length : Int) + ((q7 p c.other).length : Int) > 8 := by omega
  have hR0 : (if ((q7 p c.street).drop 0).any (fun x => decide (40 < x.number + base (q7 p c.other))) = true then (1 : Int) else 0) = R := hR
  clear hR q
  generalize base (q7 p c.other) = bb at *
  refine q8 func133 rfl (fun E hE => ?_); simp only [go_sem, ntmps133]
  repeat' (first | (refine Qr rfl ?_; try intro _ hK; try simp only [go_sem, *]) | (refine Qi rfl rfl rfl rfl ?_ ?_ <;> (intro hb; (try intro _ hK); have hc := hb; try simp only [go_sem] at hc; simp only [go_sem, *])) | refine Qh rfl ?_ | refine Qd rfl (by kernel_rfl) ?_ | (refine Qc rfl rfl ?_ ?_ <;> (intro hb; have hc := hb; try simp only [go_sem] at hc)) | refine q6 rfl ?_ | (refine Qb ?_ ?_; focus kernel_rfl) | ((with_reducible apply And.intro); focus omega) | (refine z8 hK ?_; clear hK; simp only [go_sem, *]) | simp only [z6, z7, go_sem, *])
  all_goals first | contradiction | omega | skip
  generalize hll : q7 p c.street = l at *
  refine u3 rfl (l.length) (fun i => (if (l.drop i).any (fun x => decide (40 < x.number + bb)) = true then (1 : Int) else 0) = R) 97 (fun i => [(7, iV i), (6, y7 (q7 p c.other)), (5, y7 l)]) (fun i => []) [] [] (by exact hR0) ?_; intro i hi hP
  clear hR0
  by_cases hi2 : i < l.length
  ·have hx := (o3 _).1 (hok _ (w8 hi2))
   rw [u0 hi2, List.any_cons] at hP
   have hwx : IntKind.i64.wrap ((l.getD i default).number + bb) = (l.getD i default).number + bb := wrap_i64 (by omega) (by omega)
   by_cases r : 40 < (l.getD i default).number + bb
   ·have e : decide (40 < (l.getD i default).number + bb) = true := by simpa using r
    rw [e, Bool.true_or, if_pos rfl] at hP
    have r' : (l.getD i default).number + bb > 40 := r
    clear e r
    subst hP
    repeat' (first | (refine Qr rfl ?_; try intro _ hK; try simp only [go_sem, *]) | (refine Qi rfl rfl rfl rfl ?_ ?_ <;> (intro hb; (try intro _ hK); have hc := hb; try simp only [go_sem] at hc; simp only [go_sem, *])) | refine Qh rfl ?_ | refine Qd rfl (by kernel_rfl) ?_ | (refine Qc rfl rfl ?_ ?_ <;> (intro hb; have hc := hb; try simp only [go_sem] at hc)) | refine q6 rfl ?_ | (refine Qb ?_ ?_; focus kernel_rfl) | (refine y4 (sb) ?_; simp only [go_sem, *]) | ((with_reducible apply And.intro); focus omega) | (refine z8 hK ?_; clear hK; simp only [go_sem, *]) | simp only [z6, z7, go_sem, *])
    all_goals first | contradiction | omega | skip
    (refine ⟨[_], [], [], ⟨rfl, trivial⟩, ?_⟩; simp only [go_sem, *])
   ·have e : decide (40 < (l.getD i default).number + bb) = false := by simpa using r
    rw [e, Bool.false_or] at hP
    have r' : ¬ (l.getD i default).number + bb > 40 := r
    clear e r
    repeat' (first | (refine Qr rfl ?_; try intro _ hK; try simp only [go_sem, *]) | (refine Qi rfl rfl rfl rfl ?_ ?_ <;> (intro hb; (try intro _ hK); have hc := hb; try simp only [go_sem] at hc; simp only [go_sem, *])) | refine Qh rfl ?_ | refine Qd rfl (by kernel_rfl) ?_ | (refine Qc rfl rfl ?_ ?_ <;> (intro hb; have hc := hb; try simp only [go_sem] at hc)) | refine q6 rfl ?_ | (refine Qb ?_ ?_; focus kernel_rfl) | (refine y4 (sb) ?_; simp only [go_sem, *]) | ((with_reducible apply And.intro); focus omega) | (refine z8 hK ?_; clear hK; simp only [go_sem, *]) | simp only [z6, z7, go_sem, *])
    all_goals first | contradiction | omega | skip
    exact u2 (i' := i + 1) [] [] (by exact hP)
  ·rw [u7 (by omega), List.any_nil, if_neg (by decide)] at hP
   subst hP
   repeat' (first | (refine Qr rfl ?_; try intro _ hK; try simp only [go_sem, *]) | (refine Qi rfl rfl rfl rfl ?_ ?_ <;> (intro hb; (try intro _ hK); have hc := hb; try simp only [go_sem] at hc; simp only [go_sem, *])) | refine Qh rfl ?_ | refine Qd rfl (by kernel_rfl) ?_ | (refine Qc rfl rfl ?_ ?_ <;> (intro hb; have hc := hb; try simp only [go_sem] at hc)) | refine q6 rfl ?_ | (refine Qb ?_ ?_; focus kernel_rfl) | ((with_reducible apply And.intro); focus omega) | (refine z8 hK ?_; clear hK; simp only [go_sem, *]) | simp only [z6, z7, go_sem, *])
   (refine ⟨[_], [], [], ⟨rfl, trivial⟩, ?_⟩; simp only [go_sem, *])
theorem zPv (p : zLo) (c : Change) (v : Valid p) (hs : 0 ≤ c.street ∧ c.street < p.length) (k : c.kind = 5) (R : Int) (hR : x9 p c = R) : zLp prog 133 [x7 p, c.enc] [] (iV R) [] := by
 have hl := (v.row c.street).len
 have hs' : c.street.toNat < p.length := by omega
 obtain ⟨hs0, hs1⟩ := hs
 rw [L9 k] at hR
 have k' : (c.kind == 5) = true := by rw [beq_iff_eq]; exact k
 have k4 : (c.kind == 4) = false := by rw [beq_eq_false_iff_ne]; omega
 clear k
 have s1 := zHp (q7 p c.street) c.src (by omega)
 have s2 := zLY (q7 p c.street) c.src.number (by omega)
 by_cases q : c.src ∈ q7 p c.street
 ·rw [if_neg (by simpa using q)] at hR
  have q' := zNw q
  clear q
  generalize zMI (q7 p c.street) c.src = ix at *
  generalize letter (q7 p c.street) c.src.number = lt at *
  by_cases r : (q7 p c.street).length = 8
  ·rw [if_pos (.inl r)] at hR
   have r' : (((q7 p c.street).length : Int) == 8) = true := by rw [beq_iff_eq]; omega
   clear r
   subst hR
   refine q8 func133 rfl (fun E hE => ?_); simp only [go_sem, ntmps133]
   repeat' (first | (refine Qr rfl ?_; try intro _ hK; try simp only [go_sem, *]) | (refine Qi rfl rfl rfl rfl ?_ ?_ <;> (intro hb; (try intro _ hK); have hc := hb; try simp only [go_sem] at hc; simp only [go_sem, *])) | refine Qh rfl ?_ | refine Qd rfl (by kernel_rfl) ?_ | (refine Qc rfl rfl ?_ ?_ <;> (intro hb; have hc := hb; try simp only [go_sem] at hc)) | refine q6 rfl ?_ | (refine Qb ?_ ?_; focus kernel_rfl) | ((first | refine y4 (s1) ?_ | refine y4 (s2) ?_); simp only [go_sem, *]) | ((with_reducible apply And.intro); focus omega) | (refine z8 hK ?_; clear hK; simp only [go_sem, *]) | simp only [z6, z7, go_sem, *])
   all_goals first | contradiction | omega | skip
   (refine ⟨[_], [], [], ⟨rfl, trivial⟩, ?_⟩; simp only [go_sem, *])
  ·have r' : (((q7 p c.street).length : Int) == 8) = false := by rw [beq_eq_false_iff_ne]; omega
   by_cases t : lt = 0
   ·rw [if_pos (.inr t)] at hR
    clear r
    subst t
    subst hR
    refine q8 func133 rfl (fun E hE => ?_); simp only [go_sem, ntmps133]
    repeat' (first | (refine Qr rfl ?_; try intro _ hK; try simp only [go_sem, *]) | (refine Qi rfl rfl rfl rfl ?_ ?_ <;> (intro hb; (try intro _ hK); have hc := hb; try simp only [go_sem] at hc; simp only [go_sem, *])) | refine Qh rfl ?_ | refine Qd rfl (by kernel_rfl) ?_ | (refine Qc rfl rfl ?_ ?_ <;> (intro hb; have hc := hb; try simp only [go_sem] at hc)) | refine q6 rfl ?_ | (refine Qb ?_ ?_; focus kernel_rfl) | ((first | refine y4 (s1) ?_ | refine y4 (s2) ?_); simp only [go_sem, *]) | ((with_reducible apply And.intro); focus omega) | (refine z8 hK ?_; clear hK; simp only [go_sem, *]) | simp only [z6, z7, go_sem, *])
    all_goals first | contradiction | omega | skip
    (refine ⟨[_], [], [], ⟨rfl, trivial⟩, ?_⟩; simp only [go_sem, *])
   ·rw [if_neg (by rintro (h | h); exact r h; exact t h)] at hR
    have t' : (lt == 0) = false := by rw [beq_eq_false_iff_ne]; exact t
    clear r t
    subst hR
    refine q8 func133 rfl (fun E hE => ?_); simp only [go_sem, ntmps133]
    repeat' (first | (refine Qr rfl ?_; try intro _ hK; try simp only [go_sem, *]) | (refine Qi rfl rfl rfl rfl ?_ ?_ <;> (intro hb; (try intro _ hK); have hc := hb; try simp only [go_sem] at hc; simp only [go_sem, *])) | refine Qh rfl ?_ | refine Qd rfl (by kernel_rfl) ?_ | (refine Qc rfl rfl ?_ ?_ <;> (intro hb; have hc := hb; try simp only [go_sem] at hc)) | refine q6 rfl ?_ | (refine Qb ?_ ?_; focus kernel_rfl) | ((first | refine y4 (s1) ?_ | refine y4 (s2) ?_); simp only [go_sem, *]) | ((with_reducible apply And.intro); focus omega) | (refine z8 hK ?_; clear hK; simp only [go_sem, *]) | simp only [z6, z7, go_sem, *])
    all_goals first | contradiction | omega | skip
    (refine ⟨[_], [], [], ⟨rfl, trivial⟩, ?_⟩; simp only [go_sem, *])
 ·rw [if_pos q] at hR
  have q' := zNv q
  clear q
  generalize zMI (q7 p c.street) c.src = ix at *
  subst hR
  refine q8 func133 rfl (fun E hE => ?_); simp only [go_sem, ntmps133]
  repeat' (first | (refine Qr rfl ?_; try intro _ hK; try simp only [go_sem, *]) | (refine Qi rfl rfl rfl rfl ?_ ?_ <;> (intro hb; (try intro _ hK); have hc := hb; try simp only [go_sem] at hc; simp only [go_sem, *])) | refine Qh rfl ?_ | refine Qd rfl (by kernel_rfl) ?_ | (refine Qc rfl rfl ?_ ?_ <;> (intro hb; have hc := hb; try simp only [go_sem] at hc)) | refine q6 rfl ?_ | (refine Qb ?_ ?_; focus kernel_rfl) | (refine y4 (s1) ?_; simp only [go_sem, *]) | ((with_reducible apply And.intro); focus omega) | (refine z8 hK ?_; clear hK; simp only [go_sem, *]) | simp only [z6, z7, go_sem, *])
  all_goals first | contradiction | omega | skip
  (refine ⟨[_], [], [], ⟨rfl, trivial⟩, ?_⟩; simp only [go_sem, *])
theorem zPw (p : zLo) (c : Change) (v : Valid p) (hs : 0 ≤ c.street ∧ c.street < p.length) (k : c.kind = 6) (R : Int) (hR : x9 p c = R) : zLp prog 133 [x7 p, c.enc] [] (iV R) [] := by
 have hl := (v.row c.street).len
 have hs' : c.street.toNat < p.length := by omega
 obtain ⟨hs0, hs1⟩ := hs
 rw [zBe k] at hR
 have k' : (c.kind == 6) = true := by rw [beq_iff_eq]; exact k
 have k4 : (c.kind == 4) = false := by rw [beq_eq_false_iff_ne]; omega
 have k5 : (c.kind == 5) = false := by rw [beq_eq_false_iff_ne]; omega
 clear k
 have s1 := zHp (q7 p c.street) c.src (by omega)
 by_cases q : c.src ∈ q7 p c.street
 ·rw [if_neg (by simpa using q)] at hR
  have q' := zNw q
  clear q
  generalize zMI (q7 p c.street) c.src = ix at *
  subst hR
  refine q8 func133 rfl (fun E hE => ?_); simp only [go_sem, ntmps133]
  repeat' (first | (refine Qr rfl ?_; try intro _ hK; try simp only [go_sem, *]) | (refine Qi rfl rfl rfl rfl ?_ ?_ <;> (intro hb; (try intro _ hK); have hc := hb; try simp only [go_sem] at hc; simp only [go_sem, *])) | refine Qh rfl ?_ | refine Qd rfl (by kernel_rfl) ?_ | (refine Qc rfl rfl ?_ ?_ <;> (intro hb; have hc := hb; try simp only [go_sem] at hc)) | refine q6 rfl ?_ | (refine Qb ?_ ?_; focus kernel_rfl) | (refine y4 (s1) ?_; simp only [go_sem, *]) | ((with_reducible apply And.intro); focus omega) | (refine z8 hK ?_; clear hK; simp only [go_sem, *]) | simp only [z6, z7, go_sem, *])
  all_goals first | contradiction | omega | skip
  (refine ⟨[_], [], [], ⟨rfl, trivial⟩, ?_⟩; simp only [go_sem, *])
 ·rw [if_pos q] at hR
  have q' := zNv q
  clear q
  generalize zMI (q7 p c.street) c.src = ix at *
  subst hR
  refine q8 func133 rfl (fun E hE => ?_); simp only [go_sem, ntmps133]
  repeat' (first | (refine Qr rfl ?_; try intro _ hK; try simp only [go_sem, *]) | (refine Qi rfl rfl rfl rfl ?_ ?_ <;> (intro hb; (try intro _ hK); have hc := hb; try simp only [go_sem] at hc; simp only [go_sem, *])) | refine Qh rfl ?_ | refine Qd rfl (by kernel_rfl) ?_ | (refine Qc rfl rfl ?_ ?_ <;> (intro hb; have hc := hb; try simp only [go_sem] at hc)) | refine q6 rfl ?_ | (refine Qb ?_ ?_; focus kernel_rfl) | (refine y4 (s1) ?_; simp only [go_sem, *]) | ((with_reducible apply And.intro); focus omega) | (refine z8 hK ?_; clear hK; simp only [go_sem, *]) | simp only [z6, z7, go_sem, *])
  all_goals first | contradiction | omega | skip
  (refine ⟨[_], [], [], ⟨rfl, trivial⟩, ?_⟩; simp only [go_sem, *])
theorem zPx (p : zLo) (c : Change) (v : Valid p) (hs : 0 ≤ c.street ∧ c.street < p.length) (ho : 0 ≤ c.other ∧ c.other < p.length) (k : c.kind = 7) (R : Int) (hR : x9 p c = R) : zLp prog 133 [x7 p, c.enc] [] (iV R) [] := by
 have hl := (v.row c.street).len
 have hs' : c.street.toNat < p.length := by omega
 have ho' : c.other.toNat < p.length := by omega
 obtain ⟨hs0, hs1⟩ := hs
 obtain ⟨ho0, ho1⟩ := ho
 rw [G2 k] at hR
 have k' : (c.kind == 7) = true := by rw [beq_iff_eq]; exact k
 have k4 : (c.kind == 4) = false := by rw [beq_eq_false_iff_ne]; omega
 have k5 : (c.kind == 5) = false := by rw [beq_eq_false_iff_ne]; omega
 have k6 : (c.kind == 6) = false := by rw [beq_eq_false_iff_ne]; omega
 clear k
 have s1 := zHp (q7 p c.street) c.src (by omega)
 have s2 := zHp (q7 p c.street) c.dst (by omega)
 have s3 := zHE c.dst c.src
 by_cases q : c.src ∈ q7 p c.street
 ·have q' := zNw q
  by_cases r : c.dst ∈ q7 p c.street
  ·have r' := zNw r
   rw [if_neg (by rintro (h | h); exact h q; exact h r)] at hR
   clear q r
   generalize zMI (q7 p c.street) c.src = ix at *
   generalize zMI (q7 p c.street) c.dst = iy at *
   by_cases t : c.dst.lt c.src = true
   ·rw [if_pos t] at hR
    rw [t] at s3
    clear t
    subst hR
    refine q8 func133 rfl (fun E hE => ?_); simp only [go_sem, ntmps133]
    repeat' (first | (refine Qr rfl ?_; try intro _ hK; try simp only [go_sem, *]) | (refine Qi rfl rfl rfl rfl ?_ ?_ <;> (intro hb; (try intro _ hK); have hc := hb; try simp only [go_sem] at hc; simp only [go_sem, *])) | refine Qh rfl ?_ | refine Qd rfl (by kernel_rfl) ?_ | (refine Qc rfl rfl ?_ ?_ <;> (intro hb; have hc := hb; try simp only [go_sem] at hc)) | refine q6 rfl ?_ | (refine Qb ?_ ?_; focus kernel_rfl) | ((first | refine y4 (s1) ?_ | refine y4 (s2) ?_ | refine y4 (s3) ?_); simp only [go_sem, *]) | ((with_reducible apply And.intro); focus omega) | (refine z8 hK ?_; clear hK; simp only [go_sem, *]) | simp only [z6, z7, go_sem, *])
    all_goals first | contradiction | omega | skip
    (refine ⟨[_], [], [], ⟨rfl, trivial⟩, ?_⟩; simp only [go_sem, *])
   ·rw [if_neg t] at hR
    rw [Bool.not_eq_true] at t
    rw [t] at s3
    clear t
    by_cases u : 0 < (q7 p c.other).length
    ·rw [if_pos u] at hR
     subst hR
     refine q8 func133 rfl (fun E hE => ?_); simp only [go_sem, ntmps133]
     repeat' (first | (refine Qr rfl ?_; try intro _ hK; try simp only [go_sem, *]) | (refine Qi rfl rfl rfl rfl ?_ ?_ <;> (intro hb; (try intro _ hK); have hc := hb; try simp only [go_sem] at hc; simp only [go_sem, *])) | refine Qh rfl ?_ | refine Qd rfl (by kernel_rfl) ?_ | (refine Qc rfl rfl ?_ ?_ <;> (intro hb; have hc := hb; try simp only [go_sem] at hc)) | refine q6 rfl ?_ | (refine Qb ?_ ?_; focus kernel_rfl) | ((first | refine y4 (s1) ?_ | refine y4 (s2) ?_ | refine y4 (s3) ?_); simp only [go_sem, *]) | ((with_reducible apply And.intro); focus omega) | (refine z8 hK ?_; clear hK; simp only [go_sem, *]) | simp only [z6, z7, go_sem, *])
     all_goals first | contradiction | omega | skip
     (refine ⟨[_], [], [], ⟨rfl, trivial⟩, ?_⟩; simp only [go_sem, *])
    ·rw [if_neg u] at hR
     subst hR
     refine q8 func133 rfl (fun E hE => ?_); simp only [go_sem, ntmps133]
     repeat' (first | (refine Qr rfl ?_; try intro _ hK; try simp only [go_sem, *]) | (refine Qi rfl rfl rfl rfl ?_ ?_ <;> (intro hb; (try intro _ hK); have hc := hb; try simp only [go_sem] at hc; simp only [go_sem, *])) | refine Qh rfl ?_ | refine Qd rfl (by kernel_rfl) ?_ | (refine Qc rfl rfl ?_ ?_ <;> (intro hb; have hc := hb; try simp only [go_sem] at hc)) | refine q6 rfl ?_ | (refine Qb ?_ ?_; focus kernel_rfl) | ((first | refine y4 (s1) ?_ | refine y4 (s2) ?_ | refine y4 (s3) ?_); simp only [go_sem, *]) | ((with_reducible apply And.intro); focus omega) | (refine z8 hK ?_; clear hK; simp only [go_sem, *]) | simp only [z6, z7, go_sem, *])
     all_goals first | contradiction | omega | skip
     (refine ⟨[_], [], [], ⟨rfl, trivial⟩, ?_⟩; simp only [go_sem, *])
  ·have r' := zNv r
   rw [if_pos (.inr r)] at hR
   clear q r
   generalize zMI (q7 p c.street) c.src = ix at *
   generalize zMI (q7 p c.street) c.dst = iy at *
   subst hR
   refine q8 func133 rfl (fun E hE => ?_); simp only [go_sem, ntmps133]
   repeat' (first | (refine Qr rfl ?_; try intro _ hK; try simp only [go_sem, *]) | (refine Qi rfl rfl rfl rfl ?_ ?_ <;> (intro hb; (try intro _ hK); have hc := hb; try simp only [go_sem] at hc; simp only [go_sem, *])) | refine Qh rfl ?_ | refine Qd rfl (by kernel_rfl) ?_ | (refine Qc rfl rfl ?_ ?_ <;> (intro hb; have hc := hb; try simp only [go_sem] at hc)) | refine q6 rfl ?_ | (refine Qb ?_ ?_; focus kernel_rfl) | ((first | refine y4 (s1) ?_ | refine y4 (s2) ?_); simp only [go_sem, *]) | ((with_reducible apply And.intro); focus omega) | (refine z8 hK ?_; clear hK; simp only [go_sem, *]) | simp only [z6, z7, go_sem, *])
   all_goals first | contradiction | omega | skip
   (refine ⟨[_], [], [], ⟨rfl, trivial⟩, ?_⟩; simp only [go_sem, *])
 ·have q' := zNv q
  rw [if_pos (.inl q)] at hR
  clear q
  generalize zMI (q7 p c.street) c.src = ix at *
  subst hR
  refine q8 func133 rfl (fun E hE => ?_); simp only [go_sem, ntmps133]
  repeat' (first | (refine Qr rfl ?_; try intro _ hK; try simp only [go_sem, *]) | (refine Qi rfl rfl rfl rfl ?_ ?_ <;> (intro hb; (try intro _ hK); have hc := hb; try simp only [go_sem] at hc; simp only [go_sem, *])) | refine Qh rfl ?_ | refine Qd rfl (by kernel_rfl) ?_ | (refine Qc rfl rfl ?_ ?_ <;> (intro hb; have hc := hb; try simp only [go_sem] at hc)) | refine q6 rfl ?_ | (refine Qb ?_ ?_; focus kernel_rfl) | (refine y4 (s1) ?_; simp only [go_sem, *]) | ((with_reducible apply And.intro); focus omega) | (refine z8 hK ?_; clear hK; simp only [go_sem, *]) | simp only [z6, z7, go_sem, *])
  all_goals first | contradiction | omega | skip
  (refine ⟨[_], [], [], ⟨rfl, trivial⟩, ?_⟩; simp only [go_sem, *])
theorem zN9 (p : zLo) (c : Change) (hs : 0 ≤ c.street ∧ c.street < p.length) (k : c.kind < 4) : zLp prog 133 [x7 p, c.enc] [] (iV 0) [] := by
 have hs' : c.street.toNat < p.length := by omega
 obtain ⟨hs0, hs1⟩ := hs
 have k7 : (c.kind == 7) = false := by rw [beq_eq_false_iff_ne]; omega
 have k4 : (c.kind == 4) = false := by rw [beq_eq_false_iff_ne]; omega
 have k5 : (c.kind == 5) = false := by rw [beq_eq_false_iff_ne]; omega
 have k6 : (c.kind == 6) = false := by rw [beq_eq_false_iff_ne]; omega
 clear k
 refine q8 func133 rfl (fun E hE => ?_); simp only [go_sem, ntmps133]
 repeat' (first | (refine Qr rfl ?_; try intro _ hK; try simp only [go_sem, *]) | (refine Qi rfl rfl rfl rfl ?_ ?_ <;> (intro hb; (try intro _ hK); have hc := hb; try simp only [go_sem] at hc; simp only [go_sem, *])) | refine Qh rfl ?_ | refine Qd rfl (by kernel_rfl) ?_ | (refine Qc rfl rfl ?_ ?_ <;> (intro hb; have hc := hb; try simp only [go_sem] at hc)) | refine q6 rfl ?_ | (refine Qb ?_ ?_; focus kernel_rfl) | ((with_reducible apply And.intro); focus omega) | (refine z8 hK ?_; clear hK; simp only [go_sem, *]) | simp only [z6, z7, go_sem, *])
 all_goals first | contradiction | omega | skip
 (refine ⟨[_], [], [], ⟨rfl, trivial⟩, ?_⟩; simp only [go_sem, *])
theorem zQy (p : zLo) (c : Change) (v : Valid p) (hk : 1 ≤ c.kind ∧ c.kind ≤ 7) (hs : 0 ≤ c.street ∧ c.street < p.length) (ho : c.kind = 4 ∨ c.kind = 7 → 0 ≤ c.other ∧ c.other < p.length) : zLp prog 133 [x7 p, c.enc] [] (iV (x9 p c)) [] := by
 rcases K7 hk with k | k | k | k | k | k | k
 ·rw [show x9 p c = 0 by simp [x9, k]]; exact zN9 p c hs (by omega)
 ·rw [show x9 p c = 0 by simp [x9, k]]; exact zN9 p c hs (by omega)
 ·rw [show x9 p c = 0 by simp [x9, k]]; exact zN9 p c hs (by omega)
 ·exact zPu p c v hs (ho (.inl k)) k _ rfl
 ·exact zPv p c v hs k _ rfl
 ·exact zPw p c v hs k _ rfl
 ·exact zPx p c v hs (ho (.inr k)) k _ rfl
theorem zQa (p : zLo) (c : Change) (v : Valid p) : zLp prog 98 [x7 p, c.enc] [] (iV (can p c)) [] := by
 have hp3 := v.len
 obtain ⟨x, hx, s1⟩ := zQm p c (by omega)
 rw [zPf]
 by_cases e : zND p c = 0
 ·rw [if_pos e]
  rw [e] at s1
  have hx2 := hx e
  clear hx
  rw [← hx2]
  by_cases q : c = x
  ·rw [if_pos q]
   have q' : decide (c = x) = true := by simpa using q
   have hb : zLr c.kind 1 7 = true ∧ zLr c.street 0 ((p.length : Int) - 1) = true ∧ (c.kind = 4 ∨ c.kind = 7 → zLr c.other 0 ((p.length : Int) - 1) = true) := by
    unfold zND at e
    split at e
    ·omega
    ·rename_i h1
     split at e
     ·omega
     ·rename_i h2
      split at e
      ·omega
      ·rename_i h3
       refine ⟨by simpa using h1, by simpa using h2, fun h => ?_⟩
       cases hh : zLr c.other 0 ((p.length : Int) - 1) with
       | true => rfl
       | false => exact absurd ⟨h, hh⟩ h3
   have b1 := betw_iff.1 hb.1
   have b2 := betw_iff.1 hb.2.1
   have s2 := zQy p c v b1 (by omega) (fun h => by have := betw_iff.1 (hb.2.2 h); omega)
   clear q hb b1 b2 e hx2
   refine q8 func98 rfl (fun E hE => ?_); simp only [go_sem, ntmps98]
   repeat' (first | (refine Qr rfl ?_; try intro _ hK; try simp only [go_sem, *]) | refine Qh rfl ?_ | (refine Qc rfl rfl ?_ ?_ <;> (intro hb; have hc := hb; try simp only [go_sem] at hc)) | refine q6 rfl ?_ | ((first | refine y4 (s1) ?_ | refine y4 (s2) ?_); simp only [go_sem, *]) | ((with_reducible apply And.intro); focus omega) | (refine z8 hK ?_; clear hK; simp only [go_sem, *]) | simp only [z6, z7, go_sem, *])
   all_goals try contradiction
   (refine ⟨[_], [], [], ⟨rfl, trivial⟩, ?_⟩; simp only [go_sem, *])
  ·rw [if_neg q]
   have q' : decide (c = x) = false := by simpa using q
   clear q e hx2
   refine q8 func98 rfl (fun E hE => ?_); simp only [go_sem, ntmps98]
   repeat' (first | (refine Qr rfl ?_; try intro _ hK; try simp only [go_sem, *]) | refine Qh rfl ?_ | (refine Qc rfl rfl ?_ ?_ <;> (intro hb; have hc := hb; try simp only [go_sem] at hc)) | refine q6 rfl ?_ | (refine y4 (s1) ?_; simp only [go_sem, *]) | ((with_reducible apply And.intro); focus omega) | (refine z8 hK ?_; clear hK; simp only [go_sem, *]) | simp only [z6, z7, go_sem, *])
   all_goals try contradiction
   (refine ⟨[_], [], [], ⟨rfl, trivial⟩, ?_⟩; simp only [go_sem, *])
 ·rw [if_neg e]
  have e' : (zND p c == 0) = false := by rw [beq_eq_false_iff_ne]; exact e
  clear hx
  generalize zND p c = er at *
  refine q8 func98 rfl (fun E hE => ?_); simp only [go_sem, ntmps98]
  repeat' (first | (refine Qr rfl ?_; try intro _ hK; try simp only [go_sem, *]) | refine Qh rfl ?_ | (refine Qc rfl rfl ?_ ?_ <;> (intro hb; have hc := hb; try simp only [go_sem] at hc)) | refine q6 rfl ?_ | (refine y4 (s1) ?_; simp only [go_sem, *]) | ((with_reducible apply And.intro); focus omega) | (refine z8 hK ?_; clear hK; simp only [go_sem, *]) | simp only [z6, z7, go_sem, *])
  all_goals try contradiction
  (refine ⟨[_], [], [], ⟨rfl, trivial⟩, ?_⟩; simp only [go_sem, *])
end Go.Abs

namespace Go.Abs
open Go Go.Proofs Tryz
attribute [local irreducible] y6 Hold x8
theorem zNY {l : List Plate} (h : Sound l) {x : Plate} (hx : x ∈ l) : l.filter (R8 (decide (x.number.tmod 2 = 1))) = l.filter (fun y => zLv y == zLv x) := by
 refine List.filter_congr (fun y hy => ?_)
 have := (o3 _).1 (h.ok _ hx)
 have := (o3 _).1 (h.ok _ hy)
 have e1 : x.number.tmod 2 = x.number % 2 := Int.tmod_eq_emod_of_nonneg (by omega)
 have e2 : y.number.tmod 2 = y.number % 2 := Int.tmod_eq_emod_of_nonneg (by omega)
 unfold R8 zLv
 rw [e1, e2]
 rfl
theorem zRA (p : zLo) (c : Change) (x : Plate) (v : Valid p) (hs : 0 ≤ c.street ∧ c.street < p.length) (hx : x ∈ q7 p c.street) (k : c.kind = 1) : zLp prog 141 [x7 p, c.enc, x.enc] [] (Q3 (toP p c x)) [] := by
 generalize hRR : toP p c x = R
 unfold toP at hRR
 rw [if_pos k] at hRR
 have k1 : (c.kind == 1) = true := by rw [beq_iff_eq]; exact k
 clear k
 have hl := (v.row c.street).len
 have hxk := (o3 _).1 ((v.row c.street).ok _ hx)
 have hs' : c.street.toNat < p.length := by omega
 obtain ⟨hs0, hs1⟩ := hs
 have ho := zNY (v.row c.street) hx
 have sp := zLZ (q7 p c.street) (decide (x.number.tmod 2 = 1)) (by omega)
 rw [ho] at sp
 have hxo := N0 hx
 have hol : ((q7 p c.street).filter (fun y => zLv y == zLv x)).length ≤ 8 := Nat.le_trans (List.length_filter_le _ _) hl
 have e1 : x.number.tmod 2 = x.number % 2 := Int.tmod_eq_emod_of_nonneg (by omega)
 clear ho
 generalize (q7 p c.street).filter (fun y => zLv y == zLv x) = o at *
 have si := zHp o x (by omega)
 rw [Q5 hxo] at si
 have hk := X0 hxo
 generalize o.idxOf x = kk at *
 have w1 : IntKind.i64.wrap ((o.length : Int) - 1) = ((o.length - 1 : Nat) : Int) := by rw [wrap_i64 (by omega) (by omega)]; omega
 have hj : o.length - 1 - kk < o.length := by omega
 have w2 : IntKind.i64.wrap (((o.length - 1 : Nat) : Int) - (kk : Int)) = ((o.length - 1 - kk : Nat) : Int) := by rw [wrap_i64 (by omega) (by omega)]; omega
 generalize o.length - 1 - kk = j at *
 subst hRR
 rw [e1] at sp
 refine q8 func141 rfl (fun E hE => ?_); simp only [go_sem, ntmps141]
 repeat' (first | (refine Qr rfl ?_; try intro _ hK; try simp only [go_sem, *]) | (refine Qi rfl rfl rfl rfl ?_ ?_ <;> (intro hb; (try intro _ hK); have hc := hb; try simp only [go_sem] at hc; simp only [go_sem, *])) | refine Qh rfl ?_ | refine Qd rfl (by kernel_rfl) ?_ | (refine Qc rfl rfl ?_ ?_ <;> (intro hb; have hc := hb; try simp only [go_sem] at hc)) | refine q6 rfl ?_ | (refine Qb ?_ ?_; focus kernel_rfl) | (refine s8 (sp) ?_; simp only [go_sem, *]) | ((with_reducible apply And.intro); focus omega) | (refine z8 hK ?_; clear hK; simp only [go_sem, *]) | simp only [z6, z7, go_sem, *])
 all_goals first | contradiction | omega | skip
 (refine B6 [3] (si) (by simp only [go_sem, *]) (.raw _) ?_; simp only [go_sem, *])
 repeat' (first | (refine Qr rfl ?_; try intro _ hK; try simp only [go_sem, *]) | (refine Qi rfl rfl rfl rfl ?_ ?_ <;> (intro hb; (try intro _ hK); have hc := hb; try simp only [go_sem] at hc; simp only [go_sem, *])) | refine Qh rfl ?_ | refine Qd rfl (by kernel_rfl) ?_ | (refine Qc rfl rfl ?_ ?_ <;> (intro hb; have hc := hb; try simp only [go_sem] at hc)) | refine q6 rfl ?_ | (refine Qb ?_ ?_; focus kernel_rfl) | ((with_reducible apply And.intro); focus omega) | (refine z8 hK ?_; clear hK; simp only [go_sem, *]) | simp only [z6, z7, go_sem, *])
 all_goals first | contradiction | omega | skip
 refine ⟨[.own 5 3 0 1], [], [5], ⟨by simp only [u1, go_sem], trivial⟩, ?_⟩
 simp only [go_sem, *]
theorem zRB (p : zLo) (c : Change) (x : Plate) (v : Valid p) (hs : 0 ≤ c.street ∧ c.street < p.length) (hx : x ∈ q7 p c.street) (k : c.kind = 2) : zLp prog 141 [x7 p, c.enc, x.enc] [] (Q3 (toP p c x)) [] := by
 generalize hRR : toP p c x = R
 unfold toP at hRR
 rw [if_neg (by omega : ¬ c.kind = 1)] at hRR
 rw [if_pos k] at hRR
 have k2 : (c.kind == 2) = true := by rw [beq_iff_eq]; exact k
 have k1 : (c.kind == 1) = false := by rw [beq_eq_false_iff_ne]; omega
 clear k
 have hl := (v.row c.street).len
 have hxk := (o3 _).1 ((v.row c.street).ok _ hx)
 have hs' : c.street.toNat < p.length := by omega
 obtain ⟨hs0, hs1⟩ := hs
 have ho := zNY (v.row c.street) hx
 have sp := zLZ (q7 p c.street) (decide (x.number.tmod 2 = 1)) (by omega)
 rw [ho] at sp
 have hxo := N0 hx
 have hol : ((q7 p c.street).filter (fun y => zLv y == zLv x)).length ≤ 8 := Nat.le_trans (List.length_filter_le _ _) hl
 have e1 : x.number.tmod 2 = x.number % 2 := Int.tmod_eq_emod_of_nonneg (by omega)
 clear ho
 generalize (q7 p c.street).filter (fun y => zLv y == zLv x) = o at *
 have si := zHp o x (by omega)
 rw [Q5 hxo] at si
 have hk := X0 hxo
 generalize o.idxOf x = kk at *
 have w1 : IntKind.i64.wrap (x.number + 1) = x.number + 1 := wrap_i64 (by omega) (by omega)
 have w2 : IntKind.i64.wrap (x.number - 1) = x.number - 1 := wrap_i64 (by omega) (by omega)
 by_cases q : x.number % 2 = 1
 ·rw [if_pos ((V9 x).2 q)] at hRR
  have q' : (x.number % 2 == 1) = true := by rw [beq_iff_eq]; exact q
  rw [e1, decide_eq_true q] at sp
  clear q
  subst hRR
  refine q8 func141 rfl (fun E hE => ?_); simp only [go_sem, ntmps141]
  repeat' (first | (refine Qr rfl ?_; try intro _ hK; try simp only [go_sem, *]) | (refine Qi rfl rfl rfl rfl ?_ ?_ <;> (intro hb; (try intro _ hK); have hc := hb; try simp only [go_sem] at hc; simp only [go_sem, *])) | refine Qh rfl ?_ | refine Qd rfl (by kernel_rfl) ?_ | (refine Qc rfl rfl ?_ ?_ <;> (intro hb; have hc := hb; try simp only [go_sem] at hc)) | refine q6 rfl ?_ | (refine Qb ?_ ?_; focus kernel_rfl) | (refine s8 (sp) ?_; simp only [go_sem, *]) | ((with_reducible apply And.intro); focus omega) | (refine z8 hK ?_; clear hK; simp only [go_sem, *]) | simp only [z6, z7, go_sem, *])
  all_goals first | contradiction | omega | skip
  (refine B6 [3] (si) (by simp only [go_sem, *]) (.raw _) ?_; simp only [go_sem, *])
  repeat' (first | (refine Qr rfl ?_; try intro _ hK; try simp only [go_sem, *]) | (refine Qi rfl rfl rfl rfl ?_ ?_ <;> (intro hb; (try intro _ hK); have hc := hb; try simp only [go_sem] at hc; simp only [go_sem, *])) | refine Qh rfl ?_ | refine Qd rfl (by kernel_rfl) ?_ | (refine Qc rfl rfl ?_ ?_ <;> (intro hb; have hc := hb; try simp only [go_sem] at hc)) | refine q6 rfl ?_ | (refine Qb ?_ ?_; focus kernel_rfl) | ((with_reducible apply And.intro); focus omega) | (refine z8 hK ?_; clear hK; simp only [go_sem, *]) | simp only [z6, z7, go_sem, *])
  all_goals first | contradiction | omega | skip
  refine ⟨[.own 5 3 0 1], [], [5], ⟨by simp only [u1, go_sem], trivial⟩, ?_⟩
  simp only [go_sem, *]
 ·rw [if_neg (fun h => q ((V9 x).1 h))] at hRR
  have q' : (x.number % 2 == 1) = false := by rw [beq_eq_false_iff_ne]; exact q
  rw [e1, decide_eq_false q] at sp
  clear q
  subst hRR
  refine q8 func141 rfl (fun E hE => ?_); simp only [go_sem, ntmps141]
  repeat' (first | (refine Qr rfl ?_; try intro _ hK; try simp only [go_sem, *]) | (refine Qi rfl rfl rfl rfl ?_ ?_ <;> (intro hb; (try intro _ hK); have hc := hb; try simp only [go_sem] at hc; simp only [go_sem, *])) | refine Qh rfl ?_ | refine Qd rfl (by kernel_rfl) ?_ | (refine Qc rfl rfl ?_ ?_ <;> (intro hb; have hc := hb; try simp only [go_sem] at hc)) | refine q6 rfl ?_ | (refine Qb ?_ ?_; focus kernel_rfl) | (refine s8 (sp) ?_; simp only [go_sem, *]) | ((with_reducible apply And.intro); focus omega) | (refine z8 hK ?_; clear hK; simp only [go_sem, *]) | simp only [z6, z7, go_sem, *])
  all_goals first | contradiction | omega | skip
  (refine B6 [3] (si) (by simp only [go_sem, *]) (.raw _) ?_; simp only [go_sem, *])
  repeat' (first | (refine Qr rfl ?_; try intro _ hK; try simp only [go_sem, *]) | (refine Qi rfl rfl rfl rfl ?_ ?_ <;> (intro hb; (try intro _ hK); have hc := hb; try simp only [go_sem] at hc; simp only [go_sem, *])) | refine Qh rfl ?_ | refine Qd rfl (by kernel_rfl) ?_ | (refine Qc rfl rfl ?_ ?_ <;> (intro hb; have hc := hb; try simp only [go_sem] at hc)) | refine q6 rfl ?_ | (refine Qb ?_ ?_; focus kernel_rfl) | ((with_reducible apply And.intro); focus omega) | (refine z8 hK ?_; clear hK; simp only [go_sem, *]) | simp only [z6, z7, go_sem, *])
  all_goals first | contradiction | omega | skip
  refine ⟨[.own 5 3 0 1], [], [5], ⟨by simp only [u1, go_sem], trivial⟩, ?_⟩
  simp only [go_sem, *]
theorem zRC (p : zLo) (c : Change) (x : Plate) (v : Valid p) (hs : 0 ≤ c.street ∧ c.street < p.length) (hx : x ∈ q7 p c.street) (k : c.kind = 3) : zLp prog 141 [x7 p, c.enc, x.enc] [] (Q3 (toP p c x)) [] := by
 generalize hRR : toP p c x = R
 unfold toP at hRR
 rw [if_neg (by omega : ¬ c.kind = 1)] at hRR
 rw [if_neg (by omega : ¬ c.kind = 2)] at hRR
 rw [if_pos k] at hRR
 have k3 : (c.kind == 3) = true := by rw [beq_iff_eq]; exact k
 have k1 : (c.kind == 1) = false := by rw [beq_eq_false_iff_ne]; omega
 have k2 : (c.kind == 2) = false := by rw [beq_eq_false_iff_ne]; omega
 clear k
 have hl := (v.row c.street).len
 have hxk := (o3 _).1 ((v.row c.street).ok _ hx)
 have hs' : c.street.toNat < p.length := by omega
 obtain ⟨hs0, hs1⟩ := hs
 have ho := zNY (v.row c.street) hx
 have sp := zLZ (q7 p c.street) (decide (x.number.tmod 2 = 1)) (by omega)
 rw [ho] at sp
 have hxo := N0 hx
 have hol : ((q7 p c.street).filter (fun y => zLv y == zLv x)).length ≤ 8 := Nat.le_trans (List.length_filter_le _ _) hl
 have e1 : x.number.tmod 2 = x.number % 2 := Int.tmod_eq_emod_of_nonneg (by omega)
 clear ho
 generalize (q7 p c.street).filter (fun y => zLv y == zLv x) = o at *
 have si := zHp o x (by omega)
 rw [Q5 hxo] at si
 have hk := X0 hxo
 generalize o.idxOf x = kk at *
 have w1 : IntKind.i64.wrap (2 * (kk : Int)) = 2 * (kk : Int) := wrap_i64 (by omega) (by omega)
 have w2 : IntKind.i64.wrap (2 * (kk : Int) + 2) = 2 * (kk : Int) + 2 := wrap_i64 (by omega) (by omega)
 have w3 : IntKind.i64.wrap (2 * (kk : Int) + 2 - x.number % 2) = 2 * (kk : Int) + 2 - x.number % 2 := wrap_i64 (by omega) (by omega)
 subst hRR
 rw [e1] at sp
 refine q8 func141 rfl (fun E hE => ?_); simp only [go_sem, ntmps141]
 repeat' (first | (refine Qr rfl ?_; try intro _ hK; try simp only [go_sem, *]) | (refine Qi rfl rfl rfl rfl ?_ ?_ <;> (intro hb; (try intro _ hK); have hc := hb; try simp only [go_sem] at hc; simp only [go_sem, *])) | refine Qh rfl ?_ | refine Qd rfl (by kernel_rfl) ?_ | (refine Qc rfl rfl ?_ ?_ <;> (intro hb; have hc := hb; try simp only [go_sem] at hc)) | refine q6 rfl ?_ | (refine Qb ?_ ?_; focus kernel_rfl) | (refine s8 (sp) ?_; simp only [go_sem, *]) | ((with_reducible apply And.intro); focus omega) | (refine z8 hK ?_; clear hK; simp only [go_sem, *]) | simp only [z6, z7, go_sem, *])
 all_goals first | contradiction | omega | skip
 (refine B6 [3] (si) (by simp only [go_sem, *]) (.raw _) ?_; simp only [go_sem, *])
 repeat' (first | (refine Qr rfl ?_; try intro _ hK; try simp only [go_sem, *]) | (refine Qi rfl rfl rfl rfl ?_ ?_ <;> (intro hb; (try intro _ hK); have hc := hb; try simp only [go_sem] at hc; simp only [go_sem, *])) | refine Qh rfl ?_ | refine Qd rfl (by kernel_rfl) ?_ | (refine Qc rfl rfl ?_ ?_ <;> (intro hb; have hc := hb; try simp only [go_sem] at hc)) | refine q6 rfl ?_ | (refine Qb ?_ ?_; focus kernel_rfl) | ((with_reducible apply And.intro); focus omega) | (refine z8 hK ?_; clear hK; simp only [go_sem, *]) | simp only [z6, z7, go_sem, *])
 all_goals first | contradiction | omega | skip
 refine ⟨[.own 5 3 0 1], [], [5], ⟨by simp only [u1, go_sem], trivial⟩, ?_⟩
 simp only [go_sem, *]
theorem zRD (p : zLo) (c : Change) (x : Plate) (v : Valid p) (hs : 0 ≤ c.street ∧ c.street < p.length) (hq : 0 ≤ c.other ∧ c.other < p.length) (hx : x ∈ q7 p c.street) (k : c.kind = 4) : zLp prog 141 [x7 p, c.enc, x.enc] [] (Q3 (toP p c x)) [] := by
 generalize hRR : toP p c x = R
 unfold toP at hRR
 rw [if_neg (by omega : ¬ c.kind = 1)] at hRR
 rw [if_neg (by omega : ¬ c.kind = 2)] at hRR
 rw [if_neg (by omega : ¬ c.kind = 3)] at hRR
 rw [if_pos k] at hRR
 have k4 : (c.kind == 4) = true := by rw [beq_iff_eq]; exact k
 have k1 : (c.kind == 1) = false := by rw [beq_eq_false_iff_ne]; omega
 have k2 : (c.kind == 2) = false := by rw [beq_eq_false_iff_ne]; omega
 have k3 : (c.kind == 3) = false := by rw [beq_eq_false_iff_ne]; omega
 clear k
 have hl := (v.row c.street).len
 have hxk := (o3 _).1 ((v.row c.street).ok _ hx)
 have hs' : c.street.toNat < p.length := by omega
 obtain ⟨hs0, hs1⟩ := hs
 have ho := zNY (v.row c.street) hx
 have sp := zLZ (q7 p c.street) (decide (x.number.tmod 2 = 1)) (by omega)
 rw [ho] at sp
 have hxo := N0 hx
 have hol : ((q7 p c.street).filter (fun y => zLv y == zLv x)).length ≤ 8 := Nat.le_trans (List.length_filter_le _ _) hl
 have e1 : x.number.tmod 2 = x.number % 2 := Int.tmod_eq_emod_of_nonneg (by omega)
 clear ho
 generalize (q7 p c.street).filter (fun y => zLv y == zLv x) = o at *
 have si := zHp o x (by omega)
 rw [Q5 hxo] at si
 have hk := X0 hxo
 generalize o.idxOf x = kk at *
 have hob := zDv (v.row c.other)
 have sb := zLX (q7 p c.other) (by have := (v.row c.other).len; omega) (v.row c.other).ok
 have ho' : c.other.toNat < p.length := by omega
 obtain ⟨ho0, ho1⟩ := hq
 generalize base (q7 p c.other) = bb at *
 have w1 : IntKind.i64.wrap (x.number + bb) = x.number + bb := wrap_i64 (by omega) (by omega)
 subst hRR
 rw [e1] at sp
 refine q8 func141 rfl (fun E hE => ?_); simp only [go_sem, ntmps141]
 repeat' (first | (refine Qr rfl ?_; try intro _ hK; try simp only [go_sem, *]) | (refine Qi rfl rfl rfl rfl ?_ ?_ <;> (intro hb; (try intro _ hK); have hc := hb; try simp only [go_sem] at hc; simp only [go_sem, *])) | refine Qh rfl ?_ | refine Qd rfl (by kernel_rfl) ?_ | (refine Qc rfl rfl ?_ ?_ <;> (intro hb; have hc := hb; try simp only [go_sem] at hc)) | refine q6 rfl ?_ | (refine Qb ?_ ?_; focus kernel_rfl) | (refine s8 (sp) ?_; simp only [go_sem, *]) | ((with_reducible apply And.intro); focus omega) | (refine z8 hK ?_; clear hK; simp only [go_sem, *]) | simp only [z6, z7, go_sem, *])
 all_goals first | contradiction | omega | skip
 (refine B6 [3] (si) (by simp only [go_sem, *]) (.raw _) ?_; simp only [go_sem, *])
 repeat' (first | (refine Qr rfl ?_; try intro _ hK; try simp only [go_sem, *]) | (refine Qi rfl rfl rfl rfl ?_ ?_ <;> (intro hb; (try intro _ hK); have hc := hb; try simp only [go_sem] at hc; simp only [go_sem, *])) | refine Qh rfl ?_ | refine Qd rfl (by kernel_rfl) ?_ | (refine Qc rfl rfl ?_ ?_ <;> (intro hb; have hc := hb; try simp only [go_sem] at hc)) | refine q6 rfl ?_ | (refine Qb ?_ ?_; focus kernel_rfl) | (refine y4 (sb) ?_; simp only [go_sem, *]) | ((with_reducible apply And.intro); focus omega) | (refine z8 hK ?_; clear hK; simp only [go_sem, *]) | simp only [z6, z7, go_sem, *])
 all_goals first | contradiction | omega | skip
 refine ⟨[.own 5 3 0 1], [], [5], ⟨by simp only [u1, go_sem], trivial⟩, ?_⟩
 simp only [go_sem, *]
theorem zRE (p : zLo) (c : Change) (x : Plate) (v : Valid p) (hs : 0 ≤ c.street ∧ c.street < p.length) (hx : x ∈ q7 p c.street) (k : c.kind = 5) : zLp prog 141 [x7 p, c.enc, x.enc] [] (Q3 (toP p c x)) [] := by
 generalize hRR : toP p c x = R
 unfold toP at hRR
 rw [if_neg (by omega : ¬ c.kind = 1)] at hRR
 rw [if_neg (by omega : ¬ c.kind = 2)] at hRR
 rw [if_neg (by omega : ¬ c.kind = 3)] at hRR
 rw [if_neg (by omega : ¬ c.kind = 4)] at hRR
 rw [if_pos k] at hRR
 have k5 : (c.kind == 5) = true := by rw [beq_iff_eq]; exact k
 have k1 : (c.kind == 1) = false := by rw [beq_eq_false_iff_ne]; omega
 have k2 : (c.kind == 2) = false := by rw [beq_eq_false_iff_ne]; omega
 have k3 : (c.kind == 3) = false := by rw [beq_eq_false_iff_ne]; omega
 have k4 : (c.kind == 4) = false := by rw [beq_eq_false_iff_ne]; omega
 clear k
 have hl := (v.row c.street).len
 have hxk := (o3 _).1 ((v.row c.street).ok _ hx)
 have hs' : c.street.toNat < p.length := by omega
 obtain ⟨hs0, hs1⟩ := hs
 have ho := zNY (v.row c.street) hx
 have sp := zLZ (q7 p c.street) (decide (x.number.tmod 2 = 1)) (by omega)
 rw [ho] at sp
 have hxo := N0 hx
 have hol : ((q7 p c.street).filter (fun y => zLv y == zLv x)).length ≤ 8 := Nat.le_trans (List.length_filter_le _ _) hl
 have e1 : x.number.tmod 2 = x.number % 2 := Int.tmod_eq_emod_of_nonneg (by omega)
 clear ho
 generalize (q7 p c.street).filter (fun y => zLv y == zLv x) = o at *
 have si := zHp o x (by omega)
 rw [Q5 hxo] at si
 have hk := X0 hxo
 generalize o.idxOf x = kk at *
 have sl := zLY (q7 p c.street) x.number (by omega)
 generalize letter (q7 p c.street) x.number = lt at *
 rw [e1] at sp
 by_cases q : x = c.src
 ·rw [if_pos q] at hRR
  have q' : decide (x = c.src) = true := decide_eq_true q
  clear q
  subst hRR
  refine q8 func141 rfl (fun E hE => ?_); simp only [go_sem, ntmps141]
  repeat' (first | (refine Qr rfl ?_; try intro _ hK; try simp only [go_sem, *]) | (refine Qi rfl rfl rfl rfl ?_ ?_ <;> (intro hb; (try intro _ hK); have hc := hb; try simp only [go_sem] at hc; simp only [go_sem, *])) | refine Qh rfl ?_ | refine Qd rfl (by kernel_rfl) ?_ | (refine Qc rfl rfl ?_ ?_ <;> (intro hb; have hc := hb; try simp only [go_sem] at hc)) | refine q6 rfl ?_ | (refine Qb ?_ ?_; focus kernel_rfl) | (refine s8 (sp) ?_; simp only [go_sem, *]) | ((with_reducible apply And.intro); focus omega) | (refine z8 hK ?_; clear hK; simp only [go_sem, *]) | simp only [z6, z7, go_sem, *])
  all_goals first | contradiction | omega | skip
  (refine B6 [3] (si) (by simp only [go_sem, *]) (.raw _) ?_; simp only [go_sem, *])
  repeat' (first | (refine Qr rfl ?_; try intro _ hK; try simp only [go_sem, *]) | (refine Qi rfl rfl rfl rfl ?_ ?_ <;> (intro hb; (try intro _ hK); have hc := hb; try simp only [go_sem] at hc; simp only [go_sem, *])) | refine Qh rfl ?_ | refine Qd rfl (by kernel_rfl) ?_ | (refine Qc rfl rfl ?_ ?_ <;> (intro hb; have hc := hb; try simp only [go_sem] at hc)) | refine q6 rfl ?_ | (refine Qb ?_ ?_; focus kernel_rfl) | (refine y4 (sl) ?_; simp only [go_sem, *]) | ((with_reducible apply And.intro); focus omega) | (refine z8 hK ?_; clear hK; simp only [go_sem, *]) | simp only [z6, z7, go_sem, *])
  all_goals first | contradiction | omega | skip
  refine ⟨[.own 5 3 0 2], [], [5], ⟨by simp only [u1, go_sem], trivial⟩, ?_⟩
  simp only [go_sem, *]
 ·rw [if_neg q] at hRR
  have q' : decide (x = c.src) = false := decide_eq_false q
  clear q
  subst hRR
  refine q8 func141 rfl (fun E hE => ?_); simp only [go_sem, ntmps141]
  repeat' (first | (refine Qr rfl ?_; try intro _ hK; try simp only [go_sem, *]) | (refine Qi rfl rfl rfl rfl ?_ ?_ <;> (intro hb; (try intro _ hK); have hc := hb; try simp only [go_sem] at hc; simp only [go_sem, *])) | refine Qh rfl ?_ | refine Qd rfl (by kernel_rfl) ?_ | (refine Qc rfl rfl ?_ ?_ <;> (intro hb; have hc := hb; try simp only [go_sem] at hc)) | refine q6 rfl ?_ | (refine Qb ?_ ?_; focus kernel_rfl) | (refine s8 (sp) ?_; simp only [go_sem, *]) | ((with_reducible apply And.intro); focus omega) | (refine z8 hK ?_; clear hK; simp only [go_sem, *]) | simp only [z6, z7, go_sem, *])
  all_goals first | contradiction | omega | skip
  (refine B6 [3] (si) (by simp only [go_sem, *]) (.raw _) ?_; simp only [go_sem, *])
  repeat' (first | (refine Qr rfl ?_; try intro _ hK; try simp only [go_sem, *]) | (refine Qi rfl rfl rfl rfl ?_ ?_ <;> (intro hb; (try intro _ hK); have hc := hb; try simp only [go_sem] at hc; simp only [go_sem, *])) | refine Qh rfl ?_ | refine Qd rfl (by kernel_rfl) ?_ | (refine Qc rfl rfl ?_ ?_ <;> (intro hb; have hc := hb; try simp only [go_sem] at hc)) | refine q6 rfl ?_ | (refine Qb ?_ ?_; focus kernel_rfl) | ((with_reducible apply And.intro); focus omega) | (refine z8 hK ?_; clear hK; simp only [go_sem, *]) | simp only [z6, z7, go_sem, *])
  all_goals first | contradiction | omega | skip
  refine ⟨[.own 5 3 0 1], [], [5], ⟨by simp only [u1, go_sem], trivial⟩, ?_⟩
  simp only [go_sem, *]
theorem zRF (p : zLo) (c : Change) (x : Plate) (v : Valid p) (hs : 0 ≤ c.street ∧ c.street < p.length) (hx : x ∈ q7 p c.street) (k : c.kind = 6) : zLp prog 141 [x7 p, c.enc, x.enc] [] (Q3 (toP p c x)) [] := by
 generalize hRR : toP p c x = R
 unfold toP at hRR
 rw [if_neg (by omega : ¬ c.kind = 1)] at hRR
 rw [if_neg (by omega : ¬ c.kind = 2)] at hRR
 rw [if_neg (by omega : ¬ c.kind = 3)] at hRR
 rw [if_neg (by omega : ¬ c.kind = 4)] at hRR
 rw [if_neg (by omega : ¬ c.kind = 5)] at hRR
 rw [if_pos k] at hRR
 have k6 : (c.kind == 6) = true := by rw [beq_iff_eq]; exact k
 have k1 : (c.kind == 1) = false := by rw [beq_eq_false_iff_ne]; omega
 have k2 : (c.kind == 2) = false := by rw [beq_eq_false_iff_ne]; omega
 have k3 : (c.kind == 3) = false := by rw [beq_eq_false_iff_ne]; omega
 have k4 : (c.kind == 4) = false := by rw [beq_eq_false_iff_ne]; omega
 have k5 : (c.kind == 5) = false := by rw [beq_eq_false_iff_ne]; omega
 clear k
 have hl := (v.row c.street).len
 have hxk := (o3 _).1 ((v.row c.street).ok _ hx)
 have hs' : c.street.toNat < p.length := by omega
 obtain ⟨hs0, hs1⟩ := hs
 have ho := zNY (v.row c.street) hx
 have sp := zLZ (q7 p c.street) (decide (x.number.tmod 2 = 1)) (by omega)
 rw [ho] at sp
 have hxo := N0 hx
 have hol : ((q7 p c.street).filter (fun y => zLv y == zLv x)).length ≤ 8 := Nat.le_trans (List.length_filter_le _ _) hl
 have e1 : x.number.tmod 2 = x.number % 2 := Int.tmod_eq_emod_of_nonneg (by omega)
 clear ho
 generalize (q7 p c.street).filter (fun y => zLv y == zLv x) = o at *
 have si := zHp o x (by omega)
 rw [Q5 hxo] at si
 have hk := X0 hxo
 generalize o.idxOf x = kk at *
 rw [e1] at sp
 by_cases q : x = c.src
 ·rw [if_pos q] at hRR
  have q' : decide (x = c.src) = true := decide_eq_true q
  clear q
  subst hRR
  refine q8 func141 rfl (fun E hE => ?_); simp only [go_sem, ntmps141]
  repeat' (first | (refine Qr rfl ?_; try intro _ hK; try simp only [go_sem, *]) | (refine Qi rfl rfl rfl rfl ?_ ?_ <;> (intro hb; (try intro _ hK); have hc := hb; try simp only [go_sem] at hc; simp only [go_sem, *])) | refine Qh rfl ?_ | refine Qd rfl (by kernel_rfl) ?_ | (refine Qc rfl rfl ?_ ?_ <;> (intro hb; have hc := hb; try simp only [go_sem] at hc)) | refine q6 rfl ?_ | (refine Qb ?_ ?_; focus kernel_rfl) | (refine s8 (sp) ?_; simp only [go_sem, *]) | ((with_reducible apply And.intro); focus omega) | (refine z8 hK ?_; clear hK; simp only [go_sem, *]) | simp only [z6, z7, go_sem, *])
  all_goals first | contradiction | omega | skip
  (refine B6 [3] (si) (by simp only [go_sem, *]) (.raw _) ?_; simp only [go_sem, *])
  repeat' (first | (refine Qr rfl ?_; try intro _ hK; try simp only [go_sem, *]) | (refine Qi rfl rfl rfl rfl ?_ ?_ <;> (intro hb; (try intro _ hK); have hc := hb; try simp only [go_sem] at hc; simp only [go_sem, *])) | refine Qh rfl ?_ | refine Qd rfl (by kernel_rfl) ?_ | (refine Qc rfl rfl ?_ ?_ <;> (intro hb; have hc := hb; try simp only [go_sem] at hc)) | refine q6 rfl ?_ | (refine Qb ?_ ?_; focus kernel_rfl) | ((with_reducible apply And.intro); focus omega) | (refine z8 hK ?_; clear hK; simp only [go_sem, *]) | simp only [z6, z7, go_sem, *])
  all_goals first | contradiction | omega | skip
  refine ⟨[zLz], [], [], ⟨by simp only [u1, go_sem], trivial⟩, ?_⟩
  simp only [go_sem, *]
 ·rw [if_neg q] at hRR
  have q' : decide (x = c.src) = false := decide_eq_false q
  clear q
  subst hRR
  refine q8 func141 rfl (fun E hE => ?_); simp only [go_sem, ntmps141]
  repeat' (first | (refine Qr rfl ?_; try intro _ hK; try simp only [go_sem, *]) | (refine Qi rfl rfl rfl rfl ?_ ?_ <;> (intro hb; (try intro _ hK); have hc := hb; try simp only [go_sem] at hc; simp only [go_sem, *])) | refine Qh rfl ?_ | refine Qd rfl (by kernel_rfl) ?_ | (refine Qc rfl rfl ?_ ?_ <;> (intro hb; have hc := hb; try simp only [go_sem] at hc)) | refine q6 rfl ?_ | (refine Qb ?_ ?_; focus kernel_rfl) | (refine s8 (sp) ?_; simp only [go_sem, *]) | ((with_reducible apply And.intro); focus omega) | (refine z8 hK ?_; clear hK; simp only [go_sem, *]) | simp only [z6, z7, go_sem, *])
  all_goals first | contradiction | omega | skip
  (refine B6 [3] (si) (by simp only [go_sem, *]) (.raw _) ?_; simp only [go_sem, *])
  repeat' (first | (refine Qr rfl ?_; try intro _ hK; try simp only [go_sem, *]) | (refine Qi rfl rfl rfl rfl ?_ ?_ <;> (intro hb; (try intro _ hK); have hc := hb; try simp only [go_sem] at hc; simp only [go_sem, *])) | refine Qh rfl ?_ | refine Qd rfl (by kernel_rfl) ?_ | (refine Qc rfl rfl ?_ ?_ <;> (intro hb; have hc := hb; try simp only [go_sem] at hc)) | refine q6 rfl ?_ | (refine Qb ?_ ?_; focus kernel_rfl) | ((with_reducible apply And.intro); focus omega) | (refine z8 hK ?_; clear hK; simp only [go_sem, *]) | simp only [z6, z7, go_sem, *])
  all_goals first | contradiction | omega | skip
  refine ⟨[.own 5 3 0 1], [], [5], ⟨by simp only [u1, go_sem], trivial⟩, ?_⟩
  simp only [go_sem, *]
theorem zRG (p : zLo) (c : Change) (x : Plate) (v : Valid p) (hs : 0 ≤ c.street ∧ c.street < p.length) (hx : x ∈ q7 p c.street) (k : c.kind = 7) : zLp prog 141 [x7 p, c.enc, x.enc] [] (Q3 (toP p c x)) [] := by
 generalize hRR : toP p c x = R
 unfold toP at hRR
 rw [if_neg (by omega : ¬ c.kind = 1)] at hRR
 rw [if_neg (by omega : ¬ c.kind = 2)] at hRR
 rw [if_neg (by omega : ¬ c.kind = 3)] at hRR
 rw [if_neg (by omega : ¬ c.kind = 4)] at hRR
 rw [if_neg (by omega : ¬ c.kind = 5)] at hRR
 rw [if_neg (by omega : ¬ c.kind = 6)] at hRR
 rw [if_pos k] at hRR
 have k7 : (c.kind == 7) = true := by rw [beq_iff_eq]; exact k
 have k1 : (c.kind == 1) = false := by rw [beq_eq_false_iff_ne]; omega
 have k2 : (c.kind == 2) = false := by rw [beq_eq_false_iff_ne]; omega
 have k3 : (c.kind == 3) = false := by rw [beq_eq_false_iff_ne]; omega
 have k4 : (c.kind == 4) = false := by rw [beq_eq_false_iff_ne]; omega
 have k5 : (c.kind == 5) = false := by rw [beq_eq_false_iff_ne]; omega
 have k6 : (c.kind == 6) = false := by rw [beq_eq_false_iff_ne]; omega
 clear k
 have hl := (v.row c.street).len
 have hxk := (o3 _).1 ((v.row c.street).ok _ hx)
 have hs' : c.street.toNat < p.length := by omega
 obtain ⟨hs0, hs1⟩ := hs
 have ho := zNY (v.row c.street) hx
 have sp := zLZ (q7 p c.street) (decide (x.number.tmod 2 = 1)) (by omega)
 rw [ho] at sp
 have hxo := N0 hx
 have hol : ((q7 p c.street).filter (fun y => zLv y == zLv x)).length ≤ 8 := Nat.le_trans (List.length_filter_le _ _) hl
 have e1 : x.number.tmod 2 = x.number % 2 := Int.tmod_eq_emod_of_nonneg (by omega)
 clear ho
 generalize (q7 p c.street).filter (fun y => zLv y == zLv x) = o at *
 have si := zHp o x (by omega)
 rw [Q5 hxo] at si
 have hk := X0 hxo
 generalize o.idxOf x = kk at *
 have sb1 := zHE x c.src
 have sb2 := zHE c.dst x
 have si1 := zHp (q7 p c.street) x (by omega)
 have si2 := zHp (q7 p c.street) c.src (by omega)
 have hi1 : -1 ≤ zMI (q7 p c.street) x ∧ zMI (q7 p c.street) x ≤ 8 := by
  rw [Q5 hx]; have := X0 hx; omega
 have hi2 : -1 ≤ zMI (q7 p c.street) c.src ∧ zMI (q7 p c.street) c.src ≤ 8 := by
  unfold zMI; split
  ·rename_i h; have := X0 h; omega
  ·omega
 generalize zMI (q7 p c.street) x = ix at *
 generalize zMI (q7 p c.street) c.src = iy at *
 have w1 : IntKind.i64.wrap (ix - iy) = ix - iy := wrap_i64 (by omega) (by omega)
 have w2 : IntKind.i64.wrap (ix - iy + 1) = ix - iy + 1 := wrap_i64 (by omega) (by omega)
 rw [e1] at sp
 generalize x.lt c.src = t1 at *
 generalize c.dst.lt x = t2 at *
 cases t1 <;> cases t2
 ·rw [if_pos ⟨rfl, rfl⟩] at hRR
  subst hRR
  refine q8 func141 rfl (fun E hE => ?_); simp only [go_sem, ntmps141]
  repeat' (first | (refine Qr rfl ?_; try intro _ hK; try simp only [go_sem, *]) | (refine Qi rfl rfl rfl rfl ?_ ?_ <;> (intro hb; (try intro _ hK); have hc := hb; try simp only [go_sem] at hc; simp only [go_sem, *])) | refine Qh rfl ?_ | refine Qd rfl (by kernel_rfl) ?_ | (refine Qc rfl rfl ?_ ?_ <;> (intro hb; have hc := hb; try simp only [go_sem] at hc)) | refine q6 rfl ?_ | (refine Qb ?_ ?_; focus kernel_rfl) | (refine s8 (sp) ?_; simp only [go_sem, *]) | ((with_reducible apply And.intro); focus omega) | (refine z8 hK ?_; clear hK; simp only [go_sem, *]) | simp only [z6, z7, go_sem, *])
  all_goals first | contradiction | omega | skip
  (refine B6 [3] (si) (by simp only [go_sem, *]) (.raw _) ?_; simp only [go_sem, *])
  repeat' (first | (refine Qr rfl ?_; try intro _ hK; try simp only [go_sem, *]) | (refine Qi rfl rfl rfl rfl ?_ ?_ <;> (intro hb; (try intro _ hK); have hc := hb; try simp only [go_sem] at hc; simp only [go_sem, *])) | refine Qh rfl ?_ | refine Qd rfl (by kernel_rfl) ?_ | (refine Qc rfl rfl ?_ ?_ <;> (intro hb; have hc := hb; try simp only [go_sem] at hc)) | refine q6 rfl ?_ | (refine Qb ?_ ?_; focus kernel_rfl) | (refine zD5 (sb1) ?_ ?_; (focus (simp only [go_sem, *]; done)); simp only [go_sem, *]) | (refine zD5 (sb2) ?_ ?_; (focus (simp only [go_sem, *]; done)); simp only [go_sem, *]) | (refine zD5 (si1) ?_ ?_; (focus (simp only [go_sem, *]; done)); simp only [go_sem, *]) | (refine zD5 (si2) ?_ ?_; (focus (simp only [go_sem, *]; done)); simp only [go_sem, *]) | ((with_reducible apply And.intro); focus omega) | (refine z8 hK ?_; clear hK; simp only [go_sem, *]) | simp only [z6, z7, go_sem, *])
  all_goals first | contradiction | omega | skip
  refine ⟨[.own 5 3 0 1], [], [5], ⟨by simp only [u1, go_sem], trivial⟩, ?_⟩
  simp only [go_sem, *]
 ·rw [if_neg (fun h => by cases h.2)] at hRR
  subst hRR
  refine q8 func141 rfl (fun E hE => ?_); simp only [go_sem, ntmps141]
  repeat' (first | (refine Qr rfl ?_; try intro _ hK; try simp only [go_sem, *]) | (refine Qi rfl rfl rfl rfl ?_ ?_ <;> (intro hb; (try intro _ hK); have hc := hb; try simp only [go_sem] at hc; simp only [go_sem, *])) | refine Qh rfl ?_ | refine Qd rfl (by kernel_rfl) ?_ | (refine Qc rfl rfl ?_ ?_ <;> (intro hb; have hc := hb; try simp only [go_sem] at hc)) | refine q6 rfl ?_ | (refine Qb ?_ ?_; focus kernel_rfl) | (refine s8 (sp) ?_; simp only [go_sem, *]) | ((with_reducible apply And.intro); focus omega) | (refine z8 hK ?_; clear hK; simp only [go_sem, *]) | simp only [z6, z7, go_sem, *])
  all_goals first | contradiction | omega | skip
  (refine B6 [3] (si) (by simp only [go_sem, *]) (.raw _) ?_; simp only [go_sem, *])
  repeat' (first | (refine Qr rfl ?_; try intro _ hK; try simp only [go_sem, *]) | (refine Qi rfl rfl rfl rfl ?_ ?_ <;> (intro hb; (try intro _ hK); have hc := hb; try simp only [go_sem] at hc; simp only [go_sem, *])) | refine Qh rfl ?_ | refine Qd rfl (by kernel_rfl) ?_ | (refine Qc rfl rfl ?_ ?_ <;> (intro hb; have hc := hb; try simp only [go_sem] at hc)) | refine q6 rfl ?_ | (refine Qb ?_ ?_; focus kernel_rfl) | (refine zD5 (sb1) ?_ ?_; (focus (simp only [go_sem, *]; done)); simp only [go_sem, *]) | (refine zD5 (sb2) ?_ ?_; (focus (simp only [go_sem, *]; done)); simp only [go_sem, *]) | (refine zD5 (si1) ?_ ?_; (focus (simp only [go_sem, *]; done)); simp only [go_sem, *]) | (refine zD5 (si2) ?_ ?_; (focus (simp only [go_sem, *]; done)); simp only [go_sem, *]) | ((with_reducible apply And.intro); focus omega) | (refine z8 hK ?_; clear hK; simp only [go_sem, *]) | simp only [z6, z7, go_sem, *])
  all_goals first | contradiction | omega | skip
  refine ⟨[.own 5 3 0 1], [], [5], ⟨by simp only [u1, go_sem], trivial⟩, ?_⟩
  simp only [go_sem, *]
 ·rw [if_neg (fun h => by cases h.1)] at hRR
  subst hRR
  refine q8 func141 rfl (fun E hE => ?_); simp only [go_sem, ntmps141]
  repeat' (first | (refine Qr rfl ?_; try intro _ hK; try simp only [go_sem, *]) | (refine Qi rfl rfl rfl rfl ?_ ?_ <;> (intro hb; (try intro _ hK); have hc := hb; try simp only [go_sem] at hc; simp only [go_sem, *])) | refine Qh rfl ?_ | refine Qd rfl (by kernel_rfl) ?_ | (refine Qc rfl rfl ?_ ?_ <;> (intro hb; have hc := hb; try simp only [go_sem] at hc)) | refine q6 rfl ?_ | (refine Qb ?_ ?_; focus kernel_rfl) | (refine s8 (sp) ?_; simp only [go_sem, *]) | ((with_reducible apply And.intro); focus omega) | (refine z8 hK ?_; clear hK; simp only [go_sem, *]) | simp only [z6, z7, go_sem, *])
  all_goals first | contradiction | omega | skip
  (refine B6 [3] (si) (by simp only [go_sem, *]) (.raw _) ?_; simp only [go_sem, *])
  repeat' (first | (refine Qr rfl ?_; try intro _ hK; try simp only [go_sem, *]) | (refine Qi rfl rfl rfl rfl ?_ ?_ <;> (intro hb; (try intro _ hK); have hc := hb; try simp only [go_sem] at hc; simp only [go_sem, *])) | refine Qh rfl ?_ | refine Qd rfl (by kernel_rfl) ?_ | (refine Qc rfl rfl ?_ ?_ <;> (intro hb; have hc := hb; try simp only [go_sem] at hc)) | refine q6 rfl ?_ | (refine Qb ?_ ?_; focus kernel_rfl) | (refine zD5 (sb1) ?_ ?_; (focus (simp only [go_sem, *]; done)); simp only [go_sem, *]) | (refine zD5 (sb2) ?_ ?_; (focus (simp only [go_sem, *]; done)); simp only [go_sem, *]) | (refine zD5 (si1) ?_ ?_; (focus (simp only [go_sem, *]; done)); simp only [go_sem, *]) | (refine zD5 (si2) ?_ ?_; (focus (simp only [go_sem, *]; done)); simp only [go_sem, *]) | ((with_reducible apply And.intro); focus omega) | (refine z8 hK ?_; clear hK; simp only [go_sem, *]) | simp only [z6, z7, go_sem, *])
  all_goals first | contradiction | omega | skip
  refine ⟨[.own 5 3 0 1], [], [5], ⟨by simp only [u1, go_sem], trivial⟩, ?_⟩
  simp only [go_sem, *]
 ·rw [if_neg (fun h => by cases h.1)] at hRR
  subst hRR
  refine q8 func141 rfl (fun E hE => ?_); simp only [go_sem, ntmps141]
  repeat' (first | (refine Qr rfl ?_; try intro _ hK; try simp only [go_sem, *]) | (refine Qi rfl rfl rfl rfl ?_ ?_ <;> (intro hb; (try intro _ hK); have hc := hb; try simp only [go_sem] at hc; simp only [go_sem, *])) | refine Qh rfl ?_ | refine Qd rfl (by kernel_rfl) ?_ | (refine Qc rfl rfl ?_ ?_ <;> (intro hb; have hc := hb; try simp only [go_sem] at hc)) | refine q6 rfl ?_ | (refine Qb ?_ ?_; focus kernel_rfl) | (refine s8 (sp) ?_; simp only [go_sem, *]) | ((with_reducible apply And.intro); focus omega) | (refine z8 hK ?_; clear hK; simp only [go_sem, *]) | simp only [z6, z7, go_sem, *])
  all_goals first | contradiction | omega | skip
  (refine B6 [3] (si) (by simp only [go_sem, *]) (.raw _) ?_; simp only [go_sem, *])
  repeat' (first | (refine Qr rfl ?_; try intro _ hK; try simp only [go_sem, *]) | (refine Qi rfl rfl rfl rfl ?_ ?_ <;> (intro hb; (try intro _ hK); have hc := hb; try simp only [go_sem] at hc; simp only [go_sem, *])) | refine Qh rfl ?_ | refine Qd rfl (by kernel_rfl) ?_ | (refine Qc rfl rfl ?_ ?_ <;> (intro hb; have hc := hb; try simp only [go_sem] at hc)) | refine q6 rfl ?_ | (refine Qb ?_ ?_; focus kernel_rfl) | (refine zD5 (sb1) ?_ ?_; (focus (simp only [go_sem, *]; done)); simp only [go_sem, *]) | (refine zD5 (sb2) ?_ ?_; (focus (simp only [go_sem, *]; done)); simp only [go_sem, *]) | (refine zD5 (si1) ?_ ?_; (focus (simp only [go_sem, *]; done)); simp only [go_sem, *]) | (refine zD5 (si2) ?_ ?_; (focus (simp only [go_sem, *]; done)); simp only [go_sem, *]) | ((with_reducible apply And.intro); focus omega) | (refine z8 hK ?_; clear hK; simp only [go_sem, *]) | simp only [z6, z7, go_sem, *])
  all_goals first | contradiction | omega | skip
  refine ⟨[.own 5 3 0 1], [], [5], ⟨by simp only [u1, go_sem], trivial⟩, ?_⟩
  simp only [go_sem, *]
theorem zQ2 (p : zLo) (c : Change) (x : Plate) (v : Valid p) (f : Fit p c) (hx : x ∈ q7 p c.street) : zLp prog 141 [x7 p, c.enc, x.enc] [] (Q3 (toP p c x)) [] := by
 rcases K7 f.kind with k | k | k | k | k | k | k
 ·exact zRA p c x v f.street hx k
 ·exact zRB p c x v f.street hx k
 ·exact zRC p c x v f.street hx k
 ·exact zRD p c x v f.street ⟨(f.other (.inl k)).1, (f.other (.inl k)).2.1⟩ hx k
 ·exact zRE p c x v f.street hx k
 ·exact zRF p c x v f.street hx k
 ·exact zRG p c x v f.street hx k
end Go.Abs

namespace Go.Abs
open Go Go.Proofs Tryz
attribute [local irreducible] y6 Hold x8
def mvs (p : zLo) (c : Change) (h : House) : List Move := (mv p c h).map fun z => ⟨h, z⟩
theorem zPy {α β : Type} [Inhabited α] {l : List α} {g : α → List β} {i : Nat} (h : i < l.length) : (l.drop i).flatMap g = g (l.getD i default) ++ (l.drop (i + 1)).flatMap g := by
 rw [u0 h, List.flatMap_cons]
theorem zPK (p : zLo) (c : Change) (v : Valid p) (f : Fit p c) : zLp prog 105 [x7 p, c.enc] [] (.own 0 6 0 (N1 p c).length) [.row 6 ((N1 p c).map Move.enc)] := by
  have hR : ([] : List Move) ++ ((q9 p).drop 0).flatMap (mvs p c) = N1 p c := rfl
  have hRl := zKR p c
  have hc := v.count
  have sh := zLa p (by have := v.len; omega) (fun l hl => by have := (v.rows l hl).len; omega) (by omega)
  have hin : ∀ z, z ∈ q9 p → z.street = c.street → z.plate ∈ q7 p c.street := fun z hz e => by rw [← e]; exact (mem_houses.1 hz).2.2
  generalize N1 p c = R at *
  generalize q9 p = hs at *
  refine q8 func105 rfl (fun E hE => ?_); simp only [go_sem, ntmps105]
  repeat' (first | (refine Qr rfl ?_; try intro _ hK; try simp only [go_sem, *]) | refine Qh rfl ?_ | refine Qd rfl (by kernel_rfl) ?_ | (refine Qc rfl rfl ?_ ?_ <;> (intro hb; have hc := hb; try simp only [go_sem] at hc)) | refine q6 rfl ?_ | (refine Qb ?_ ?_; focus kernel_rfl) | (refine s8 (sh) ?_; simp only [go_sem, *]) | ((with_reducible apply And.intro); focus omega) | (refine z8 hK ?_; clear hK; simp only [go_sem, *]) | simp only [z6, z7, go_sem, *])
  refine u4 rfl (hs.length) (fun i (acc : List Move) => acc ++ (hs.drop i).flatMap (mvs p c) = R) 58 (fun i acc => [(7, iV i), (6, .own 2 3 0 hs.length), (5, .own 3 6 0 acc.length), (2, .ptr 0 0), (3, .ptr 1 0)]) (fun i acc => [.box [.list (p.map y7)], .box [iV c.kind, iV c.street, iV c.other, iV c.src.number, iV c.src.letter, iV c.dst.number, iV c.dst.letter], .row 3 (hs.map House.enc), .row 6 (acc.map Move.enc)]) [some 0, some 1, some 2, none] [] ([]) (by exact hR) ?_; intro i acc hi hP
  clear hR
  have hlen1 := congrArg List.length hP
  simp only [List.length_append] at hlen1
  by_cases hi : i < hs.length
  · rw [zPy hi] at hP
    have hm := hin _ (w8 hi)
    have ml := zGO p c (hs.getD i default)
    by_cases q : (hs.getD i default).street = c.street
    · have hS : acc ++ (((mv p c (hs.getD i default)).drop 0).map (fun z => (⟨hs.getD i default, z⟩ : Move)) ++ (hs.drop (i + 1)).flatMap (mvs p c)) = R := hP
      have st := zQ2 p c (hs.getD i default).plate v f (hm q)
      have q' : ((hs.getD i default).street == c.street) = true := by rw [beq_iff_eq]; exact q
      unfold mv at hS ml
      rw [if_pos q] at hS ml
      clear q hP hm hin
      generalize hll : toP p c (hs.getD i default).plate = l at *
      repeat' (first | (refine Qr rfl ?_; try intro _ hK; try simp only [go_sem, *]) | refine Qh rfl ?_ | refine Qd rfl (by kernel_rfl) ?_ | (refine Qc rfl rfl ?_ ?_ <;> (intro hb; have hc := hb; try simp only [go_sem] at hc)) | refine q6 rfl ?_ | (refine Qb ?_ ?_; focus kernel_rfl) | (refine y4 (st) ?_; simp only [go_sem, *]) | ((with_reducible apply And.intro); focus omega) | (refine z8 hK ?_; clear hK; simp only [go_sem, *]) | simp only [z6, z7, go_sem, *])
      all_goals first | contradiction | omega | skip
      generalize hh : hs.getD i default = h at *
      refine u4 rfl (l.length) (fun j (acc2 : List Move) => acc2 ++ ((l.drop j).map (fun z => (⟨h, z⟩ : Move)) ++ (hs.drop (i + 1)).flatMap (mvs p c)) = R) 58 (fun j acc2 => [(9, iV j), (8, Q3 l), (7, iV i), (6, .own 2 3 0 hs.length), (5, .own 3 6 0 acc2.length), (2, .ptr 0 0), (3, .ptr 1 0)]) (fun j acc2 => [.box [.list (p.map y7)], .box [iV c.kind, iV c.street, iV c.other, iV c.src.number, iV c.src.letter, iV c.dst.number, iV c.dst.letter], .row 3 (hs.map House.enc), .row 6 (acc2.map Move.enc)]) [some 0, some 1, some 2, some 3] [] (acc) (by exact hS) ?_; intro j acc2 hj hQ
      have hlen2 := congrArg List.length hQ
      simp only [List.length_append, List.length_map, List.length_drop] at hlen2
      clear hlen1 hS
      by_cases hj : j < l.length
      · repeat' (first | (refine Qr rfl ?_; try intro _ hK; try simp only [go_sem, *]) | refine Qh rfl ?_ | refine Qd rfl (by kernel_rfl) ?_ | (refine Qc rfl rfl ?_ ?_ <;> (intro hb; have hc := hb; try simp only [go_sem] at hc)) | refine q6 rfl ?_ | (refine Qb ?_ ?_; focus kernel_rfl) | ((with_reducible apply And.intro); focus omega) | (refine z8 hK ?_; clear hK; simp only [go_sem, *]) | simp only [z6, z7, go_sem, *])
        all_goals first | contradiction | omega | skip
        exact w6 (i' := j + 1) [some 0, some 1, some 2, some 5] [] (acc2 ++ [⟨h, l.getD j default⟩]) (by rw [← hQ, u0 (i := j) (by assumption), List.map_cons]; simp)
      · rw [u7 (by omega)] at hQ
        repeat' (first | (refine Qr rfl ?_; try intro _ hK; try simp only [go_sem, *]) | refine Qh rfl ?_ | refine Qd rfl (by kernel_rfl) ?_ | (refine Qc rfl rfl ?_ ?_ <;> (intro hb; have hc := hb; try simp only [go_sem] at hc)) | refine q6 rfl ?_ | (refine Qb ?_ ?_; focus kernel_rfl) | ((with_reducible apply And.intro); focus omega) | (refine z8 hK ?_; clear hK; simp only [go_sem, *]) | simp only [z6, z7, go_sem, *])
        all_goals first | contradiction | omega | skip
        exact w6 (i' := i + 1) [some 0, some 1, some 2, some 3] [] (acc2) (by simpa using hQ)
    · have hS : acc ++ (([hs.getD i default].drop 0).map (fun z => (⟨hs.getD i default, z⟩ : Move)) ++ (hs.drop (i + 1)).flatMap (mvs p c)) = R := by
        rw [← hP]; unfold mvs mv; rw [if_neg q]; rfl
      have q' : ((hs.getD i default).street == c.street) = false := by rw [beq_eq_false_iff_ne]; exact q
      clear q hP hm hin ml
      repeat' (first | (refine Qr rfl ?_; try intro _ hK; try simp only [go_sem, *]) | refine Qh rfl ?_ | refine Qd rfl (by kernel_rfl) ?_ | (refine Qc rfl rfl ?_ ?_ <;> (intro hb; have hc := hb; try simp only [go_sem] at hc)) | refine q6 rfl ?_ | (refine Qb ?_ ?_; focus kernel_rfl) | ((with_reducible apply And.intro); focus omega) | (refine z8 hK ?_; clear hK; simp only [go_sem, *]) | simp only [z6, z7, go_sem, *])
      all_goals first | contradiction | omega | skip
      generalize hh : hs.getD i default = h at *
      refine u4 rfl ([h].length) (fun j (acc2 : List Move) => acc2 ++ (([h].drop j).map (fun z => (⟨h, z⟩ : Move)) ++ (hs.drop (i + 1)).flatMap (mvs p c)) = R) 58 (fun j acc2 => [(9, iV j), (8, Q3 [h]), (7, iV i), (6, .own 2 3 0 hs.length), (5, .own 3 6 0 acc2.length), (2, .ptr 0 0), (3, .ptr 1 0)]) (fun j acc2 => [.box [.list (p.map y7)], .box [iV c.kind, iV c.street, iV c.other, iV c.src.number, iV c.src.letter, iV c.dst.number, iV c.dst.letter], .row 3 (hs.map House.enc), .row 6 (acc2.map Move.enc)]) [some 0, some 1, some 2, some 3] [4] (acc) (by exact hS) ?_; intro j acc2 hj hQ
      generalize hll : [h] = l at *
      have ml : l.length ≤ 2 := by rw [← hll]; simp
      have hlen2 := congrArg List.length hQ
      simp only [List.length_append, List.length_map, List.length_drop] at hlen2
      clear hlen1 hS
      by_cases hj : j < l.length
      · repeat' (first | (refine Qr rfl ?_; try intro _ hK; try simp only [go_sem, *]) | refine Qh rfl ?_ | refine Qd rfl (by kernel_rfl) ?_ | (refine Qc rfl rfl ?_ ?_ <;> (intro hb; have hc := hb; try simp only [go_sem] at hc)) | refine q6 rfl ?_ | (refine Qb ?_ ?_; focus kernel_rfl) | ((with_reducible apply And.intro); focus omega) | (refine z8 hK ?_; clear hK; simp only [go_sem, *]) | simp only [z6, z7, go_sem, *])
        all_goals first | contradiction | omega | skip
        exact w6 (i' := j + 1) [some 0, some 1, some 2, some 5] [] (acc2 ++ [⟨h, l.getD j default⟩]) (by rw [← hQ, u0 (i := j) (by assumption), List.map_cons]; simp)
      · rw [u7 (by omega)] at hQ
        repeat' (first | (refine Qr rfl ?_; try intro _ hK; try simp only [go_sem, *]) | refine Qh rfl ?_ | refine Qd rfl (by kernel_rfl) ?_ | (refine Qc rfl rfl ?_ ?_ <;> (intro hb; have hc := hb; try simp only [go_sem] at hc)) | refine q6 rfl ?_ | (refine Qb ?_ ?_; focus kernel_rfl) | ((with_reducible apply And.intro); focus omega) | (refine z8 hK ?_; clear hK; simp only [go_sem, *]) | simp only [z6, z7, go_sem, *])
        all_goals first | contradiction | omega | skip
        exact w6 (i' := i + 1) [some 0, some 1, some 2, some 3] [] (acc2) (by simpa using hQ)
  · rw [u7 (by omega), List.flatMap_nil, List.append_nil] at hP
    repeat' (first | (refine Qr rfl ?_; try intro _ hK; try simp only [go_sem, *]) | refine Qh rfl ?_ | refine Qd rfl (by kernel_rfl) ?_ | (refine Qc rfl rfl ?_ ?_ <;> (intro hb; have hc := hb; try simp only [go_sem] at hc)) | refine q6 rfl ?_ | (refine Qb ?_ ?_; focus kernel_rfl) | ((with_reducible apply And.intro); focus omega) | (refine z8 hK ?_; clear hK; simp only [go_sem, *]) | simp only [z6, z7, go_sem, *])
    all_goals first | contradiction | omega | skip
    refine ⟨[_], [some 3], [], ⟨rfl, trivial⟩, ?_⟩
    simp only [go_sem, hP, *]
end Go.Abs

namespace Go.Abs
open Go Go.Proofs Tryz
attribute [local irreducible] y6 Hold x8
theorem zPJ {n : Nat} (l : List House) (hn : 0 < n ∧ n ≤ 3) (hst : ∀ z, z ∈ l → 0 ≤ z.street ∧ z.street < n) (hl : l.length ≤ 4294967296) : zLp prog 127 [.list (l.map House.enc), iV n] [] (x7 (zL6 l n)) [] := by
 rcases (by omega : n = 1 ∨ n = 2 ∨ n = 3) with rfl | rfl | rfl
 ·exact zQp l hst hl
 ·exact zQq l hst hl
 ·exact zQr l hst hl
theorem zQt (p : zLo) (c : Change) (v : Valid p) (f : Fit p c) : zLp prog 91 [x7 p, c.enc] [] (x7 (s9 p c)) [] := by
 have hst := fun z (hz : z ∈ j8 p c) => G5 v f hz
 have hml := zKR p c
 have hd := zKQ p c
 have hcn := v.count
 have hdl : (j8 p c).length = (N1 p c).length := by rw [← hd, List.length_map]
 have sl := zPJ (n := p.length) (j8 p c) ⟨v.ne, v.len⟩ (fun z hz => ⟨(hst z hz).1, (hst z hz).2.1⟩) (by omega)
 have sm := zPK p c v f
 have e : zL6 (j8 p c) p.length = s9 p c := rfl
 rw [e] at sl
 clear e
 generalize s9 p c = Q at *
 have h0 : ((N1 p c).take 0).map Move.dst = [] := by simp
 have hE0 : ((N1 p c).take (N1 p c).length).map Move.dst = j8 p c := by rw [List.take_length, hd]
 have hvl := v.len
 have hMb : (N1 p c).length ≤ 48 := by omega
 have hLb : (j8 p c).length ≤ 48 := by omega
 generalize N1 p c = M at *
 generalize j8 p c = L at *
 clear hst hd hdl
 refine q8 func91 rfl (fun E hE => ?_); simp only [go_sem, ntmps91]
 repeat' (first | (refine Qr rfl ?_; try intro _ hK; try simp only [go_sem, *]) | refine Qh rfl ?_ | (refine Qc rfl rfl ?_ ?_ <;> (intro hb; have hc := hb; try simp only [go_sem] at hc)) | refine q6 rfl ?_ | (refine s8 (sm) ?_; simp only [go_sem, *]) | ((with_reducible apply And.intro); focus omega) | (refine z8 hK ?_; clear hK; simp only [go_sem, *]) | simp only [z6, z7, go_sem, *])
 refine u4 rfl (M.length) (fun i (acc : List House) => acc ++ (M.drop i).map Move.dst = L) 30 (fun i acc => [(7, iV i), (6, .own 3 6 0 M.length), (5, .own 4 3 0 acc.length), (2, .ptr 0 0), (3, .ptr 1 0), (4, .ptr 2 0)]) (fun i acc => [.box [.list (p.map y7)], .box [iV c.kind, iV c.street, iV c.other, iV c.src.number, iV c.src.letter, iV c.dst.number, iV c.dst.letter], .box [zLz], .row 6 (M.map Move.enc), .row 3 (acc.map House.enc)]) [some 0, some 1, some 2, some 3, none] [] ([]) (by rw [← hE0, List.take_length]; rfl) ?_; intro i acc hi hP
 have hlen1 := congrArg List.length hP
 simp only [List.length_append, List.length_map, List.length_drop] at hlen1
 by_cases hi : i < M.length
 ·repeat' (first | (refine Qr rfl ?_; try intro _ hK; try simp only [go_sem, *]) | refine Qh rfl ?_ | (refine Qc rfl rfl ?_ ?_ <;> (intro hb; have hc := hb; try simp only [go_sem] at hc)) | refine q6 rfl ?_ | ((with_reducible apply And.intro); focus omega) | (refine z8 hK ?_; clear hK; simp only [go_sem, *]) | simp only [z6, z7, go_sem, *])
  all_goals first | contradiction | omega | skip
  exact w6 (i' := i + 1) [some 0, some 1, some 2, some 3, some 6] [] (acc ++ [(M.getD i default).dst]) (by rw [← hP, u0 (i := i) (by assumption), List.map_cons]; simp)
 ·rw [u7 (by omega), List.map_nil, List.append_nil] at hP
  subst hP
  repeat' (first | (refine Qr rfl ?_; try intro _ hK; try simp only [go_sem, *]) | refine Qh rfl ?_ | (refine Qc rfl rfl ?_ ?_ <;> (intro hb; have hc := hb; try simp only [go_sem] at hc)) | refine q6 rfl ?_ | ((with_reducible apply And.intro); focus omega) | (refine z8 hK ?_; clear hK; simp only [go_sem, *]) | simp only [z6, z7, go_sem, *])
  all_goals first | contradiction | omega | skip
  (refine o7 (sl) (by simp only [go_sem, *]; done) rfl (by simp only [go_sem]; done) (by simp) (by simp) ?_; simp only [go_sem, v6, *])
  repeat' (first | (refine Qr rfl ?_; try intro _ hK; try simp only [go_sem, *]) | refine Qh rfl ?_ | (refine Qc rfl rfl ?_ ?_ <;> (intro hb; have hc := hb; try simp only [go_sem] at hc)) | refine q6 rfl ?_ | ((with_reducible apply And.intro); focus omega) | (refine z8 hK ?_; clear hK; simp only [go_sem, *]) | simp only [z6, z7, go_sem, *])
  all_goals first | contradiction | omega | skip
  refine ⟨[x7 Q], [], [], ⟨(by simp only [u1, go_sem]), trivial⟩, ?_⟩; simp only [go_sem, *]
end Go.Abs

namespace Go.Abs
open Go Go.Proofs Tryz
attribute [local irreducible] y6 Hold x8
end Go.Abs

namespace Go.Abs
open Go Go.Proofs Tryz
attribute [local irreducible] y6 Hold x8
theorem zQc (p : zLo) (h1 : p.length ≤ 1048576) (h2 : ∀ l, l ∈ p → l.length ≤ 1048576) : zLp prog 24 [x7 p] [] (x7 p) [] := by
 refine q8 func24 rfl (fun E hE => ?_); simp only [go_sem, ntmps24]
 repeat' (first | (refine Qr rfl ?_; try intro _ hK; try simp only [go_sem, *]) | refine Qh rfl ?_ | refine Qd rfl (by kernel_rfl) ?_ | (refine Qc rfl rfl ?_ ?_ <;> (intro hb; have hc := hb; try simp only [go_sem] at hc)) | refine q6 rfl ?_ | (refine Qb ?_ ?_; focus kernel_rfl) | ((with_reducible apply And.intro); focus omega) | (refine z8 hK ?_; clear hK; simp only [go_sem, *]) | simp only [z6, z7, go_sem, *])
 refine u3 rfl (p.length) (fun i => NoP i) 25 (fun i => [(4, iV i), (1, .ptr 0 0), (2, .ptr 1 0), (3, .ptr 2 0)]) (fun i => [.box [.list (p.map y7)], .box [zLz], .box [.own 3 1 0 i], .box ((p.take i).map y7)]) [some 0, some 1, some 2, none] [] (by trivial) ?_; intro i hi hP
 by_cases hi2 : i < p.length
 ·have hr := h2 _ (w8 hi2)
  have e := Z8 (l := p) (i := i) hi2
  repeat' (first | (refine Qr rfl ?_; try intro _ hK; try simp only [go_sem, *]) | refine Qh rfl ?_ | refine Qd rfl (by kernel_rfl) ?_ | (refine Qc rfl rfl ?_ ?_ <;> (intro hb; have hc := hb; try simp only [go_sem] at hc)) | refine q6 rfl ?_ | (with_reducible (show (∀ _ : AV, _ → _) ∧ _); refine And.intro ?_ ?_; (focus (intro y hy; first | (obtain ⟨z, _, rfl⟩ := List.mem_map.1 (hy); simp [go_sem]; done) | (obtain ⟨z, _, rfl⟩ := List.mem_map.1 (List.mem_of_mem_take hy); simp [go_sem]; done) | (obtain ⟨z, _, rfl⟩ := List.mem_map.1 (List.mem_of_mem_drop hy); simp [go_sem]; done) | (obtain ⟨z, _, rfl⟩ := List.mem_map.1 (List.mem_of_mem_drop (List.mem_of_mem_take hy)); simp [go_sem]; done)))) | (refine Qb ?_ ?_; focus kernel_rfl) | ((with_reducible apply And.intro); focus omega) | (refine z8 hK ?_; clear hK; simp only [go_sem, *]) | simp only [z6, z7, go_sem, *])
  all_goals first | contradiction | omega | skip
  exact u2 (i' := i + 1) [some 0, some 1, some 2, some 7] [5] (by trivial)
 ·have e : p.take i = p := List.take_of_length_le (by omega)
  repeat' (first | (refine Qr rfl ?_; try intro _ hK; try simp only [go_sem, *]) | refine Qh rfl ?_ | refine Qd rfl (by kernel_rfl) ?_ | (refine Qc rfl rfl ?_ ?_ <;> (intro hb; have hc := hb; try simp only [go_sem] at hc)) | refine q6 rfl ?_ | (refine Qb ?_ ?_; focus kernel_rfl) | ((with_reducible apply And.intro); focus omega) | (refine z8 hK ?_; clear hK; simp only [go_sem, *]) | simp only [z6, z7, go_sem, *])
  all_goals first | contradiction | omega | skip
  refine ⟨[.agg [.own 3 1 0 i]], [], [3], ⟨by simp only [u1, go_sem], trivial⟩, ?_⟩
  simp only [go_sem, *]
  simp
  omega
end Go.Abs

namespace Go.Abs
open Go Go.Proofs Tryz
attribute [local irreducible] y6 Hold x8
def zRj (l : List Move) (h : House) : Option House := (l.find? fun m => decide (m.dst = h)).map Move.src
def zRm : House := ⟨0, zeroPlate⟩
end Go.Abs

namespace Go.Abs
open Go Go.Proofs Tryz
attribute [local irreducible] y6 Hold x8
theorem zOI (p : zLo) (h : House) (h1 : p.length ≤ 1048576) (h2 : ∀ l, l ∈ p → l.length ≤ 1048576) : zLp prog 104 [x7 p, h.enc] [] (bV (decide (h ∈ q9 p))) [] := by
 have s1 := zIC h.street 0 ((p.length : Int) - 1)
 have w1 : IntKind.i64.wrap ((p.length : Int) - 1) = (p.length : Int) - 1 := wrap_i64 (by omega) (by omega)
 by_cases q : 0 ≤ h.street ∧ h.street ≤ (p.length : Int) - 1
 ·have b : zLr h.street 0 ((p.length : Int) - 1) = true := betw_iff.2 q
  rw [b] at s1
  clear b
  obtain ⟨q1, q2⟩ := q
  have hs' : h.street.toNat < p.length := by omega
  have hl : (q7 p h.street).length ≤ 1048576 := by
   unfold q7; exact h2 _ (w8 hs')
  have hR : decide (h ∈ q9 p) = decide (h.plate ∈ q7 p h.street) := by
   rw [decide_eq_decide, mem_houses]
   exact ⟨fun e => e.2.2, fun e => ⟨q1, by omega, e⟩⟩
  rw [hR]
  clear hR
  refine q8 func104 rfl (fun E hE => ?_); simp only [go_sem, ntmps104]
  repeat' (first | (refine Qr rfl ?_; try intro _ hK; try simp only [go_sem, *]) | refine Qh rfl ?_ | refine Qd rfl (by kernel_rfl) ?_ | (refine Qc rfl rfl ?_ ?_ <;> (intro hb; have hc := hb; try simp only [go_sem] at hc)) | refine q6 rfl ?_ | (refine Qb ?_ ?_; focus kernel_rfl) | (refine y4 (s1) ?_; simp only [go_sem, *]) | ((with_reducible apply And.intro); focus omega) | (refine z8 hK ?_; clear hK; simp only [go_sem, *]) | simp only [z6, z7, go_sem, *])
  all_goals first | contradiction | omega | skip
  generalize hll : q7 p h.street = l at *
  refine u3 rfl (l.length) (fun i => h.plate ∉ l.take i) 37 (fun i => [(5, iV i), (2, .ptr 0 0), (3, .ptr 1 0)]) (fun i => [.box [.list (p.map y7)], .box [iV h.street, iV h.plate.number, iV h.plate.letter]]) [some 0, some 1] [] (by simp) ?_; intro i hi hP
  by_cases hi : i < l.length
  ·by_cases q : l.getD i default = h.plate
   ·have q' : decide (l.getD i default = h.plate) = true := decide_eq_true q
    have hm : decide (h.plate ∈ l) = true := decide_eq_true (by rw [← q]; exact w8 hi)
    clear q
    rw [hm]
    repeat' (first | (refine Qr rfl ?_; try intro _ hK; try simp only [go_sem, *]) | refine Qh rfl ?_ | refine Qd rfl (by kernel_rfl) ?_ | (refine Qc rfl rfl ?_ ?_ <;> (intro hb; have hc := hb; try simp only [go_sem] at hc)) | refine q6 rfl ?_ | (refine Qb ?_ ?_; focus kernel_rfl) | ((with_reducible apply And.intro); focus omega) | (refine z8 hK ?_; clear hK; simp only [go_sem, *]) | simp only [z6, z7, go_sem, *])
    all_goals first | contradiction | omega | skip
    (refine ⟨[_], [], [], ⟨rfl, trivial⟩, ?_⟩; simp only [go_sem, *])
   ·have q' : decide (l.getD i default = h.plate) = false := decide_eq_false q
    repeat' (first | (refine Qr rfl ?_; try intro _ hK; try simp only [go_sem, *]) | refine Qh rfl ?_ | refine Qd rfl (by kernel_rfl) ?_ | (refine Qc rfl rfl ?_ ?_ <;> (intro hb; have hc := hb; try simp only [go_sem] at hc)) | refine q6 rfl ?_ | (refine Qb ?_ ?_; focus kernel_rfl) | ((with_reducible apply And.intro); focus omega) | (refine z8 hK ?_; clear hK; simp only [go_sem, *]) | simp only [z6, z7, go_sem, *])
    all_goals first | contradiction | omega | skip
    exact u2 (i' := i + 1) [some 0, some 1] [] (by exact zDQ hi hP q)
  ·rw [List.take_of_length_le (by omega)] at hP
   have hm : decide (h.plate ∈ l) = false := decide_eq_false hP
   rw [hm]
   repeat' (first | (refine Qr rfl ?_; try intro _ hK; try simp only [go_sem, *]) | refine Qh rfl ?_ | refine Qd rfl (by kernel_rfl) ?_ | (refine Qc rfl rfl ?_ ?_ <;> (intro hb; have hc := hb; try simp only [go_sem] at hc)) | refine q6 rfl ?_ | (refine Qb ?_ ?_; focus kernel_rfl) | ((with_reducible apply And.intro); focus omega) | (refine z8 hK ?_; clear hK; simp only [go_sem, *]) | simp only [z6, z7, go_sem, *])
   all_goals first | contradiction | omega | skip
   (refine ⟨[_], [], [], ⟨rfl, trivial⟩, ?_⟩; simp only [go_sem, *])
 ·have b : zLr h.street 0 ((p.length : Int) - 1) = false := betw_no.2 q
  rw [b] at s1
  have hm : decide (h ∈ q9 p) = false := decide_eq_false (fun e => q ⟨(mem_houses.1 e).1, by have := (mem_houses.1 e).2.1; omega⟩)
  rw [hm]
  clear b hm q
  refine q8 func104 rfl (fun E hE => ?_); simp only [go_sem, ntmps104]
  repeat' (first | (refine Qr rfl ?_; try intro _ hK; try simp only [go_sem, *]) | refine Qh rfl ?_ | refine Qd rfl (by kernel_rfl) ?_ | (refine Qc rfl rfl ?_ ?_ <;> (intro hb; have hc := hb; try simp only [go_sem] at hc)) | refine q6 rfl ?_ | (refine Qb ?_ ?_; focus kernel_rfl) | (refine y4 (s1) ?_; simp only [go_sem, *]) | ((with_reducible apply And.intro); focus omega) | (refine z8 hK ?_; clear hK; simp only [go_sem, *]) | simp only [z6, z7, go_sem, *])
  all_goals first | contradiction | omega | skip
  (refine ⟨[_], [], [], ⟨rfl, trivial⟩, ?_⟩; simp only [go_sem, *])
end Go.Abs

namespace Go.Abs
open Go Go.Proofs Tryz
attribute [local irreducible] y6 Hold x8
end Go.Abs

namespace Go.Abs
open Go Go.Proofs Tryz
attribute [local irreducible] y6 Hold x8
theorem zNy (l : List House) (x : House) (h1 : l.length ≤ 4294967296) : zLp prog 117 [Q3 l, x.enc] [] (bV (decide (x ∈ l))) [] := by
 refine q8 func117 rfl (fun E hE => ?_); simp only [go_sem, ntmps117]
 repeat' (first | (refine Qr rfl ?_; try intro _ hK; try simp only [go_sem, *]) | refine Qh rfl ?_ | refine Qd rfl (by kernel_rfl) ?_ | (refine Qc rfl rfl ?_ ?_ <;> (intro hb; have hc := hb; try simp only [go_sem] at hc)) | refine q6 rfl ?_ | (refine Qb ?_ ?_; focus kernel_rfl) | ((with_reducible apply And.intro); focus omega) | (refine z8 hK ?_; clear hK; simp only [go_sem, *]) | simp only [z6, z7, go_sem, *])
 refine u3 rfl (l.length) (fun i => x ∉ l.take i) 18 (fun i => [(5, iV i), (3, .ptr 0 0), (0, Q3 l)]) (fun i => [.box [iV x.street, iV x.plate.number, iV x.plate.letter]]) [some 0] [] (by simp) ?_; intro i hi hP
 by_cases hi : i < l.length
 ·by_cases q : l.getD i default = x
  ·have q' : decide (l.getD i default = x) = true := decide_eq_true q
   have hm : decide (x ∈ l) = true := decide_eq_true (by rw [← q]; exact w8 hi)
   clear q
   repeat' (first | (refine Qr rfl ?_; try intro _ hK; try simp only [go_sem, *]) | refine Qh rfl ?_ | refine Qd rfl (by kernel_rfl) ?_ | (refine Qc rfl rfl ?_ ?_ <;> (intro hb; have hc := hb; try simp only [go_sem] at hc)) | refine q6 rfl ?_ | (refine Qb ?_ ?_; focus kernel_rfl) | ((with_reducible apply And.intro); focus omega) | (refine z8 hK ?_; clear hK; simp only [go_sem, *]) | simp only [z6, z7, go_sem, *])
   all_goals first | contradiction | omega | skip
   (refine ⟨[_], [], [], ⟨rfl, trivial⟩, ?_⟩; simp only [go_sem, *])
  ·have q' : decide (l.getD i default = x) = false := decide_eq_false q
   repeat' (first | (refine Qr rfl ?_; try intro _ hK; try simp only [go_sem, *]) | refine Qh rfl ?_ | refine Qd rfl (by kernel_rfl) ?_ | (refine Qc rfl rfl ?_ ?_ <;> (intro hb; have hc := hb; try simp only [go_sem] at hc)) | refine q6 rfl ?_ | (refine Qb ?_ ?_; focus kernel_rfl) | ((with_reducible apply And.intro); focus omega) | (refine z8 hK ?_; clear hK; simp only [go_sem, *]) | simp only [z6, z7, go_sem, *])
   all_goals first | contradiction | omega | skip
   exact u2 (i' := i + 1) [some 0] [] (by rw [Z8 hi, List.mem_append, List.mem_singleton]; exact fun h => h.elim hP (fun e => q e.symm))
 ·rw [List.take_of_length_le (by omega)] at hP
  have hm : decide (x ∈ l) = false := decide_eq_false hP
  repeat' (first | (refine Qr rfl ?_; try intro _ hK; try simp only [go_sem, *]) | refine Qh rfl ?_ | refine Qd rfl (by kernel_rfl) ?_ | (refine Qc rfl rfl ?_ ?_ <;> (intro hb; have hc := hb; try simp only [go_sem] at hc)) | refine q6 rfl ?_ | (refine Qb ?_ ?_; focus kernel_rfl) | ((with_reducible apply And.intro); focus omega) | (refine z8 hK ?_; clear hK; simp only [go_sem, *]) | simp only [z6, z7, go_sem, *])
  all_goals first | contradiction | omega | skip
  (refine ⟨[_], [], [], ⟨rfl, trivial⟩, ?_⟩; simp only [go_sem, *])
theorem zQl (p : zLo) (c : Change) (l : List House) (v : Valid p) (f : Fit p c) (hl : l.length ≤ 4294967296) : zLp prog 167 [x7 p, c.enc, Q3 l] [] (Q3 (s6 (zMK (N1 p c) l))) [] := by
 have s1 := zPK p c v f
 have hml := zKR p c
 have hcn := v.count
 have hMb : (N1 p c).length ≤ 48 := by omega
 have hcl := zJR (N1 p c) l
 have s2 := zLb (zMK (N1 p c) l) (by omega)
 have hR0 : ([] : List House) ++ zMK ((N1 p c).drop 0) l = zMK (N1 p c) l := rfl
 have hRl : (zMK (N1 p c) l).length ≤ 48 := by omega
 clear hml hcn hcl
 generalize s6 (zMK (N1 p c) l) = S at *
 generalize zMK (N1 p c) l = R at *
 generalize N1 p c = M at *
 refine q8 func167 rfl (fun E hE => ?_); simp only [go_sem, ntmps167]
 repeat' (first | (refine Qr rfl ?_; try intro _ hK; try simp only [go_sem, *]) | refine Qh rfl ?_ | (refine Qc rfl rfl ?_ ?_ <;> (intro hb; have hc := hb; try simp only [go_sem] at hc)) | refine q6 rfl ?_ | (refine s8 (s1) ?_; simp only [go_sem, *]) | ((with_reducible apply And.intro); focus omega) | (refine z8 hK ?_; clear hK; simp only [go_sem, *]) | simp only [z6, z7, go_sem, *])
 all_goals try contradiction
 refine u4 rfl (M.length) (fun i (acc : List House) => acc ++ zMK (M.drop i) l = R) 36 (fun i acc => [(9, iV i), (8, .own 0 6 0 M.length), (7, .own 1 3 0 acc.length), (2, Q3 l)]) (fun i acc => [.row 6 (M.map Move.enc), .row 3 (acc.map House.enc)]) [some 2, none] [] ([]) (by exact hR0) ?_; intro i acc hi hP
 clear hR0
 have hql := congrArg List.length hP
 simp only [List.length_append] at hql
 by_cases hi : i < M.length
 ·have hi3 : (i : Int) < M.length := by omega
  have sI := zNy l (M.getD i default).src hl
  by_cases q : (M.getD i default).src ∈ l
  ·rw [zJT hi q] at hP
   rw [decide_eq_true q] at sI
   clear q
   repeat' (first | (refine Qr rfl ?_; try intro _ hK; try simp only [go_sem, *]) | refine Qh rfl ?_ | (refine Qc rfl rfl ?_ ?_ <;> (intro hb; have hc := hb; try simp only [go_sem] at hc)) | refine q6 rfl ?_ | (refine y4 (sI) ?_; simp only [go_sem, *]) | ((with_reducible apply And.intro); focus omega) | (refine z8 hK ?_; clear hK; simp only [go_sem, *]) | simp only [z6, z7, go_sem, *])
   all_goals try contradiction
   exact w6 (i' := i + 1) [some 0, some 3] [] (acc ++ [(M.getD i default).dst]) (by rw [← hP]; simp)
  ·rw [zJS hi q] at hP
   rw [decide_eq_false q] at sI
   clear q
   repeat' (first | (refine Qr rfl ?_; try intro _ hK; try simp only [go_sem, *]) | refine Qh rfl ?_ | (refine Qc rfl rfl ?_ ?_ <;> (intro hb; have hc := hb; try simp only [go_sem] at hc)) | refine q6 rfl ?_ | (refine y4 (sI) ?_; simp only [go_sem, *]) | ((with_reducible apply And.intro); focus omega) | (refine z8 hK ?_; clear hK; simp only [go_sem, *]) | simp only [z6, z7, go_sem, *])
   all_goals try contradiction
   exact w6 (i' := i + 1) [some 0, some 1] [] (acc) (by exact hP)
 ·have hi3 : ¬ (i : Int) < M.length := by omega
  have e : zMK (M.drop i) l = [] := by rw [u7 (by omega)]; rfl
  rw [e, List.append_nil] at hP
  subst hP
  clear e
  repeat' (first | (refine Qr rfl ?_; try intro _ hK; try simp only [go_sem, *]) | refine Qh rfl ?_ | (refine Qc rfl rfl ?_ ?_ <;> (intro hb; have hc := hb; try simp only [go_sem] at hc)) | refine q6 rfl ?_ | (refine o7 (s2) ?_ rfl ?_ ?_ ?_ ?_; (iterate 2 (focus (simp only [go_sem, *]; done))); (iterate 2 (focus (first | (simp; done) | (simp [go_sem]; done)))); simp only [go_sem, v6, *]) | ((with_reducible apply And.intro); focus omega) | (refine z8 hK ?_; clear hK; simp only [go_sem, *]) | simp only [z6, z7, go_sem, *])
  all_goals try contradiction
  refine ⟨[Q3 S], [], [], ⟨rfl, trivial⟩, ?_⟩; simp only [go_sem, *]
theorem zNX (s : Story) (hst : s.steps.length ≤ 4294967296) (hwl : ∀ w, w ∈ s.steps → w.length ≤ 4294967296) (hfl : s.facts.length ≤ 4294967296) (hpl : s.first.length ≤ 4294967296) (G : Int) (hG : r9 s = G) :
  zLp prog 107 [s.enc] [] (iV G) [] := by
 have sc := zQo s.first hpl
 by_cases hc0 : check s.first = 0
 ·rw [r9, if_pos hc0] at hG
  have v := (T1 s.first).1 hc0
  rw [hc0] at sc
  clear hc0
  by_cases h3 : 3 < s.steps.length
  ·have h3i : (s.steps.length : Int) > 3 := by omega
   rw [if_pos h3] at hG
   subst hG
   refine q8 func107 rfl (fun E hE => ?_); simp only [go_sem, ntmps107]
   repeat' (first | (refine Qr rfl ?_; try intro _ hK; try simp only [go_sem, *]) | (refine Qi rfl rfl rfl rfl ?_ ?_ <;> (intro hb; (try intro _ hK); have hc := hb; try simp only [go_sem] at hc; simp only [go_sem, *])) | refine Qh rfl ?_ | refine Qd rfl (by kernel_rfl) ?_ | (refine Qc rfl rfl ?_ ?_ <;> (intro hb; have hc := hb; try simp only [go_sem] at hc)) | refine q6 rfl ?_ | (refine Qb ?_ ?_; focus kernel_rfl) | (refine y4 (sc) ?_; simp only [go_sem, *]) | ((with_reducible apply And.intro); focus omega) | (refine z8 hK ?_; clear hK; simp only [go_sem, *]) | simp only [z6, z7, go_sem, *])
   all_goals try contradiction
   all_goals (refine ⟨[_], [], [], ⟨rfl, trivial⟩, ?_⟩; simp only [go_sem, *])
  ·have h3i : ¬ (s.steps.length : Int) > 3 := by omega
   rw [if_neg h3] at hG
   refine q8 func107 rfl (fun E hE => ?_); simp only [go_sem, ntmps107]
   repeat' (first | (refine Qr rfl ?_; try intro _ hK; try simp only [go_sem, *]) | (refine Qi rfl rfl rfl rfl ?_ ?_ <;> (intro hb; (try intro _ hK); have hc := hb; try simp only [go_sem] at hc; simp only [go_sem, *])) | refine Qh rfl ?_ | refine Qd rfl (by kernel_rfl) ?_ | (refine Qc rfl rfl ?_ ?_ <;> (intro hb; have hc := hb; try simp only [go_sem] at hc)) | refine q6 rfl ?_ | (refine Qb ?_ ?_; focus kernel_rfl) | (refine y4 (sc) ?_; simp only [go_sem, *]) | ((with_reducible apply And.intro); focus omega) | (refine z8 hK ?_; clear hK; simp only [go_sem, *]) | simp only [z6, z7, go_sem, *])
   all_goals try contradiction
   refine u3 rfl (s.steps.length) (fun i => W2 s (s.steps.drop i) = G) 96 (fun i => [(4, iV i), (1, .ptr 0 0)]) (fun i => [.box [.list (s.first.map y7), .list (s.steps.map i9), .list (s.facts.map Fact.enc)]]) [some 0] [] (by exact hG) ?_; intro i hi hP
   clear hG
   by_cases hi2 : i < s.steps.length
   ·have hi3 : (i : Int) < s.steps.length := by omega
    unfold W2 at hP
    rw [zIE hi2] at hP
    have hwi := hwl _ (w8 hi2)
    generalize hw : s.steps.getD i default = w at *
    by_cases hw0 : w.length = 0
    ·have hw0i : (w.length : Int) = 0 := by omega
     rw [if_pos hw0, if_neg (by decide)] at hP
     subst hP
     repeat' (first | (refine Qr rfl ?_; try intro _ hK; try simp only [go_sem, *]) | (refine Qi rfl rfl rfl rfl ?_ ?_ <;> (intro hb; (try intro _ hK); have hc := hb; try simp only [go_sem] at hc; simp only [go_sem, *])) | refine Qh rfl ?_ | refine Qd rfl (by kernel_rfl) ?_ | (refine Qc rfl rfl ?_ ?_ <;> (intro hb; have hc := hb; try simp only [go_sem] at hc)) | refine q6 rfl ?_ | (refine Qb ?_ ?_; focus kernel_rfl) | ((with_reducible apply And.intro); focus omega) | (refine z8 hK ?_; clear hK; simp only [go_sem, *]) | simp only [z6, z7, go_sem, *])
     all_goals try contradiction
     (refine ⟨[_], [], [], ⟨rfl, trivial⟩, ?_⟩; simp only [go_sem, *])
    rw [if_neg hw0] at hP
    have hw0i : ¬ (w.length : Int) = 0 := by omega
    by_cases hw3 : 3 < w.length
    ·have hw3i : (w.length : Int) > 3 := by omega
     rw [if_pos hw3, if_neg (by decide)] at hP
     subst hP
     repeat' (first | (refine Qr rfl ?_; try intro _ hK; try simp only [go_sem, *]) | (refine Qi rfl rfl rfl rfl ?_ ?_ <;> (intro hb; (try intro _ hK); have hc := hb; try simp only [go_sem] at hc; simp only [go_sem, *])) | refine Qh rfl ?_ | refine Qd rfl (by kernel_rfl) ?_ | (refine Qc rfl rfl ?_ ?_ <;> (intro hb; have hc := hb; try simp only [go_sem] at hc)) | refine q6 rfl ?_ | (refine Qb ?_ ?_; focus kernel_rfl) | ((with_reducible apply And.intro); focus omega) | (refine z8 hK ?_; clear hK; simp only [go_sem, *]) | simp only [z6, z7, go_sem, *])
     all_goals try contradiction
     (refine ⟨[_], [], [], ⟨rfl, trivial⟩, ?_⟩; simp only [go_sem, *])
    rw [if_neg hw3] at hP
    have hw3i : ¬ (w.length : Int) > 3 := by omega
    have hP0 : (if l2 (w.drop 0) = 0 then W2 s (s.steps.drop (i + 1)) else 8) = G := by
     rw [← hP, List.drop_zero]
     unfold W2
     split <;> rfl
    clear hP
    repeat' (first | (refine Qr rfl ?_; try intro _ hK; try simp only [go_sem, *]) | (refine Qi rfl rfl rfl rfl ?_ ?_ <;> (intro hb; (try intro _ hK); have hc := hb; try simp only [go_sem] at hc; simp only [go_sem, *])) | refine Qh rfl ?_ | refine Qd rfl (by kernel_rfl) ?_ | (refine Qc rfl rfl ?_ ?_ <;> (intro hb; have hc := hb; try simp only [go_sem] at hc)) | refine q6 rfl ?_ | (refine Qb ?_ ?_; focus kernel_rfl) | ((with_reducible apply And.intro); focus omega) | (refine z8 hK ?_; clear hK; simp only [go_sem, *]) | simp only [z6, z7, go_sem, *])
    all_goals try contradiction
    refine u3 rfl (w.length) (fun j => (if l2 (w.drop j) = 0 then W2 s (s.steps.drop (i + 1)) else 8) = G) 96 (fun j => [(6, iV j), (5, .list (w.map Change.enc)), (4, iV i), (1, .ptr 0 0)]) (fun j => [.box [.list (s.first.map y7), .list (s.steps.map i9), .list (s.facts.map Fact.enc)]]) [some 0] [] (by exact hP0) ?_; intro j hj hQ
    by_cases hj : j < w.length
    ·have hj3 : (j : Int) < w.length := by omega
     rw [zIT hj] at hQ
     have sb := zIC (w.getD j default).kind 1 7
     by_cases hbt : zLr (w.getD j default).kind 1 7 = true
     ·rw [if_pos hbt] at hQ
      rw [hbt] at sb
      repeat' (first | (refine Qr rfl ?_; try intro _ hK; try simp only [go_sem, *]) | (refine Qi rfl rfl rfl rfl ?_ ?_ <;> (intro hb; (try intro _ hK); have hc := hb; try simp only [go_sem] at hc; simp only [go_sem, *])) | refine Qh rfl ?_ | refine Qd rfl (by kernel_rfl) ?_ | (refine Qc rfl rfl ?_ ?_ <;> (intro hb; have hc := hb; try simp only [go_sem] at hc)) | refine q6 rfl ?_ | (refine Qb ?_ ?_; focus kernel_rfl) | (refine y4 (sb) ?_; simp only [go_sem, *]) | ((with_reducible apply And.intro); focus omega) | (refine z8 hK ?_; clear hK; simp only [go_sem, *]) | simp only [z6, z7, go_sem, *])
      all_goals try contradiction
      exact u2 (i' := j + 1) [some 0] [] (by exact hQ)
     ·rw [if_neg hbt, if_neg (by decide)] at hQ
      rw [Bool.not_eq_true] at hbt
      rw [hbt] at sb
      subst hQ
      repeat' (first | (refine Qr rfl ?_; try intro _ hK; try simp only [go_sem, *]) | (refine Qi rfl rfl rfl rfl ?_ ?_ <;> (intro hb; (try intro _ hK); have hc := hb; try simp only [go_sem] at hc; simp only [go_sem, *])) | refine Qh rfl ?_ | refine Qd rfl (by kernel_rfl) ?_ | (refine Qc rfl rfl ?_ ?_ <;> (intro hb; have hc := hb; try simp only [go_sem] at hc)) | refine q6 rfl ?_ | (refine Qb ?_ ?_; focus kernel_rfl) | (refine y4 (sb) ?_; simp only [go_sem, *]) | ((with_reducible apply And.intro); focus omega) | (refine z8 hK ?_; clear hK; simp only [go_sem, *]) | simp only [z6, z7, go_sem, *])
      all_goals try contradiction
      (refine ⟨[_], [], [], ⟨rfl, trivial⟩, ?_⟩; simp only [go_sem, *])
    ·have hj3 : ¬ (j : Int) < w.length := by omega
     rw [u7 (by omega), l2, if_pos rfl] at hQ
     repeat' (first | (refine Qr rfl ?_; try intro _ hK; try simp only [go_sem, *]) | (refine Qi rfl rfl rfl rfl ?_ ?_ <;> (intro hb; (try intro _ hK); have hc := hb; try simp only [go_sem] at hc; simp only [go_sem, *])) | refine Qh rfl ?_ | refine Qd rfl (by kernel_rfl) ?_ | (refine Qc rfl rfl ?_ ?_ <;> (intro hb; have hc := hb; try simp only [go_sem] at hc)) | refine q6 rfl ?_ | (refine Qb ?_ ?_; focus kernel_rfl) | ((with_reducible apply And.intro); focus omega) | (refine z8 hK ?_; clear hK; simp only [go_sem, *]) | simp only [z6, z7, go_sem, *])
     all_goals try contradiction
     exact u2 (i' := i + 1) [some 0] [] (by exact hQ)
   ·rw [u7 (by omega), W2, Y2, if_pos rfl] at hP
    by_cases hf4 : 4 < s.facts.length
    ·have hf4i : (s.facts.length : Int) > 4 := by omega
     rw [L8, if_pos hf4] at hP
     subst hP
     repeat' (first | (refine Qr rfl ?_; try intro _ hK; try simp only [go_sem, *]) | (refine Qi rfl rfl rfl rfl ?_ ?_ <;> (intro hb; (try intro _ hK); have hc := hb; try simp only [go_sem] at hc; simp only [go_sem, *])) | refine Qh rfl ?_ | refine Qd rfl (by kernel_rfl) ?_ | (refine Qc rfl rfl ?_ ?_ <;> (intro hb; have hc := hb; try simp only [go_sem] at hc)) | refine q6 rfl ?_ | (refine Qb ?_ ?_; focus kernel_rfl) | ((with_reducible apply And.intro); focus omega) | (refine z8 hK ?_; clear hK; simp only [go_sem, *]) | simp only [z6, z7, go_sem, *])
     all_goals try contradiction
     (refine ⟨[_], [], [], ⟨rfl, trivial⟩, ?_⟩; simp only [go_sem, *])
    have hf4i : ¬ (s.facts.length : Int) > 4 := by omega
    rw [L8, if_neg hf4] at hP
    have hi3 : ¬ (i : Int) < s.steps.length := by omega
    repeat' (first | (refine Qr rfl ?_; try intro _ hK; try simp only [go_sem, *]) | (refine Qi rfl rfl rfl rfl ?_ ?_ <;> (intro hb; (try intro _ hK); have hc := hb; try simp only [go_sem] at hc; simp only [go_sem, *])) | refine Qh rfl ?_ | refine Qd rfl (by kernel_rfl) ?_ | (refine Qc rfl rfl ?_ ?_ <;> (intro hb; have hc := hb; try simp only [go_sem] at hc)) | refine q6 rfl ?_ | (refine Qb ?_ ?_; focus kernel_rfl) | ((with_reducible apply And.intro); focus omega) | (refine z8 hK ?_; clear hK; simp only [go_sem, *]) | simp only [z6, z7, go_sem, *])
    all_goals try contradiction
    clear hi2 hi hi3
    refine u3 rfl (s.facts.length) (fun k => Q4 s.first (s.facts.drop k) = G) 96 (fun k => [(7, iV k), (1, .ptr 0 0)]) (fun k => [.box [.list (s.first.map y7), .list (s.steps.map i9), .list (s.facts.map Fact.enc)]]) [some 0] [] (by exact hP) ?_; intro k hk hQ
    by_cases hk : k < s.facts.length
    ·have hk3 : (k : Int) < s.facts.length := by omega
     rw [zEi hk] at hQ
     have hcn := v.count
     have hln := v.len
     have hwp : IntKind.i64.wrap ((s.first.length : Int) - 1) = (s.first.length : Int) - 1 := wrap_i64 (by omega) (by omega)
     have s1 := zOI s.first (s.facts.getD k default).src (by omega) (fun l hl => by have := (v.rows l hl).len; omega)
     have s2 := zIC (s.facts.getD k default).dst.street 0 ((s.first.length : Int) - 1)
     have s3 := zLU (s.facts.getD k default).dst.plate
     by_cases q1 : (s.facts.getD k default).src ∈ q9 s.first
     ·by_cases q2 : zLr (s.facts.getD k default).dst.street 0 ((s.first.length : Int) - 1) = true
      ·rw [if_pos ⟨q1, q2⟩] at hQ
       have q1' : decide ((s.facts.getD k default).src ∈ q9 s.first) = true := by simpa using q1
       rw [q1'] at s1
       rw [q2] at s2
       by_cases q3 : (s.facts.getD k default).dst.plate.ok = true
       ·rw [if_pos q3] at hQ
        rw [q3] at s3
        clear q1 q1' q2 q3
        repeat' (first | (refine Qr rfl ?_; try intro _ hK; try simp only [go_sem, *]) | (refine Qi rfl rfl rfl rfl ?_ ?_ <;> (intro hb; (try intro _ hK); have hc := hb; try simp only [go_sem] at hc; simp only [go_sem, *])) | refine Qh rfl ?_ | refine Qd rfl (by kernel_rfl) ?_ | (refine Qc rfl rfl ?_ ?_ <;> (intro hb; have hc := hb; try simp only [go_sem] at hc)) | refine q6 rfl ?_ | (refine Qb ?_ ?_; focus kernel_rfl) | ((first | refine y4 (s1) ?_ | refine y4 (s2) ?_ | refine y4 (s3) ?_); simp only [go_sem, *]) | ((with_reducible apply And.intro); focus omega) | (refine z8 hK ?_; clear hK; simp only [go_sem, *]) | simp only [z6, z7, go_sem, *])
        all_goals try contradiction
        exact u2 (i' := k + 1) [some 0] [] (by exact hQ)
       ·rw [if_neg q3] at hQ
        rw [Bool.not_eq_true] at q3
        rw [q3] at s3
        clear q1 q1' q2 q3
        subst hQ
        repeat' (first | (refine Qr rfl ?_; try intro _ hK; try simp only [go_sem, *]) | (refine Qi rfl rfl rfl rfl ?_ ?_ <;> (intro hb; (try intro _ hK); have hc := hb; try simp only [go_sem] at hc; simp only [go_sem, *])) | refine Qh rfl ?_ | refine Qd rfl (by kernel_rfl) ?_ | (refine Qc rfl rfl ?_ ?_ <;> (intro hb; have hc := hb; try simp only [go_sem] at hc)) | refine q6 rfl ?_ | (refine Qb ?_ ?_; focus kernel_rfl) | ((first | refine y4 (s1) ?_ | refine y4 (s2) ?_ | refine y4 (s3) ?_); simp only [go_sem, *]) | ((with_reducible apply And.intro); focus omega) | (refine z8 hK ?_; clear hK; simp only [go_sem, *]) | simp only [z6, z7, go_sem, *])
        all_goals try contradiction
        (refine ⟨[_], [], [], ⟨rfl, trivial⟩, ?_⟩; simp only [go_sem, *])
      ·rw [if_neg (fun h => q2 h.2)] at hQ
       have q1' : decide ((s.facts.getD k default).src ∈ q9 s.first) = true := by simpa using q1
       rw [q1'] at s1
       rw [Bool.not_eq_true] at q2
       rw [q2] at s2
       clear q1 q1' q2
       subst hQ
       repeat' (first | (refine Qr rfl ?_; try intro _ hK; try simp only [go_sem, *]) | (refine Qi rfl rfl rfl rfl ?_ ?_ <;> (intro hb; (try intro _ hK); have hc := hb; try simp only [go_sem] at hc; simp only [go_sem, *])) | refine Qh rfl ?_ | refine Qd rfl (by kernel_rfl) ?_ | (refine Qc rfl rfl ?_ ?_ <;> (intro hb; have hc := hb; try simp only [go_sem] at hc)) | refine q6 rfl ?_ | (refine Qb ?_ ?_; focus kernel_rfl) | ((first | refine y4 (s1) ?_ | refine y4 (s2) ?_ | refine y4 (s3) ?_); simp only [go_sem, *]) | ((with_reducible apply And.intro); focus omega) | (refine z8 hK ?_; clear hK; simp only [go_sem, *]) | simp only [z6, z7, go_sem, *])
       all_goals try contradiction
       (refine ⟨[_], [], [], ⟨rfl, trivial⟩, ?_⟩; simp only [go_sem, *])
     ·rw [if_neg (fun h => q1 h.1)] at hQ
      have q1' : decide ((s.facts.getD k default).src ∈ q9 s.first) = false := by simpa using q1
      rw [q1'] at s1
      clear q1 q1'
      subst hQ
      repeat' (first | (refine Qr rfl ?_; try intro _ hK; try simp only [go_sem, *]) | (refine Qi rfl rfl rfl rfl ?_ ?_ <;> (intro hb; (try intro _ hK); have hc := hb; try simp only [go_sem] at hc; simp only [go_sem, *])) | refine Qh rfl ?_ | refine Qd rfl (by kernel_rfl) ?_ | (refine Qc rfl rfl ?_ ?_ <;> (intro hb; have hc := hb; try simp only [go_sem] at hc)) | refine q6 rfl ?_ | (refine Qb ?_ ?_; focus kernel_rfl) | ((first | refine y4 (s1) ?_ | refine y4 (s2) ?_ | refine y4 (s3) ?_); simp only [go_sem, *]) | ((with_reducible apply And.intro); focus omega) | (refine z8 hK ?_; clear hK; simp only [go_sem, *]) | simp only [z6, z7, go_sem, *])
      all_goals try contradiction
      (refine ⟨[_], [], [], ⟨rfl, trivial⟩, ?_⟩; simp only [go_sem, *])
    ·rw [u7 (by omega), Q4] at hQ
     subst hQ
     have hk3 : ¬ (k : Int) < s.facts.length := by omega
     repeat' (first | (refine Qr rfl ?_; try intro _ hK; try simp only [go_sem, *]) | (refine Qi rfl rfl rfl rfl ?_ ?_ <;> (intro hb; (try intro _ hK); have hc := hb; try simp only [go_sem] at hc; simp only [go_sem, *])) | refine Qh rfl ?_ | refine Qd rfl (by kernel_rfl) ?_ | (refine Qc rfl rfl ?_ ?_ <;> (intro hb; have hc := hb; try simp only [go_sem] at hc)) | refine q6 rfl ?_ | (refine Qb ?_ ?_; focus kernel_rfl) | ((with_reducible apply And.intro); focus omega) | (refine z8 hK ?_; clear hK; simp only [go_sem, *]) | simp only [z6, z7, go_sem, *])
     all_goals try contradiction
     (refine ⟨[_], [], [], ⟨rfl, trivial⟩, ?_⟩; simp only [go_sem, *])
 ·have e : (check s.first == 0) = false := by simpa using hc0
  have e2 : (check s.first != 0) = true := by simpa using hc0
  rw [r9, if_neg hc0] at hG
  subst hG
  clear hc0
  generalize check s.first = k at *
  refine q8 func107 rfl (fun E hE => ?_); simp only [go_sem, ntmps107]
  repeat' (first | (refine Qr rfl ?_; try intro _ hK; try simp only [go_sem, *]) | (refine Qi rfl rfl rfl rfl ?_ ?_ <;> (intro hb; (try intro _ hK); have hc := hb; try simp only [go_sem] at hc; simp only [go_sem, *])) | refine Qh rfl ?_ | refine Qd rfl (by kernel_rfl) ?_ | (refine Qc rfl rfl ?_ ?_ <;> (intro hb; have hc := hb; try simp only [go_sem] at hc)) | refine q6 rfl ?_ | (refine Qb ?_ ?_; focus kernel_rfl) | (refine y4 (sc) ?_; simp only [go_sem, *]) | ((with_reducible apply And.intro); focus omega) | (refine z8 hK ?_; clear hK; simp only [go_sem, *]) | simp only [z6, z7, go_sem, *])
  all_goals try contradiction
  all_goals (refine ⟨[_], [], [], ⟨rfl, trivial⟩, ?_⟩; simp only [go_sem, *])
end Go.Abs

namespace Go.Abs
open Go Go.Proofs Tryz
attribute [local irreducible] y6 Hold x8
@[reducible] def zNG (s : Story) : AObj := .box [.list (s.first.map y7), .list (s.steps.map i9), .list (s.facts.map Fact.enc)]
@[reducible] def zRu (hs : List House) (f : House → List House) : List AV := hs.map fun h => Q3 (f h)
@[go_sem, simp] theorem zRR (H : Nat → AObj) (m : List (Option Nat)) (ex : List Nat) (l : List House) (f : House → List House) : XpL H m ex (List.map (fun h => AV.list (List.map House.enc (f h))) l) (List.map (fun h => AV.list (List.map House.enc (f h))) l) ↔ True := ⟨fun _ => trivial, fun _ => zBA (fun x => by simp only [XpF]) _⟩
@[go_sem, simp] theorem zRZ {α : Type} (H : Nat → AObj) (m : List (Option Nat)) (ex : List Nat) (f : α → List AV) (l : List α) (i : Nat) (x y : AV) : XpL H m ex (List.take i (List.map (fun t => AV.list (f t)) l) ++ [x]) (List.take i (List.map (fun t => AV.list (f t)) l) ++ [y]) ↔ XpF H m ex x y := by
 rw [L0 _ (fun z hz => by
  obtain ⟨t, _, rfl⟩ := List.mem_map.1 (List.mem_of_mem_take hz)
  simp only [XpF])]
@[go_sem, simp] theorem zRW {α : Type} (H : Nat → AObj) (m : List (Option Nat)) (ex : List Nat) (f : α → List AV) (l : List α) (x y : AV) : XpL H m ex (List.map (fun t => AV.list (f t)) l ++ [x]) (List.map (fun t => AV.list (f t)) l ++ [y]) ↔ XpF H m ex x y := by
 rw [L0 _ (fun z hz => by
  obtain ⟨t, _, rfl⟩ := List.mem_map.1 hz
  simp only [XpF])]
def zRy (h : House) : List House := [h]
theorem zPg {s : Story} {n : Nat} {t : Truth} (o : TOk s n t) (c : Change) (i : Nat) {h : House} (hh : h ∈ q9 s.first) : s6 (zMK (N1 t.fin c) (t.now h)) = (n0 t c i).now h := by
 rw [zJU t.fin c (t.now h) (o.mem h hh)]; rfl
theorem zPG (s : Story) (o : Told s) : ∀ (n : Nat) (t : Truth), TOk s n t → zLp prog 143 [s.enc, t.encR s.first] [] (.list ((l4 s n t).map (Truth.encR s.first))) []
 | 0, t, k => by
  have hq : ((t.ways.length : Int) == (s.steps.length : Int)) = true := by have := k.steps; simp; omega
  rw [l4]
  clear o k
  refine q8 func143 rfl (fun E hE => ?_); simp only [go_sem, ntmps143]
  repeat' (first | (refine Qr rfl ?_; try intro _ hK; try simp only [go_sem, *]) | refine Qh rfl ?_ | refine Qd rfl (by kernel_rfl) ?_ | (refine Qc rfl rfl ?_ ?_ <;> (intro hb; have hc := hb; try simp only [go_sem] at hc)) | refine q6 rfl ?_ | (refine Qb ?_ ?_; focus kernel_rfl) | ((with_reducible apply And.intro); focus omega) | (refine z8 hK ?_; clear hK; simp only [go_sem, *]) | simp only [z6, z7, go_sem, *])
  all_goals try contradiction
  refine ⟨[.own 2 3 0 1], [], [2], ⟨rfl, trivial⟩, ?_⟩
  simp only [go_sem, *]
 | n + 1, t, k => by
  have IH := fun t' k' => zPG s o n t' k'
  have hst := k.steps
  have h3 := o.steps
  have hq : ((t.ways.length : Int) == (s.steps.length : Int)) = false := by simp; omega
  have hk : t.ways.length < s.steps.length := by omega
  have hv := k.val
  have hv3 := hv.len
  have hct := o.first.count
  have hRl : (l4 s (n + 1) t).length ≤ 27 := by
   have h1 := zBu (fun w hw => (o.ways w hw).2.1) (n + 1) t
   have h2 : 3 ^ (n + 1) ≤ 3 ^ 3 := Nat.pow_le_pow_right (by omega) (by omega)
   omega
  have hR0 : ([] : List Truth) ++ b9 s n t 0 = l4 s (n + 1) t := by rw [zKD]; rfl
  have hWl : (s.steps.getD t.ways.length default).length ≤ 3 := (o.ways _ (w8 hk)).2.1
  have hyes : ∀ i, i < (s.steps.getD t.ways.length default).length → can t.fin ((s.steps.getD t.ways.length default).getD i default) = 0 → b9 s n t i = l4 s n (n0 t ((s.steps.getD t.ways.length default).getD i default) i) ++ b9 s n t (i + 1) := fun i hi hc => zKC hi hc
  have hno : ∀ i, i < (s.steps.getD t.ways.length default).length → can t.fin ((s.steps.getD t.ways.length default).getD i default) ≠ 0 → b9 s n t i = b9 s n t (i + 1) := fun i hi hc => zKB hi hc
  have hen : ∀ i, (s.steps.getD t.ways.length default).length ≤ i → b9 s n t i = [] := fun i hi => zKA hi
  generalize hWd : s.steps.getD t.ways.length default = W at *
  generalize l4 s (n + 1) t = R at *
  refine q8 func143 rfl (fun E hE => ?_); simp only [go_sem, ntmps143]
  repeat' (first | (refine Qr rfl ?_; try intro _ hK; try simp only [go_sem, *]) | refine Qh rfl ?_ | refine Qd rfl (by kernel_rfl) ?_ | (refine Qc rfl rfl ?_ ?_ <;> (intro hb; have hc := hb; try simp only [go_sem] at hc)) | refine q6 rfl ?_ | (refine Qb ?_ ?_; focus kernel_rfl) | ((with_reducible apply And.intro); focus omega) | (refine z8 hK ?_; clear hK; simp only [go_sem, *]) | simp only [z6, z7, go_sem, *])
  all_goals try contradiction
  clear hWd hq
  refine u4 rfl (W.length) (fun i (acc : List Truth) => acc ++ b9 s n t i = R) 86 (fun i acc => [(7, iV i), (6, .list (W.map Change.enc)), (5, .own 2 3 0 acc.length), (2, .ptr 0 0), (3, .ptr 1 0)]) (fun i acc => [zNG s, .box [.list (t.ways.map iV), .list (t.fin.map y7), .list (zRu (q9 s.first) t.now)], .row 3 (acc.map (Truth.encR s.first))]) [some 0, some 1, none] [] ([]) (by exact hR0) ?_; intro i acc hi hP
  clear hR0
  have hql := congrArg List.length hP
  simp only [List.length_append] at hql
  by_cases hi : i < W.length
  ·have hi3 : (i : Int) < W.length := by omega
   have sC := zQa t.fin (W.getD i default) hv
   by_cases e : can t.fin (W.getD i default) = 0
   ·have f := Fit.of_can e
    have sM := zQt t.fin (W.getD i default) hv f
    rw [hyes i hi e] at hP hql
    simp only [List.length_append] at hql
    rw [e] at sC
    have kn := k.next e i
    have IH1 := IH _ kn
    have hcar : ∀ h, h ∈ q9 s.first → zLp prog 167 [x7 t.fin, (W.getD i default).enc, Q3 (t.now h)] [] (Q3 ((n0 t (W.getD i default) i).now h)) [] := fun h hh => by
     have := zQl t.fin (W.getD i default) (t.now h) hv f (by have := k.small h3 hh; omega)
     rwa [zPg k (W.getD i default) i hh] at this
    have hf : (n0 t (W.getD i default) i).fin = s9 t.fin (W.getD i default) := rfl
    have hw : (n0 t (W.getD i default) i).ways = t.ways ++ [(i : Int)] := rfl
    have hwl : t.ways.length ≤ 3 := by omega
    rw [← hf] at sM
    clear hyes hno hen IH e f kn hf
    generalize n0 t (W.getD i default) i = t2 at *
    generalize l4 s n t2 = B at *
    generalize hHd : q9 s.first = H at *
    have ht : ∀ a : AV, List.take (t.ways.length + 1) (List.map iV t.ways ++ [a]) = List.map iV t.ways ++ [a] := fun a => List.take_of_length_le (by simp)
    repeat' (first | (refine Qr rfl ?_; try intro _ hK; try simp only [go_sem, *]) | refine Qh rfl ?_ | refine Qd rfl (by kernel_rfl) ?_ | (refine Qc rfl rfl ?_ ?_ <;> (intro hb; have hc := hb; try simp only [go_sem] at hc)) | refine q6 rfl ?_ | (with_reducible (show (∀ _ : AV, _ → _) ∧ _); refine And.intro ?_ ?_; (focus (intro y hy; first | (obtain ⟨z, _, rfl⟩ := List.mem_map.1 (hy); simp [go_sem]; done) | (obtain ⟨z, _, rfl⟩ := List.mem_map.1 (List.mem_of_mem_take hy); simp [go_sem]; done) | (obtain ⟨z, _, rfl⟩ := List.mem_map.1 (List.mem_of_mem_drop hy); simp [go_sem]; done) | (obtain ⟨z, _, rfl⟩ := List.mem_map.1 (List.mem_of_mem_drop (List.mem_of_mem_take hy)); simp [go_sem]; done)))) | (refine Qb ?_ ?_; focus kernel_rfl) | ((first | refine y4 (sC) ?_ | refine y4 (sM) ?_); simp only [go_sem, *]) | ((with_reducible apply And.intro); focus omega) | (refine z8 hK ?_; clear hK; simp only [go_sem, *]) | simp only [z6, z7, go_sem, *])
    all_goals try contradiction
    clear sC sM
    refine u3 rfl (H.length) (fun j => NoP j) 86 (fun j => [(9, iV j), (8, .ptr 3 0), (7, iV i), (6, .list (W.map Change.enc)), (5, .own 2 3 0 acc.length), (2, .ptr 0 0), (3, .ptr 1 0)]) (fun j => [zNG s, .box [.list (t.ways.map iV), .list (t.fin.map y7), .list (zRu H t.now)], .row 3 (acc.map (Truth.encR s.first)), .box [.list (t2.ways.map iV), .list (t2.fin.map y7), .own 4 1 0 j], .box (zRu (H.take j) t2.now)]) [some 0, some 1, some 2, some 7, none] [6] (by trivial) ?_; intro j hj hJ
    clear hw ht
    by_cases hj : j < H.length
    ·have hj3 : (j : Int) < H.length := by omega
     have sc := hcar _ (w8 hj)
     have e := Z8 (l := H) (i := j) hj
     clear hcar
     repeat' (first | (refine Qr rfl ?_; try intro _ hK; try simp only [go_sem, *]) | refine Qh rfl ?_ | refine Qd rfl (by kernel_rfl) ?_ | (refine Qc rfl rfl ?_ ?_ <;> (intro hb; have hc := hb; try simp only [go_sem] at hc)) | refine q6 rfl ?_ | (with_reducible (show (∀ _ : AV, _ → _) ∧ _); refine And.intro ?_ ?_; (focus (intro y hy; first | (obtain ⟨z, _, rfl⟩ := List.mem_map.1 (hy); simp [go_sem]; done) | (obtain ⟨z, _, rfl⟩ := List.mem_map.1 (List.mem_of_mem_take hy); simp [go_sem]; done) | (obtain ⟨z, _, rfl⟩ := List.mem_map.1 (List.mem_of_mem_drop hy); simp [go_sem]; done) | (obtain ⟨z, _, rfl⟩ := List.mem_map.1 (List.mem_of_mem_drop (List.mem_of_mem_take hy)); simp [go_sem]; done)))) | (refine Qb ?_ ?_; focus kernel_rfl) | (refine y4 (sc) ?_; simp only [go_sem, *]) | ((with_reducible apply And.intro); focus omega) | (refine z8 hK ?_; clear hK; simp only [go_sem, *]) | simp only [z6, z7, go_sem, *])
     all_goals try contradiction
     exact u2 (i' := j + 1) [some 0, some 1, some 2, some 3, some 6] [] (by trivial)
    ·have hj3 : ¬ (j : Int) < H.length := by omega
     have e : H.take j = H := List.take_of_length_le (by omega)
     have e2 : j = H.length := by omega
     subst e2
     clear hcar
     refine G9 (N := 86) (env := [(9, iV H.length), (8, .ptr 3 0), (7, iV i), (6, .list (W.map Change.enc)), (5, .own 2 3 0 acc.length), (2, .ptr 0 0), (3, .ptr 1 0)]) (As := [zNG s, .box [.list (t.ways.map iV), .list (t.fin.map y7), .list (zRu H t.now)], .row 3 (acc.map (Truth.encR s.first)), .box [.list (t2.ways.map iV), .list (t2.fin.map y7), .list (zRu H t2.now)]]) [some 0, some 1, some 2, some 3] [4] (by (simp only [Weak, go_sem, List.map_append, List.map_set, *] <;> (try simp (disch := omega) only [t8]) <;> (try simp) <;> (try omega))) ?_
     simp only [Truth.encR, hHd] at IH1
     clear e
     repeat' (first | (refine Qr rfl ?_; try intro _ hK; try simp only [go_sem, *]) | refine Qh rfl ?_ | refine Qd rfl (by kernel_rfl) ?_ | (refine Qc rfl rfl ?_ ?_ <;> (intro hb; have hc := hb; try simp only [go_sem] at hc)) | refine q6 rfl ?_ | (with_reducible (show (∀ _ : AV, _ → _) ∧ _); refine And.intro ?_ ?_; (focus (intro y hy; first | (obtain ⟨z, _, rfl⟩ := List.mem_map.1 (hy); simp [go_sem]; done) | (obtain ⟨z, _, rfl⟩ := List.mem_map.1 (List.mem_of_mem_take hy); simp [go_sem]; done) | (obtain ⟨z, _, rfl⟩ := List.mem_map.1 (List.mem_of_mem_drop hy); simp [go_sem]; done) | (obtain ⟨z, _, rfl⟩ := List.mem_map.1 (List.mem_of_mem_drop (List.mem_of_mem_take hy)); simp [go_sem]; done)))) | (refine Qb ?_ ?_; focus kernel_rfl) | (refine y4 (IH1) ?_; simp only [go_sem, *]) | ((with_reducible apply And.intro); focus omega) | (refine z8 hK ?_; clear hK; simp only [go_sem, *]) | simp only [z6, z7, go_sem, *])
     all_goals try contradiction
     exact w6 (i' := i + 1) [some 0, some 1, some 4] [] (acc ++ B) (by rw [← hP]; simp)
   ·rw [hno i hi e] at hP
    have e2 : (can t.fin (W.getD i default) != 0) = true := by simpa using e
    clear hyes hno hen IH e
    generalize can t.fin (W.getD i default) = er at *
    repeat' (first | (refine Qr rfl ?_; try intro _ hK; try simp only [go_sem, *]) | refine Qh rfl ?_ | refine Qd rfl (by kernel_rfl) ?_ | (refine Qc rfl rfl ?_ ?_ <;> (intro hb; have hc := hb; try simp only [go_sem] at hc)) | refine q6 rfl ?_ | (refine Qb ?_ ?_; focus kernel_rfl) | (refine y4 (sC) ?_; simp only [go_sem, *]) | ((with_reducible apply And.intro); focus omega) | (refine z8 hK ?_; clear hK; simp only [go_sem, *]) | simp only [z6, z7, go_sem, *])
    all_goals try contradiction
    exact w6 (i' := i + 1) [some 0, some 1, some 2] [] (acc) (by exact hP)
  ·have hi3 : ¬ (i : Int) < W.length := by omega
   rw [hen i (by omega), List.append_nil] at hP
   subst hP
   clear hyes hno hen IH
   repeat' (first | (refine Qr rfl ?_; try intro _ hK; try simp only [go_sem, *]) | refine Qh rfl ?_ | refine Qd rfl (by kernel_rfl) ?_ | (refine Qc rfl rfl ?_ ?_ <;> (intro hb; have hc := hb; try simp only [go_sem] at hc)) | refine q6 rfl ?_ | (refine Qb ?_ ?_; focus kernel_rfl) | ((with_reducible apply And.intro); focus omega) | (refine z8 hK ?_; clear hK; simp only [go_sem, *]) | simp only [z6, z7, go_sem, *])
   all_goals try contradiction
   refine ⟨[.own 2 3 0 acc.length], [], [2], ⟨rfl, trivial⟩, ?_⟩
   simp only [go_sem, *]
theorem zOF (s : Story) (t : Truth) (h : House) (v : Valid s.first) (hh : h ∈ q9 s.first) : zLp prog 115 [s.enc, t.encR s.first, h.enc] [] (Q3 (t.now h)) [] := by
 have hct := v.count
 have sO := zLa s.first (by have := v.len; omega) (fun l hl => by have := (v.rows l hl).len; omega) (by omega)
 generalize hHd : q9 s.first = H at *
 refine q8 func115 rfl (fun E hE => ?_); simp only [go_sem, ntmps115]
 repeat' (first | (refine Qr rfl ?_; try intro _ hK; try simp only [go_sem, *]) | refine Qh rfl ?_ | refine Qd rfl (by kernel_rfl) ?_ | (refine Qc rfl rfl ?_ ?_ <;> (intro hb; have hc := hb; try simp only [go_sem] at hc)) | refine q6 rfl ?_ | (refine Qb ?_ ?_; focus kernel_rfl) | (refine zJQ (sO) ?_ ?_ ?_ ?_; (focus (simp only [go_sem, *]; done)); (focus (first | (simp; done) | (simp [go_sem]; done))); (focus (first | (simp; done) | (simp [go_sem]; done))); simp only [go_sem, *]) | (refine zD5 (sO) ?_ ?_; (focus (simp only [go_sem, *]; done)); simp only [go_sem, *]) | ((with_reducible apply And.intro); focus omega) | (refine z8 hK ?_; clear hK; simp only [go_sem, *]) | simp only [z6, z7, go_sem, *])
 all_goals try contradiction
 refine u3 rfl (H.length) (fun i => h ∉ H.take i) 29 (fun i => [(8, iV i), (7, Q3 H), (5, .ptr 1 0), (4, .ptr 0 0)]) (fun i => [.box [.list (t.ways.map iV), .list (t.fin.map y7), .list (zRu H t.now)], .box [iV h.street, iV h.plate.number, iV h.plate.letter]]) [some 1, some 2] [3] (by simp) ?_; intro i hi hP
 by_cases hi : i < H.length
 ·have hi3 : (i : Int) < H.length := by omega
  by_cases q : H.getD i default = h
  ·have q' : decide (H.getD i default = h) = true := decide_eq_true q
   have e : t.now (H.getD i default) = t.now h := by rw [q]
   clear q hP hh
   repeat' (first | (refine Qr rfl ?_; try intro _ hK; try simp only [go_sem, *]) | refine Qh rfl ?_ | refine Qd rfl (by kernel_rfl) ?_ | (refine Qc rfl rfl ?_ ?_ <;> (intro hb; have hc := hb; try simp only [go_sem] at hc)) | refine q6 rfl ?_ | (refine Qb ?_ ?_; focus kernel_rfl) | ((with_reducible apply And.intro); focus omega) | (refine z8 hK ?_; clear hK; simp only [go_sem, *]) | simp only [z6, z7, go_sem, *])
   all_goals try contradiction
   (refine ⟨[_], [], [], ⟨rfl, trivial⟩, ?_⟩; simp only [go_sem, *])
  ·have q' : decide (H.getD i default = h) = false := decide_eq_false q
   have hP2 : h ∉ H.take (i + 1) := by rw [Z8 hi, List.mem_append, List.mem_singleton]; exact fun h => h.elim hP (fun e => q e.symm)
   clear q hP hh
   repeat' (first | (refine Qr rfl ?_; try intro _ hK; try simp only [go_sem, *]) | refine Qh rfl ?_ | refine Qd rfl (by kernel_rfl) ?_ | (refine Qc rfl rfl ?_ ?_ <;> (intro hb; have hc := hb; try simp only [go_sem] at hc)) | refine q6 rfl ?_ | (refine Qb ?_ ?_; focus kernel_rfl) | ((with_reducible apply And.intro); focus omega) | (refine z8 hK ?_; clear hK; simp only [go_sem, *]) | simp only [z6, z7, go_sem, *])
   all_goals try contradiction
   exact u2 (i' := i + 1) [some 0, some 1] [] (by exact hP2)
 ·rw [List.take_of_length_le (by omega)] at hP
  exact absurd hh hP
def FaR (s : Story) (T : Truth) (k : Nat) (b : Bool) (A : Bool) : Prop := (b = true ∧ f7 (s.facts.drop k) T = A) ∨ (b = false ∧ A = false)
theorem zNW (s : Story) (o : Told s) : zLp prog 108 [s.enc] [] (.list ((r5 s).map (Truth.encR s.first))) [] := by
 have v := o.first
 have hct := v.count
 have hp0 := v.ne
 have hp3 := v.len
 have sO := zLa s.first (by have := v.len; omega) (fun l hl => by have := (v.rows l hl).len; omega) (by omega)
 have sL := zPJ (n := s.first.length) (q9 s.first) (by omega) (fun z hz => by have := mem_houses.1 hz; exact ⟨this.1, this.2.1⟩) (by omega)
 rw [zKK v] at sL
 have sG := zPG s o s.steps.length (Y8 s) (A6 v)
 have hG : l4 s s.steps.length (Y8 s) = B3 s := rfl
 rw [hG] at sG
 have hf : Truth.encR s.first (Y8 s) = .agg [.list [], .list (s.first.map y7), .list (zRu (q9 s.first) zRy)] := rfl
 rw [hf] at sG
 have hLl := zI5 o
 have h0 : ([] : List Truth) ++ ((B3 s).drop 0).filter (f7 s.facts) = r5 s := by rw [← zI4]; rfl
 have hTl : (r5 s).length ≤ 27 := by rw [← zI4]; exact Nat.le_trans (List.length_filter_le _ _) hLl
 have sA := fun t h hh => zOF s t h v hh
 have hok := zI6 v
 have hsrc : ∀ f, f ∈ s.facts → f.src ∈ q9 s.first := fun f hf => (o.fact f hf).1
 have hf4 := o.facts
 have h3 := o.steps
 have hsm : ∀ t, t ∈ B3 s → ∀ f, f ∈ s.facts → (t.now f.src).length ≤ 8 := fun t ht f hf => (hok t ht).small h3 (hsrc f hf)
 clear hG hf hok
 generalize r5 s = R at *
 generalize B3 s = L at *
 generalize hHd : q9 s.first = H at *
 refine q8 func108 rfl (fun E hE => ?_); simp only [go_sem, ntmps108]
 repeat' (first | (refine Qr rfl ?_; try intro _ hK; try simp only [go_sem, *]) | (refine Qi rfl rfl rfl rfl ?_ ?_ <;> (intro hb; (try intro _ hK); have hc := hb; try simp only [go_sem] at hc; simp only [go_sem, *])) | refine Qh rfl ?_ | refine Qd rfl (by kernel_rfl) ?_ | (refine Qc rfl rfl ?_ ?_ <;> (intro hb; have hc := hb; try simp only [go_sem] at hc)) | refine q6 rfl ?_ | (refine Qb ?_ ?_; focus kernel_rfl) | (refine zJQ (sO) ?_ ?_ ?_ ?_; (focus (simp only [go_sem, *]; done)); (focus (first | (simp; done) | (simp [go_sem]; done))); (focus (first | (simp; done) | (simp [go_sem]; done))); simp only [go_sem, *]) | (refine zD5 (sO) ?_ ?_; (focus (simp only [go_sem, *]; done)); simp only [go_sem, *]) | (refine o7 (sL) ?_ rfl ?_ ?_ ?_ ?_; (iterate 2 (focus (simp only [go_sem, *]; done))); (iterate 2 (focus (first | (simp; done) | (simp [go_sem]; done)))); simp only [go_sem, v6, *]) | ((with_reducible apply And.intro); focus omega) | (refine z8 hK ?_; clear hK; simp only [go_sem, *]) | simp only [z6, z7, go_sem, *])
 all_goals try contradiction
 refine u3 rfl (H.length) (fun i => NoP i) 86 (fun i => [(5, iV i), (4, Q3 H), (3, .ptr 1 0), (1, .ptr 0 0)]) (fun i => [zNG s, .box [zLz, .list (s.first.map y7), .own 2 1 0 i], .box (zRu (H.take i) zRy)]) [some 0, some 2, none] [3] (by trivial) ?_; intro i hi hP
 by_cases hi : i < H.length
 ·have hi3 : (i : Int) < H.length := by omega
  have e := Z8 (l := H) (i := i) hi
  have e1 : List.map House.enc (zRy (H.getD i default)) = [House.enc (H.getD i default)] := rfl
  repeat' (first | (refine Qr rfl ?_; try intro _ hK; try simp only [go_sem, *]) | (refine Qi rfl rfl rfl rfl ?_ ?_ <;> (intro hb; (try intro _ hK); have hc := hb; try simp only [go_sem] at hc; simp only [go_sem, *])) | refine Qh rfl ?_ | refine Qd rfl (by kernel_rfl) ?_ | (refine Qc rfl rfl ?_ ?_ <;> (intro hb; have hc := hb; try simp only [go_sem] at hc)) | refine q6 rfl ?_ | (with_reducible (show (∀ _ : AV, _ → _) ∧ _); refine And.intro ?_ ?_; (focus (intro y hy; first | (obtain ⟨z, _, rfl⟩ := List.mem_map.1 (hy); simp [go_sem]; done) | (obtain ⟨z, _, rfl⟩ := List.mem_map.1 (List.mem_of_mem_take hy); simp [go_sem]; done) | (obtain ⟨z, _, rfl⟩ := List.mem_map.1 (List.mem_of_mem_drop hy); simp [go_sem]; done) | (obtain ⟨z, _, rfl⟩ := List.mem_map.1 (List.mem_of_mem_drop (List.mem_of_mem_take hy)); simp [go_sem]; done)))) | (refine Qb ?_ ?_; focus kernel_rfl) | ((with_reducible apply And.intro); focus omega) | (refine z8 hK ?_; clear hK; simp only [go_sem, *]) | simp only [z6, z7, go_sem, *])
  all_goals try contradiction
  exact u2 (i' := i + 1) [some 0, some 1, some 5] [3] (by trivial)
 ·have hi3 : ¬ (i : Int) < H.length := by omega
  have e : H.take i = H := List.take_of_length_le (by omega)
  have e2 : i = H.length := by omega
  subst e2
  refine G9 (N := 86) (env := [(5, iV H.length), (4, Q3 H), (3, .ptr 1 0), (1, .ptr 0 0)]) (As := [zNG s, .box [zLz, .list (s.first.map y7), .list (zRu H zRy)]]) [some 0, some 1] [2] (by (simp only [Weak, go_sem, List.map_append, List.map_set, *] <;> (try simp (disch := omega) only [t8]) <;> (try simp) <;> (try omega))) ?_
  clear e
  repeat' (first | (refine Qr rfl ?_; try intro _ hK; try simp only [go_sem, *]) | (refine Qi rfl rfl rfl rfl ?_ ?_ <;> (intro hb; (try intro _ hK); have hc := hb; try simp only [go_sem] at hc; simp only [go_sem, *])) | refine Qh rfl ?_ | refine Qd rfl (by kernel_rfl) ?_ | (refine Qc rfl rfl ?_ ?_ <;> (intro hb; have hc := hb; try simp only [go_sem] at hc)) | refine q6 rfl ?_ | (refine Qb ?_ ?_; focus kernel_rfl) | (refine o7 (sG) ?_ rfl ?_ ?_ ?_ ?_; (iterate 2 (focus (simp only [go_sem, *]; done))); (iterate 2 (focus (first | (simp; done) | (simp [go_sem]; done)))); simp only [go_sem, v6, *]) | ((with_reducible apply And.intro); focus omega) | (refine z8 hK ?_; clear hK; simp only [go_sem, *]) | simp only [z6, z7, go_sem, *])
  all_goals try contradiction
  clear sO sL sG
  refine u4 rfl (L.length) (fun j (acc : List Truth) => acc ++ (L.drop j).filter (f7 s.facts) = R) 86 (fun j acc => [(8, iV j), (7, .list (L.map (Truth.encR s.first))), (6, .own 1 3 0 acc.length), (1, .ptr 0 0)]) (fun j acc => [zNG s, .row 3 (acc.map (Truth.encR s.first))]) [some 0, none] [] ([]) (by exact h0) ?_; intro j acc hj hQ
  clear h0
  have hql := congrArg List.length hQ
  simp only [List.length_append] at hql
  by_cases hj : j < L.length
  ·have hj3 : (j : Int) < L.length := by omega
   have hm := w8 hj
   have hsm1 := hsm _ hm
   have sA1 := fun h hh => sA (L.getD j default) h hh
   have hd : (L.drop j).filter (f7 s.facts) = if f7 s.facts (L.getD j default) = true then L.getD j default :: (L.drop (j + 1)).filter (f7 s.facts) else (L.drop (j + 1)).filter (f7 s.facts) := by
    rw [u0 hj, List.filter_cons]
   rw [hd] at hQ
   have hf0 : FaR s (L.getD j default) 0 true (f7 s.facts (L.getD j default)) := .inl ⟨rfl, rfl⟩
   clear hd sA hsm hm
   generalize f7 s.facts (L.getD j default) = A at *
   simp only [Truth.encR, hHd] at sA1
   repeat' (first | (refine Qr rfl ?_; try intro _ hK; try simp only [go_sem, *]) | (refine Qi rfl rfl rfl rfl ?_ ?_ <;> (intro hb; (try intro _ hK); have hc := hb; try simp only [go_sem] at hc; simp only [go_sem, *])) | refine Qh rfl ?_ | refine Qd rfl (by kernel_rfl) ?_ | (refine Qc rfl rfl ?_ ?_ <;> (intro hb; have hc := hb; try simp only [go_sem] at hc)) | refine q6 rfl ?_ | (refine Qb ?_ ?_; focus kernel_rfl) | ((with_reducible apply And.intro); focus omega) | (refine z8 hK ?_; clear hK; simp only [go_sem, *]) | simp only [z6, z7, go_sem, *])
   all_goals try contradiction
   refine u4 rfl (s.facts.length) (fun k (b : Bool) => FaR s (L.getD j default) k b A) 86 (fun k b => [(10, iV k), (9, bV b), (8, iV j), (7, .list (L.map (Truth.encR s.first))), (6, .own 1 3 0 acc.length), (1, .ptr 0 0)]) (fun k b => [zNG s, .row 3 (acc.map (Truth.encR s.first))]) [some 0, some 1] [] (true) (by exact hf0) ?_; intro k b hk hS
   clear hf0
   by_cases hk : k < s.facts.length
   ·have hk3 : (k : Int) < s.facts.length := by omega
    rcases hS with ⟨rfl, hA⟩ | ⟨rfl, hA⟩
    ·rw [zEl hk] at hA
     have hfm := w8 hk
     have sA2 := sA1 _ (hsrc _ hfm)
     have hsl := hsm1 _ hfm
     have sI := zNy ((L.getD j default).now (s.facts.getD k default).src) (s.facts.getD k default).dst (by omega)
     have hFa : FaR s (L.getD j default) (k + 1) (decide ((s.facts.getD k default).dst ∈ (L.getD j default).now (s.facts.getD k default).src)) A := by
      cases hd : decide ((s.facts.getD k default).dst ∈ (L.getD j default).now (s.facts.getD k default).src) with
      | true => rw [hd, Bool.true_and] at hA; exact .inl ⟨rfl, hA⟩
      | false => rw [hd, Bool.false_and] at hA; exact .inr ⟨rfl, hA.symm⟩
     clear hA sA1 hsm1 hfm hsrc
     generalize decide ((s.facts.getD k default).dst ∈ (L.getD j default).now (s.facts.getD k default).src) = b at *
     repeat' (first | (refine Qr rfl ?_; try intro _ hK; try simp only [go_sem, *]) | (refine Qi rfl rfl rfl rfl ?_ ?_ <;> (intro hb; (try intro _ hK); have hc := hb; try simp only [go_sem] at hc; simp only [go_sem, *])) | refine Qh rfl ?_ | refine Qd rfl (by kernel_rfl) ?_ | (refine Qc rfl rfl ?_ ?_ <;> (intro hb; have hc := hb; try simp only [go_sem] at hc)) | refine q6 rfl ?_ | (refine Qb ?_ ?_; focus kernel_rfl) | ((first | refine y4 (sA2) ?_ | refine y4 (sI) ?_); simp only [go_sem, *]) | ((with_reducible apply And.intro); focus omega) | (refine z8 hK ?_; clear hK; simp only [go_sem, *]) | simp only [z6, z7, go_sem, *])
     all_goals try contradiction
     exact w6 (i' := k + 1) [some 0, some 1] [] (b) (by exact hFa)
    ·have hFa : FaR s (L.getD j default) (k + 1) false A := .inr ⟨rfl, hA⟩
     clear hA sA1 hsm1 hsrc
     repeat' (first | (refine Qr rfl ?_; try intro _ hK; try simp only [go_sem, *]) | (refine Qi rfl rfl rfl rfl ?_ ?_ <;> (intro hb; (try intro _ hK); have hc := hb; try simp only [go_sem] at hc; simp only [go_sem, *])) | refine Qh rfl ?_ | refine Qd rfl (by kernel_rfl) ?_ | (refine Qc rfl rfl ?_ ?_ <;> (intro hb; have hc := hb; try simp only [go_sem] at hc)) | refine q6 rfl ?_ | (refine Qb ?_ ?_; focus kernel_rfl) | ((with_reducible apply And.intro); focus omega) | (refine z8 hK ?_; clear hK; simp only [go_sem, *]) | simp only [z6, z7, go_sem, *])
     all_goals try contradiction
     exact w6 (i' := k + 1) [some 0, some 1] [] (false) (by exact hFa)
   ·have hk3 : ¬ (k : Int) < s.facts.length := by omega
    have hbA : b = A := by
     rcases hS with ⟨rfl, hA⟩ | ⟨rfl, hA⟩
     ·rw [← hA, u7 (by omega)]; rfl
     ·exact hA.symm
    subst hbA
    clear hS sA1 hsm1 hsrc
    cases b with
    | true =>
     rw [if_pos rfl] at hQ
     repeat' (first | (refine Qr rfl ?_; try intro _ hK; try simp only [go_sem, *]) | (refine Qi rfl rfl rfl rfl ?_ ?_ <;> (intro hb; (try intro _ hK); have hc := hb; try simp only [go_sem] at hc; simp only [go_sem, *])) | refine Qh rfl ?_ | refine Qd rfl (by kernel_rfl) ?_ | (refine Qc rfl rfl ?_ ?_ <;> (intro hb; have hc := hb; try simp only [go_sem] at hc)) | refine q6 rfl ?_ | (with_reducible (show (∀ _ : AV, _ → _) ∧ _); refine And.intro ?_ ?_; (focus (intro y hy; first | (obtain ⟨z, _, rfl⟩ := List.mem_map.1 (hy); simp [go_sem]; done) | (obtain ⟨z, _, rfl⟩ := List.mem_map.1 (List.mem_of_mem_take hy); simp [go_sem]; done) | (obtain ⟨z, _, rfl⟩ := List.mem_map.1 (List.mem_of_mem_drop hy); simp [go_sem]; done) | (obtain ⟨z, _, rfl⟩ := List.mem_map.1 (List.mem_of_mem_drop (List.mem_of_mem_take hy)); simp [go_sem]; done)))) | (refine Qb ?_ ?_; focus kernel_rfl) | ((with_reducible apply And.intro); focus omega) | (refine z8 hK ?_; clear hK; simp only [go_sem, *]) | simp only [z6, z7, go_sem, *])
     all_goals try contradiction
     exact w6 (i' := j + 1) [some 0, some 3] [] (acc ++ [L.getD j default]) (by rw [← hQ]; simp)
    | false =>
     rw [if_neg (by decide)] at hQ
     repeat' (first | (refine Qr rfl ?_; try intro _ hK; try simp only [go_sem, *]) | (refine Qi rfl rfl rfl rfl ?_ ?_ <;> (intro hb; (try intro _ hK); have hc := hb; try simp only [go_sem] at hc; simp only [go_sem, *])) | refine Qh rfl ?_ | refine Qd rfl (by kernel_rfl) ?_ | (refine Qc rfl rfl ?_ ?_ <;> (intro hb; have hc := hb; try simp only [go_sem] at hc)) | refine q6 rfl ?_ | (refine Qb ?_ ?_; focus kernel_rfl) | ((with_reducible apply And.intro); focus omega) | (refine z8 hK ?_; clear hK; simp only [go_sem, *]) | simp only [z6, z7, go_sem, *])
     all_goals try contradiction
     exact w6 (i' := j + 1) [some 0, some 1] [] (acc) (by exact hQ)
  ·have hj3 : ¬ (j : Int) < L.length := by omega
   rw [u7 (by omega), List.filter_nil, List.append_nil] at hQ
   subst hQ
   clear sA hsm hsrc
   repeat' (first | (refine Qr rfl ?_; try intro _ hK; try simp only [go_sem, *]) | (refine Qi rfl rfl rfl rfl ?_ ?_ <;> (intro hb; (try intro _ hK); have hc := hb; try simp only [go_sem] at hc; simp only [go_sem, *])) | refine Qh rfl ?_ | refine Qd rfl (by kernel_rfl) ?_ | (refine Qc rfl rfl ?_ ?_ <;> (intro hb; have hc := hb; try simp only [go_sem] at hc)) | refine q6 rfl ?_ | (refine Qb ?_ ?_; focus kernel_rfl) | ((with_reducible apply And.intro); focus omega) | (refine z8 hK ?_; clear hK; simp only [go_sem, *]) | simp only [z6, z7, go_sem, *])
   all_goals try contradiction
   refine ⟨[.own 1 3 0 acc.length], [], [1], ⟨rfl, trivial⟩, ?_⟩
   simp only [go_sem, *]
end Go.Abs

namespace Go.Abs
open Go Go.Proofs Tryz
attribute [local irreducible] y6 Hold x8
def zOe : List Truth → List zLo → List zLo
 | [], acc => acc
 | t :: r, acc => zOe r (if t.fin ∈ acc then acc else acc ++ [t.fin])
def zRc (s : Story) : List zLo := if r9 s = 0 then zOe (r5 s) [] else []
def zRl (s : Story) : List (List Int) := if r9 s = 0 then C4 s else []
end Go.Abs

namespace Go.Abs
open Go Go.Proofs Tryz
attribute [local irreducible] y6 Hold x8
@[reducible] def zR6 (p : zLo) (t : Truth) : AObj := .box [.list (t.ways.map iV), .list (t.fin.map y7), .fmap (w5 p) (w4 p t.now)]
def zR3 : List zLo → zLo → Nat → Int
 | [], _, _ => -1
 | x :: r, q, i => if x = q then i else zR3 r q (i + 1)
theorem zO7 (s : Story) (h1 : s.first.length ≤ 4294967296) (h2 : ∀ l, l ∈ s.first → l.length ≤ 4294967296) (h3 : ∀ w, w ∈ s.steps → w.length ≤ 4294967296) (h4 : s.steps.length ≤ 4294967296) (h5 : s.facts.length ≤ 4294967296) : zLp prog 57 [s.enc, s.enc] [] (bV true) [] := by
 have sE := zHO s.first s.first h1 h2
 rw [decide_eq_true rfl] at sE
 have n1 : ((s.steps.length : Int) != (s.steps.length : Int)) = false := by simp
 have n2 : ((s.facts.length : Int) != (s.facts.length : Int)) = false := by simp
 refine q8 func57 rfl (fun E hE => ?_); simp only [go_sem, ntmps57]
 repeat' (first | (refine Qr rfl ?_; try intro _ hK; try simp only [go_sem, *]) | (refine Qi rfl rfl rfl rfl ?_ ?_ <;> (intro hb; (try intro _ hK); have hc := hb; try simp only [go_sem] at hc; simp only [go_sem, *])) | refine Qh rfl ?_ | refine Qd rfl (by kernel_rfl) ?_ | (refine Qc rfl rfl ?_ ?_ <;> (intro hb; have hc := hb; try simp only [go_sem] at hc)) | refine q6 rfl ?_ | (refine Qb ?_ ?_; focus kernel_rfl) | (refine y4 (sE) ?_; simp only [go_sem, *]) | ((with_reducible apply And.intro); focus omega) | (refine z8 hK ?_; clear hK; simp only [go_sem, *]) | simp only [z6, z7, go_sem, *])
 all_goals try contradiction
 clear sE
 refine u3 rfl (s.steps.length) (fun i => NoP i) 70 (fun i => [(5, iV i), (3, .ptr 1 0), (2, .ptr 0 0)]) (fun i => [zNG s, zNG s]) [some 0, some 1] [] (by trivial) ?_; intro i hi hP
 by_cases hi : i < s.steps.length
 ·have hi3 : (i : Int) < s.steps.length := by omega
  have sC := zHK (s.steps.getD i default) (s.steps.getD i default) (h3 _ (w8 hi))
  rw [decide_eq_true rfl] at sC
  repeat' (first | (refine Qr rfl ?_; try intro _ hK; try simp only [go_sem, *]) | (refine Qi rfl rfl rfl rfl ?_ ?_ <;> (intro hb; (try intro _ hK); have hc := hb; try simp only [go_sem] at hc; simp only [go_sem, *])) | refine Qh rfl ?_ | refine Qd rfl (by kernel_rfl) ?_ | (refine Qc rfl rfl ?_ ?_ <;> (intro hb; have hc := hb; try simp only [go_sem] at hc)) | refine q6 rfl ?_ | (refine Qb ?_ ?_; focus kernel_rfl) | (refine y4 (sC) ?_; simp only [go_sem, *]) | ((with_reducible apply And.intro); focus omega) | (refine z8 hK ?_; clear hK; simp only [go_sem, *]) | simp only [z6, z7, go_sem, *])
  all_goals try contradiction
  exact u2 (i' := i + 1) [some 0, some 1] [] (by trivial)
 ·have hi3 : ¬ (i : Int) < s.steps.length := by omega
  repeat' (first | (refine Qr rfl ?_; try intro _ hK; try simp only [go_sem, *]) | (refine Qi rfl rfl rfl rfl ?_ ?_ <;> (intro hb; (try intro _ hK); have hc := hb; try simp only [go_sem] at hc; simp only [go_sem, *])) | refine Qh rfl ?_ | refine Qd rfl (by kernel_rfl) ?_ | (refine Qc rfl rfl ?_ ?_ <;> (intro hb; have hc := hb; try simp only [go_sem] at hc)) | refine q6 rfl ?_ | (refine Qb ?_ ?_; focus kernel_rfl) | ((with_reducible apply And.intro); focus omega) | (refine z8 hK ?_; clear hK; simp only [go_sem, *]) | simp only [z6, z7, go_sem, *])
  all_goals try contradiction
  refine u3 rfl (s.facts.length) (fun k => NoP k) 70 (fun k => [(6, iV k), (3, .ptr 1 0), (2, .ptr 0 0)]) (fun k => [zNG s, zNG s]) [some 0, some 1] [] (by trivial) ?_; intro k hk hQ
  by_cases hk : k < s.facts.length
  ·have hk3 : (k : Int) < s.facts.length := by omega
   repeat' (first | (refine Qr rfl ?_; try intro _ hK; try simp only [go_sem, *]) | (refine Qi rfl rfl rfl rfl ?_ ?_ <;> (intro hb; (try intro _ hK); have hc := hb; try simp only [go_sem] at hc; simp only [go_sem, *])) | refine Qh rfl ?_ | refine Qd rfl (by kernel_rfl) ?_ | (refine Qc rfl rfl ?_ ?_ <;> (intro hb; have hc := hb; try simp only [go_sem] at hc)) | refine q6 rfl ?_ | (refine Qb ?_ ?_; focus kernel_rfl) | ((with_reducible apply And.intro); focus omega) | (refine z8 hK ?_; clear hK; simp only [go_sem, *]) | simp only [z6, z7, go_sem, *])
   all_goals try contradiction
   exact u2 (i' := k + 1) [some 0, some 1] [] (by trivial)
  ·have hk3 : ¬ (k : Int) < s.facts.length := by omega
   repeat' (first | (refine Qr rfl ?_; try intro _ hK; try simp only [go_sem, *]) | (refine Qi rfl rfl rfl rfl ?_ ?_ <;> (intro hb; (try intro _ hK); have hc := hb; try simp only [go_sem] at hc; simp only [go_sem, *])) | refine Qh rfl ?_ | refine Qd rfl (by kernel_rfl) ?_ | (refine Qc rfl rfl ?_ ?_ <;> (intro hb; have hc := hb; try simp only [go_sem] at hc)) | refine q6 rfl ?_ | (refine Qb ?_ ?_; focus kernel_rfl) | ((with_reducible apply And.intro); focus omega) | (refine z8 hK ?_; clear hK; simp only [go_sem, *]) | simp only [z6, z7, go_sem, *])
   all_goals try contradiction
   (refine ⟨[_], [], [], ⟨rfl, trivial⟩, ?_⟩; simp only [go_sem, *])
end Go.Abs

namespace Go.Abs
open Go Go.Proofs Tryz
attribute [local irreducible] y6 Hold x8
theorem zO6 (s : Story) (h1 : s.first.length ≤ 1048576) (h2 : ∀ l, l ∈ s.first → l.length ≤ 1048576) (h3 : ∀ w, w ∈ s.steps → w.length ≤ 1048576) (h4 : s.steps.length ≤ 1048576) (h5 : s.facts.length ≤ 1048576) : zLp prog 52 [s.enc] [] s.enc [] := by
 have sU := zQc s.first h1 h2
 refine q8 func52 rfl (fun E hE => ?_); simp only [go_sem, ntmps52]
 repeat' (first | (refine Qr rfl ?_; try intro _ hK; try simp only [go_sem, *]) | refine Qh rfl ?_ | refine Qd rfl (by kernel_rfl) ?_ | (refine Qc rfl rfl ?_ ?_ <;> (intro hb; have hc := hb; try simp only [go_sem] at hc)) | refine q6 rfl ?_ | (with_reducible (show (∀ _ : AV, _ → _) ∧ _); refine And.intro ?_ ?_; (focus (intro y hy; first | (obtain ⟨z, _, rfl⟩ := List.mem_map.1 (hy); simp [go_sem]; done) | (obtain ⟨z, _, rfl⟩ := List.mem_map.1 (List.mem_of_mem_take hy); simp [go_sem]; done) | (obtain ⟨z, _, rfl⟩ := List.mem_map.1 (List.mem_of_mem_drop hy); simp [go_sem]; done) | (obtain ⟨z, _, rfl⟩ := List.mem_map.1 (List.mem_of_mem_drop (List.mem_of_mem_take hy)); simp [go_sem]; done)))) | (refine Qb ?_ ?_; focus kernel_rfl) | (refine y4 (sU) ?_; simp only [go_sem, *]) | ((with_reducible apply And.intro); focus omega) | (refine z8 hK ?_; clear hK; simp only [go_sem, *]) | simp only [z6, z7, go_sem, *])
 all_goals try contradiction
 clear sU
 refine u3 rfl (s.steps.length) (fun i => NoP i) 35 (fun i => [(4, iV i), (3, .ptr 2 0), (2, .ptr 1 0), (1, .ptr 0 0)]) (fun i => [zNG s, .box [zLz, zLz, zLz], .box [.list (s.first.map y7), .own 3 1 0 i, .list (s.facts.map Fact.enc)], .row 1 ((s.steps.take i).map i9)]) [some 0, some 1, some 4, none] [3] (by trivial) ?_; intro i hi hP
 by_cases hi : i < s.steps.length
 ·have hi3 : (i : Int) < s.steps.length := by omega
  have hw := h3 _ (w8 hi)
  have e := Z8 (l := s.steps) (i := i) hi
  repeat' (first | (refine Qr rfl ?_; try intro _ hK; try simp only [go_sem, *]) | refine Qh rfl ?_ | refine Qd rfl (by kernel_rfl) ?_ | (refine Qc rfl rfl ?_ ?_ <;> (intro hb; have hc := hb; try simp only [go_sem] at hc)) | refine q6 rfl ?_ | (with_reducible (show (∀ _ : AV, _ → _) ∧ _); refine And.intro ?_ ?_; (focus (intro y hy; first | (obtain ⟨z, _, rfl⟩ := List.mem_map.1 (hy); simp [go_sem]; done) | (obtain ⟨z, _, rfl⟩ := List.mem_map.1 (List.mem_of_mem_take hy); simp [go_sem]; done) | (obtain ⟨z, _, rfl⟩ := List.mem_map.1 (List.mem_of_mem_drop hy); simp [go_sem]; done) | (obtain ⟨z, _, rfl⟩ := List.mem_map.1 (List.mem_of_mem_drop (List.mem_of_mem_take hy)); simp [go_sem]; done)))) | (refine Qb ?_ ?_; focus kernel_rfl) | ((with_reducible apply And.intro); focus omega) | (refine z8 hK ?_; clear hK; simp only [go_sem, *]) | simp only [z6, z7, go_sem, *])
  all_goals try contradiction
  exact u2 (i' := i + 1) [some 0, some 1, some 2, some 7] [] (by trivial)
 ·have hi3 : ¬ (i : Int) < s.steps.length := by omega
  have e : s.steps.take i = s.steps := List.take_of_length_le (by omega)
  repeat' (first | (refine Qr rfl ?_; try intro _ hK; try simp only [go_sem, *]) | refine Qh rfl ?_ | refine Qd rfl (by kernel_rfl) ?_ | (refine Qc rfl rfl ?_ ?_ <;> (intro hb; have hc := hb; try simp only [go_sem] at hc)) | refine q6 rfl ?_ | (refine Qb ?_ ?_; focus kernel_rfl) | ((with_reducible apply And.intro); focus omega) | (refine z8 hK ?_; clear hK; simp only [go_sem, *]) | simp only [z6, z7, go_sem, *])
  all_goals try contradiction
  refine ⟨[.agg [.list (s.first.map y7), .own 3 1 0 i, .list (s.facts.map Fact.enc)]], [], [3], ⟨by simp only [u1, go_sem], trivial⟩, ?_⟩
  simp only [go_sem, *]
  exact (List.take_of_length_le (by simp; omega)).symm
def zNM (s : Story) : Bool := zNR s.first || (decide (20 < s.steps.length) || (decide (20 < s.facts.length) || s.steps.any fun w => decide (20 < w.length)))
theorem zPI (s : Story) (h1 : s.first.length ≤ 4294967296) (b : Bool) (hb : zNM s = b) : zLp prog 51 [s.enc] [] (bV b) [] := by
 have sW := zQ3 s.first h1 (zNR s.first) rfl
 unfold zNM at hb
 cases hw : zNR s.first with
 | true =>
  rw [hw] at sW hb
  rw [Bool.true_or] at hb
  subst hb
  refine q8 func51 rfl (fun E hE => ?_); simp only [go_sem, ntmps51]
  repeat' (first | (refine Qr rfl ?_; try intro _ hK; try simp only [go_sem, *]) | (refine Qi rfl rfl rfl rfl ?_ ?_ <;> (intro hb; (try intro _ hK); have hc := hb; try simp only [go_sem] at hc; simp only [go_sem, *])) | refine Qh rfl ?_ | (refine Qc rfl rfl ?_ ?_ <;> (intro hb; have hc := hb; try simp only [go_sem] at hc)) | refine q6 rfl ?_ | (refine y4 (sW) ?_; simp only [go_sem, *]) | ((with_reducible apply And.intro); focus omega) | (refine z8 hK ?_; clear hK; simp only [go_sem, *]) | simp only [z6, z7, go_sem, *])
  all_goals try contradiction
  (refine ⟨[_], [], [], ⟨rfl, trivial⟩, ?_⟩; simp only [go_sem, *])
 | false =>
  rw [hw] at sW hb
  rw [Bool.false_or] at hb
  by_cases q1 : 20 < s.steps.length
  ·have q1' : (s.steps.length : Int) > 20 := by omega
   rw [decide_eq_true q1, Bool.true_or] at hb
   subst hb
   refine q8 func51 rfl (fun E hE => ?_); simp only [go_sem, ntmps51]
   repeat' (first | (refine Qr rfl ?_; try intro _ hK; try simp only [go_sem, *]) | (refine Qi rfl rfl rfl rfl ?_ ?_ <;> (intro hb; (try intro _ hK); have hc := hb; try simp only [go_sem] at hc; simp only [go_sem, *])) | refine Qh rfl ?_ | (refine Qc rfl rfl ?_ ?_ <;> (intro hb; have hc := hb; try simp only [go_sem] at hc)) | refine q6 rfl ?_ | (refine y4 (sW) ?_; simp only [go_sem, *]) | ((with_reducible apply And.intro); focus omega) | (refine z8 hK ?_; clear hK; simp only [go_sem, *]) | simp only [z6, z7, go_sem, *])
   all_goals try contradiction
   (refine ⟨[_], [], [], ⟨rfl, trivial⟩, ?_⟩; simp only [go_sem, *])
  ·have q1' : ¬ (s.steps.length : Int) > 20 := by omega
   rw [decide_eq_false q1, Bool.false_or] at hb
   by_cases q2 : 20 < s.facts.length
   ·have q2' : (s.facts.length : Int) > 20 := by omega
    rw [decide_eq_true q2, Bool.true_or] at hb
    subst hb
    refine q8 func51 rfl (fun E hE => ?_); simp only [go_sem, ntmps51]
    repeat' (first | (refine Qr rfl ?_; try intro _ hK; try simp only [go_sem, *]) | (refine Qi rfl rfl rfl rfl ?_ ?_ <;> (intro hb; (try intro _ hK); have hc := hb; try simp only [go_sem] at hc; simp only [go_sem, *])) | refine Qh rfl ?_ | (refine Qc rfl rfl ?_ ?_ <;> (intro hb; have hc := hb; try simp only [go_sem] at hc)) | refine q6 rfl ?_ | (refine y4 (sW) ?_; simp only [go_sem, *]) | ((with_reducible apply And.intro); focus omega) | (refine z8 hK ?_; clear hK; simp only [go_sem, *]) | simp only [z6, z7, go_sem, *])
    all_goals try contradiction
    (refine ⟨[_], [], [], ⟨rfl, trivial⟩, ?_⟩; simp only [go_sem, *])
   ·have q2' : ¬ (s.facts.length : Int) > 20 := by omega
    rw [decide_eq_false q2, Bool.false_or] at hb
    have h0 : ((s.steps.drop 0).any fun w => decide (20 < w.length)) = b := hb
    clear hb q1 q2 hw
    refine q8 func51 rfl (fun E hE => ?_); simp only [go_sem, ntmps51]
    repeat' (first | (refine Qr rfl ?_; try intro _ hK; try simp only [go_sem, *]) | (refine Qi rfl rfl rfl rfl ?_ ?_ <;> (intro hb; (try intro _ hK); have hc := hb; try simp only [go_sem] at hc; simp only [go_sem, *])) | refine Qh rfl ?_ | (refine Qc rfl rfl ?_ ?_ <;> (intro hb; have hc := hb; try simp only [go_sem] at hc)) | refine q6 rfl ?_ | (refine y4 (sW) ?_; simp only [go_sem, *]) | ((with_reducible apply And.intro); focus omega) | (refine z8 hK ?_; clear hK; simp only [go_sem, *]) | simp only [z6, z7, go_sem, *])
    all_goals try contradiction
    refine u3 rfl (s.steps.length) (fun i => ((s.steps.drop i).any fun w => decide (20 < w.length)) = b) 34 (fun i => [(3, iV i), (1, .ptr 0 0)]) (fun i => [zNG s]) [some 0] [] (by exact h0) ?_; intro i hi hP
    clear h0
    by_cases hi : i < s.steps.length
    ·have hi3 : (i : Int) < s.steps.length := by omega
     rw [u0 hi, List.any_cons] at hP
     by_cases q : 20 < (s.steps.getD i default).length
     ·have q' : ((s.steps.getD i default).length : Int) > 20 := by omega
      rw [decide_eq_true q, Bool.true_or] at hP
      subst hP
      clear q
      repeat' (first | (refine Qr rfl ?_; try intro _ hK; try simp only [go_sem, *]) | (refine Qi rfl rfl rfl rfl ?_ ?_ <;> (intro hb; (try intro _ hK); have hc := hb; try simp only [go_sem] at hc; simp only [go_sem, *])) | refine Qh rfl ?_ | (refine Qc rfl rfl ?_ ?_ <;> (intro hb; have hc := hb; try simp only [go_sem] at hc)) | refine q6 rfl ?_ | ((with_reducible apply And.intro); focus omega) | (refine z8 hK ?_; clear hK; simp only [go_sem, *]) | simp only [z6, z7, go_sem, *])
      all_goals try contradiction
      (refine ⟨[_], [], [], ⟨rfl, trivial⟩, ?_⟩; simp only [go_sem, *])
     ·have q' : ¬ ((s.steps.getD i default).length : Int) > 20 := by omega
      rw [decide_eq_false q, Bool.false_or] at hP
      clear q
      repeat' (first | (refine Qr rfl ?_; try intro _ hK; try simp only [go_sem, *]) | (refine Qi rfl rfl rfl rfl ?_ ?_ <;> (intro hb; (try intro _ hK); have hc := hb; try simp only [go_sem] at hc; simp only [go_sem, *])) | refine Qh rfl ?_ | (refine Qc rfl rfl ?_ ?_ <;> (intro hb; have hc := hb; try simp only [go_sem] at hc)) | refine q6 rfl ?_ | ((with_reducible apply And.intro); focus omega) | (refine z8 hK ?_; clear hK; simp only [go_sem, *]) | simp only [z6, z7, go_sem, *])
      all_goals try contradiction
      exact u2 (i' := i + 1) [some 0] [] (by exact hP)
    ·have hi3 : ¬ (i : Int) < s.steps.length := by omega
     rw [u7 (by omega), List.any_nil] at hP
     subst hP
     repeat' (first | (refine Qr rfl ?_; try intro _ hK; try simp only [go_sem, *]) | (refine Qi rfl rfl rfl rfl ?_ ?_ <;> (intro hb; (try intro _ hK); have hc := hb; try simp only [go_sem] at hc; simp only [go_sem, *])) | refine Qh rfl ?_ | (refine Qc rfl rfl ?_ ?_ <;> (intro hb; have hc := hb; try simp only [go_sem] at hc)) | refine q6 rfl ?_ | ((with_reducible apply And.intro); focus omega) | (refine z8 hK ?_; clear hK; simp only [go_sem, *]) | simp only [z6, z7, go_sem, *])
     all_goals try contradiction
     (refine ⟨[_], [], [], ⟨rfl, trivial⟩, ?_⟩; simp only [go_sem, *])
theorem zOM {s : Story} (o : Told s) : Bound 1048576 s := by
 have v := o.first
 have hp : PlanB 1048576 s.first := ⟨by have := v.len; omega, fun l hl => by have := (v.rows l hl).len; omega, fun l hl x hx => by
  have := (o3 x).1 ((v.rows l hl).ok x hx)
  exact ⟨C5 (by omega) (by omega), C5 (by omega) (by omega)⟩⟩
 refine ⟨hp, by have := o.steps; omega, fun w hw => by have := (o.ways w hw).2.1; omega, by have := o.facts; omega, fun f hf => ?_⟩
 obtain ⟨h1, h2, h3⟩ := o.fact f hf
 have h4 := betw_iff.1 h2
 have h5 := v.len
 have h6 := (o3 _).1 h3
 exact ⟨v.wf _ h1, C5 (by omega) (by omega), C5 (by omega) (by omega), C5 (by omega) (by omega)⟩
end Go.Abs

namespace Go.Abs
open Go Go.Proofs Tryz
attribute [local irreducible] y6 Hold x8
theorem zOP {s : Story} (h : House) (o : Told s) (hh : h ∈ q9 s.first) : (P0 s h).length ≤ 216 := by
 have h1 := zNq (fun t : Truth => t.now h) 8 (r5 s) (fun t ht => ((zDU o.first) t ht).small o.steps hh)
 have h2 := H0 o.steps (fun w hw => (o.ways w hw).2.1)
 unfold P0
 omega
theorem zN0 {s : Story} (h : House) (o : Told s) : (zNE s h).length ≤ 648 := by
 have h1 := zNq (fun t : Truth => (q9 s.first).filter fun x => decide (h ∈ t.now x)) 24 (r5 s) (fun t ht => by
  have := List.length_filter_le (fun x => decide (h ∈ t.now x)) (q9 s.first)
  have := o.first.count
  omega)
 have h2 := H0 o.steps (fun w hw => (o.ways w hw).2.1)
 unfold zNE
 omega
theorem zOE (s : Story) (h : House) (hst : s.steps.length ≤ 4294967296) (hwl : ∀ w, w ∈ s.steps → w.length ≤ 4294967296) (hfl : s.facts.length ≤ 4294967296) (hpl : s.first.length ≤ 4294967296) :
  zLp prog 58 [s.enc, h.enc] [] (.tup [.list ((zNP s h).map House.enc), iV (M6 s h)]) [] := by
 unfold zNP
 by_cases he : M6 s h = 0
 ·obtain ⟨hs, hh, hne⟩ := zOQ he
  have o := C2 hs
  have hl := H0 o.steps (fun w hw => (o.ways w hw).2.1)
  have ht := zDU o.first
  have sa := zAr s hs
  have sc := zAo (q9 s.first) h (by have := o.first.count; omega)
  have e0 : decide (h ∈ q9 s.first) = true := by simpa using hh
  rw [e0] at sc
  have hWl := zOP h o hh
  have ss := zPL (P0 s h) (by omega)
  have hw := o.first.wf
  have hwf := hw _ hh
  have h3 := o.steps
  have hsm : ∀ t, t ∈ r5 s → (t.now h).length ≤ 8 := fun t hm => (ht t hm).small h3 hh
  rw [if_pos he, he]
  unfold zA0
  have hwl : ([] : List House) ++ ((r5 s).drop 0).flatMap (fun t => t.now h) = P0 s h := rfl
  generalize P0 s h = W at *
  generalize r5 s = l at *
  have hl0 : ((l.length : Int) == 0) = false := by
   have : 0 < l.length := List.length_pos_iff.2 hne
   simp; omega
  clear he e0 ht hne hst hfl hpl
  refine q8 func58 rfl (fun E hE => ?_); simp only [go_sem, ntmps58]
  repeat' (first | (refine Qr rfl ?_; try intro _ hK; try simp only [go_sem, *]) | refine Qh rfl ?_ | refine Qd rfl (by kernel_rfl) ?_ | (refine Qc rfl rfl ?_ ?_ <;> (intro hb; have hc := hb; try simp only [go_sem] at hc)) | refine q6 rfl ?_ | (refine Qb ?_ ?_; focus kernel_rfl) | (refine s8 (sa) ?_; simp only [go_sem, *]) | (refine y4 (sc) ?_; simp only [go_sem, *]) | ((with_reducible apply And.intro); focus omega) | (refine z8 hK ?_; clear hK; simp only [go_sem, *]) | simp only [z6, z7, go_sem, *])
  all_goals try contradiction
  clear sa sc hl0
  refine u4 rfl (l.length) (fun i (acc : List House) => acc ++ (l.drop i).flatMap (fun t => t.now h) = W) 46 (fun i acc => [(33, iV i), (32, iV l.length), (31, .list (l.map (Truth.enc s.first))), (9, .own 1 3 0 acc.length), (3, .ptr 0 0)]) (fun i acc => [.box [iV h.street, iV h.plate.number, iV h.plate.letter], .row 3 (acc.map House.enc)]) [some 1, none] [] ([]) (by exact hwl) ?_; intro i acc hi hP
  clear hwl
  have hql := congrArg List.length hP
  simp only [List.length_append] at hql
  by_cases hi2 : i < l.length
  ·have hti := hsm _ (w8 hi2)
   rw [u0 hi2, List.flatMap_cons] at hP
   repeat' (first | (refine Qr rfl ?_; try intro _ hK; try simp only [go_sem, *]) | refine Qh rfl ?_ | refine Qd rfl (by kernel_rfl) ?_ | (refine Qc rfl rfl ?_ ?_ <;> (intro hb; have hc := hb; try simp only [go_sem] at hc)) | refine q6 rfl ?_ | (refine Qb ?_ ?_; focus kernel_rfl) | ((with_reducible apply And.intro); focus omega) | (refine z8 hK ?_; clear hK; simp only [go_sem, *]) | simp only [z6, z7, go_sem, *])
   refine V7 (h := h) (hs := q9 s.first) (F := zLs (l.getD i default).now) hw hwf ?_
   rw [if_pos hh, zLs]
   repeat' (first | (refine Qr rfl ?_; try intro _ hK; try simp only [go_sem, *]) | refine Qh rfl ?_ | refine Qd rfl (by kernel_rfl) ?_ | (refine Qc rfl rfl ?_ ?_ <;> (intro hb; have hc := hb; try simp only [go_sem] at hc)) | refine q6 rfl ?_ | (refine Qb ?_ ?_; focus kernel_rfl) | ((with_reducible apply And.intro); focus omega) | (refine z8 hK ?_; clear hK; simp only [go_sem, *]) | simp only [z6, z7, go_sem, *])
   refine ⟨fun y hy => ?_, fun y hy => ?_, by omega, ?_⟩
   ·obtain ⟨z, _, rfl⟩ := List.mem_map.1 hy
    simp [go_sem]
   ·obtain ⟨z, _, rfl⟩ := List.mem_map.1 hy
    simp [go_sem]
   ·repeat' (first | (refine Qr rfl ?_; try intro _ hK; try simp only [go_sem, *]) | refine Qh rfl ?_ | refine Qd rfl (by kernel_rfl) ?_ | (refine Qc rfl rfl ?_ ?_ <;> (intro hb; have hc := hb; try simp only [go_sem] at hc)) | refine q6 rfl ?_ | (refine Qb ?_ ?_; focus kernel_rfl) | ((with_reducible apply And.intro); focus omega) | (refine z8 hK ?_; clear hK; simp only [go_sem, *]) | simp only [z6, z7, go_sem, *])
    exact w6 (i' := i + 1) [some 0, some 3] [] (acc ++ (l.getD i default).now h) (by rw [← hP]; simp)
  ·rw [u7 (by omega), List.flatMap_nil, List.append_nil] at hP
   subst hP
   clear hql
   repeat' (first | (refine Qr rfl ?_; try intro _ hK; try simp only [go_sem, *]) | refine Qh rfl ?_ | refine Qd rfl (by kernel_rfl) ?_ | (refine Qc rfl rfl ?_ ?_ <;> (intro hb; have hc := hb; try simp only [go_sem] at hc)) | refine q6 rfl ?_ | (refine Qb ?_ ?_; focus kernel_rfl) | ((with_reducible apply And.intro); focus omega) | (refine z8 hK ?_; clear hK; simp only [go_sem, *]) | simp only [z6, z7, go_sem, *])
   (refine o7 (ss) (by simp only [go_sem, *]; done) rfl (by simp only [go_sem]; done) (by simp) (by simp) ?_; simp only [go_sem, v6, *])
   repeat' (first | (refine Qr rfl ?_; try intro _ hK; try simp only [go_sem, *]) | refine Qh rfl ?_ | refine Qd rfl (by kernel_rfl) ?_ | (refine Qc rfl rfl ?_ ?_ <;> (intro hb; have hc := hb; try simp only [go_sem] at hc)) | refine q6 rfl ?_ | (refine Qb ?_ ?_; focus kernel_rfl) | ((with_reducible apply And.intro); focus omega) | (refine z8 hK ?_; clear hK; simp only [go_sem, *]) | simp only [z6, z7, go_sem, *])
   (refine ⟨[_, _], [], [], ⟨rfl, rfl, trivial⟩, ?_⟩; simp only [go_sem, *])
 ·rw [if_neg he]
  by_cases hs : r9 s = 0
  ·have o := C2 hs
   have sa := zAr s hs
   have sc := zAo (q9 s.first) h (by have := o.first.count; omega)
   unfold M6 at he ⊢
   rw [if_pos hs] at he ⊢
   by_cases hh : h ∈ q9 s.first
   ·rw [if_pos hh] at he ⊢
    by_cases ht : r5 s = []
    ·rw [if_pos ht]
     rw [ht] at sa
     rw [decide_eq_true hh] at sc
     clear he hh ht hst hwl hfl hpl
     refine q8 func58 rfl (fun E hE => ?_); simp only [go_sem, ntmps58]
     repeat' (first | (refine Qr rfl ?_; try intro _ hK; try simp only [go_sem, *]) | refine Qh rfl ?_ | refine Qd rfl (by kernel_rfl) ?_ | (refine Qc rfl rfl ?_ ?_ <;> (intro hb; have hc := hb; try simp only [go_sem] at hc)) | refine q6 rfl ?_ | (refine Qb ?_ ?_; focus kernel_rfl) | (refine s8 (sa) ?_; simp only [go_sem, *]) | (refine y4 (sc) ?_; simp only [go_sem, *]) | ((with_reducible apply And.intro); focus omega) | (refine z8 hK ?_; clear hK; simp only [go_sem, *]) | simp only [z6, z7, go_sem, *])
     all_goals try contradiction
     (refine ⟨[_, _], [], [], ⟨rfl, rfl, trivial⟩, ?_⟩; simp only [go_sem, *])
    ·rw [if_neg ht] at he; exact absurd rfl he
   ·rw [if_neg hh]
    rw [decide_eq_false hh] at sc
    clear he hh hst hwl hfl hpl
    refine q8 func58 rfl (fun E hE => ?_); simp only [go_sem, ntmps58]
    repeat' (first | (refine Qr rfl ?_; try intro _ hK; try simp only [go_sem, *]) | refine Qh rfl ?_ | refine Qd rfl (by kernel_rfl) ?_ | (refine Qc rfl rfl ?_ ?_ <;> (intro hb; have hc := hb; try simp only [go_sem] at hc)) | refine q6 rfl ?_ | (refine Qb ?_ ?_; focus kernel_rfl) | (refine s8 (sa) ?_; simp only [go_sem, *]) | (refine y4 (sc) ?_; simp only [go_sem, *]) | ((with_reducible apply And.intro); focus omega) | (refine z8 hK ?_; clear hK; simp only [go_sem, *]) | simp only [z6, z7, go_sem, *])
    all_goals try contradiction
    (refine ⟨[_, _], [], [], ⟨rfl, rfl, trivial⟩, ?_⟩; simp only [go_sem, *])
  ·have sa := zLW s hst hwl hfl hpl hs
   unfold M6
   rw [if_neg hs]
   have e2 : (r9 s != 0) = true := by simpa using hs
   clear hs he hst hwl hfl hpl
   generalize r9 s = k at *
   refine q8 func58 rfl (fun E hE => ?_); simp only [go_sem, ntmps58]
   repeat' (first | (refine Qr rfl ?_; try intro _ hK; try simp only [go_sem, *]) | refine Qh rfl ?_ | refine Qd rfl (by kernel_rfl) ?_ | (refine Qc rfl rfl ?_ ?_ <;> (intro hb; have hc := hb; try simp only [go_sem] at hc)) | refine q6 rfl ?_ | (refine Qb ?_ ?_; focus kernel_rfl) | (refine y4 (sa) ?_; simp only [go_sem, *]) | ((with_reducible apply And.intro); focus omega) | (refine z8 hK ?_; clear hK; simp only [go_sem, *]) | simp only [z6, z7, go_sem, *])
   all_goals try contradiction
   (refine ⟨[_, _], [], [], ⟨rfl, rfl, trivial⟩, ?_⟩; simp only [go_sem, *])
theorem zPC (s : Story) (h to : House) (hst : s.steps.length ≤ 4294967296) (hwl : ∀ w, w ∈ s.steps → w.length ≤ 4294967296) (hfl : s.facts.length ≤ 4294967296) (hpl : s.first.length ≤ 4294967296) :
  zLp prog 60 [s.enc, h.enc, to.enc] [] (.tup [iV (zNl s h to), iV (M6 s h)]) [] := by
 unfold zNl
 by_cases he : M6 s h = 0
 ·obtain ⟨hs, hh, hne⟩ := zOQ he
  have o := C2 hs
  have hl := H0 o.steps (fun w hw => (o.ways w hw).2.1)
  have sa := zAr s hs
  have sc := zAo (q9 s.first) h (by have := o.first.count; omega)
  rw [decide_eq_true hh] at sc
  have hw := o.first.wf
  have hwf := hw _ hh
  have h3 := o.steps
  have sC := fun (t : Truth) (ht : t ∈ r5 s) => zAo (t.now h) to (by have := ((zDU o.first) t ht).small h3 hh; omega)
  rw [if_pos he, he]
  have h0 : 0 + ((r5 s).drop 0).countP (fun t => decide (to ∈ t.now h)) = zNH s h to := by rw [Nat.zero_add]; rfl
  have hvl : zNH s h to ≤ (r5 s).length := List.countP_le_length
  generalize zNH s h to = V at *
  generalize r5 s = l at *
  have hlp : 0 < l.length := List.length_pos_iff.2 hne
  have hl0 : ((l.length : Int) == 0) = false := by simp; omega
  clear he hne hst hwl hfl hpl
  refine q8 func60 rfl (fun E hE => ?_); simp only [go_sem, ntmps60]
  repeat' (first | (refine Qr rfl ?_; try intro _ hK; try simp only [go_sem, *]) | refine Qh rfl ?_ | refine Qd rfl (by kernel_rfl) ?_ | (refine Qc rfl rfl ?_ ?_ <;> (intro hb; have hc := hb; try simp only [go_sem] at hc)) | refine q6 rfl ?_ | (refine Qb ?_ ?_; focus kernel_rfl) | (refine s8 (sa) ?_; simp only [go_sem, *]) | (refine y4 (sc) ?_; simp only [go_sem, *]) | ((with_reducible apply And.intro); focus omega) | (refine z8 hK ?_; clear hK; simp only [go_sem, *]) | simp only [z6, z7, go_sem, *])
  all_goals try contradiction
  clear sa sc hl0
  refine u4 rfl (l.length) (fun i (n : Nat) => n + (l.drop i).countP (fun t => decide (to ∈ t.now h)) = V) 55 (fun i n => [(35, iV i), (34, iV l.length), (33, .list (l.map (Truth.enc s.first))), (11, iV n), (9, .list (l.map (Truth.enc s.first))), (5, .ptr 1 0), (4, .ptr 0 0)]) (fun i n => [.box [iV h.street, iV h.plate.number, iV h.plate.letter], .box [iV to.street, iV to.plate.number, iV to.plate.letter]]) [some 1, some 2] [] (0) (by exact h0) ?_; intro i n hi hP
  clear h0
  by_cases hi : i < l.length
  ·have hi3 : (i : Int) < l.length := by omega
   rw [zEE hi] at hP
   have sC1 := sC _ (w8 hi)
   clear sC
   repeat' (first | (refine Qr rfl ?_; try intro _ hK; try simp only [go_sem, *]) | refine Qh rfl ?_ | refine Qd rfl (by kernel_rfl) ?_ | (refine Qc rfl rfl ?_ ?_ <;> (intro hb; have hc := hb; try simp only [go_sem] at hc)) | refine q6 rfl ?_ | (refine Qb ?_ ?_; focus kernel_rfl) | ((with_reducible apply And.intro); focus omega) | (refine z8 hK ?_; clear hK; simp only [go_sem, *]) | simp only [z6, z7, go_sem, *])
   refine V7 (h := h) (hs := q9 s.first) (F := zLs (l.getD i default).now) hw hwf ?_
   rw [if_pos hh, zLs]
   cases hd : decide (to ∈ (l.getD i default).now h) with
   | true =>
    rw [hd] at sC1 hP
    clear hd
    repeat' (first | (refine Qr rfl ?_; try intro _ hK; try simp only [go_sem, *]) | refine Qh rfl ?_ | refine Qd rfl (by kernel_rfl) ?_ | (refine Qc rfl rfl ?_ ?_ <;> (intro hb; have hc := hb; try simp only [go_sem] at hc)) | refine q6 rfl ?_ | (refine Qb ?_ ?_; focus kernel_rfl) | (refine y4 (sC1) ?_; simp only [go_sem, *]) | ((with_reducible apply And.intro); focus omega) | (refine z8 hK ?_; clear hK; simp only [go_sem, *]) | simp only [z6, z7, go_sem, *])
    all_goals try contradiction
    exact w6 (i' := i + 1) [some 0, some 1] [] (n + 1) (by rw [← hP]; simp; omega)
   | false =>
    rw [hd] at sC1 hP
    clear hd
    repeat' (first | (refine Qr rfl ?_; try intro _ hK; try simp only [go_sem, *]) | refine Qh rfl ?_ | refine Qd rfl (by kernel_rfl) ?_ | (refine Qc rfl rfl ?_ ?_ <;> (intro hb; have hc := hb; try simp only [go_sem] at hc)) | refine q6 rfl ?_ | (refine Qb ?_ ?_; focus kernel_rfl) | (refine y4 (sC1) ?_; simp only [go_sem, *]) | ((with_reducible apply And.intro); focus omega) | (refine z8 hK ?_; clear hK; simp only [go_sem, *]) | simp only [z6, z7, go_sem, *])
    all_goals try contradiction
    exact w6 (i' := i + 1) [some 0, some 1] [] (n) (by rw [← hP]; simp)
  ·have hi3 : ¬ (i : Int) < l.length := by omega
   rw [u7 (by omega)] at hP
   have hn : n = V := by simpa using hP
   subst hn
   clear sC hP
   unfold zNk
   by_cases c : n = 0
   ·have c1 : ((n : Int) == 0) = true := by simpa using c
    rw [if_pos c]
    clear c
    repeat' (first | (refine Qr rfl ?_; try intro _ hK; try simp only [go_sem, *]) | refine Qh rfl ?_ | refine Qd rfl (by kernel_rfl) ?_ | (refine Qc rfl rfl ?_ ?_ <;> (intro hb; have hc := hb; try simp only [go_sem] at hc)) | refine q6 rfl ?_ | (refine Qb ?_ ?_; focus kernel_rfl) | ((with_reducible apply And.intro); focus omega) | (refine z8 hK ?_; clear hK; simp only [go_sem, *]) | simp only [z6, z7, go_sem, *])
    all_goals try contradiction
    (refine ⟨[_, _], [], [], ⟨rfl, rfl, trivial⟩, ?_⟩; simp only [go_sem, *])
   ·have c1 : ((n : Int) == 0) = false := by rw [beq_eq_false_iff_ne]; omega
    rw [if_neg c]
    by_cases d : n = l.length
    ·have d1 : ((n : Int) == (l.length : Int)) = true := by rw [beq_iff_eq]; omega
     rw [if_pos d]
     clear c d
     repeat' (first | (refine Qr rfl ?_; try intro _ hK; try simp only [go_sem, *]) | refine Qh rfl ?_ | refine Qd rfl (by kernel_rfl) ?_ | (refine Qc rfl rfl ?_ ?_ <;> (intro hb; have hc := hb; try simp only [go_sem] at hc)) | refine q6 rfl ?_ | (refine Qb ?_ ?_; focus kernel_rfl) | ((with_reducible apply And.intro); focus omega) | (refine z8 hK ?_; clear hK; simp only [go_sem, *]) | simp only [z6, z7, go_sem, *])
     all_goals try contradiction
     (refine ⟨[_, _], [], [], ⟨rfl, rfl, trivial⟩, ?_⟩; simp only [go_sem, *])
    ·have d1 : ((n : Int) == (l.length : Int)) = false := by rw [beq_eq_false_iff_ne]; omega
     rw [if_neg d]
     clear c d
     repeat' (first | (refine Qr rfl ?_; try intro _ hK; try simp only [go_sem, *]) | refine Qh rfl ?_ | refine Qd rfl (by kernel_rfl) ?_ | (refine Qc rfl rfl ?_ ?_ <;> (intro hb; have hc := hb; try simp only [go_sem] at hc)) | refine q6 rfl ?_ | (refine Qb ?_ ?_; focus kernel_rfl) | ((with_reducible apply And.intro); focus omega) | (refine z8 hK ?_; clear hK; simp only [go_sem, *]) | simp only [z6, z7, go_sem, *])
     all_goals try contradiction
     (refine ⟨[_, _], [], [], ⟨rfl, rfl, trivial⟩, ?_⟩; simp only [go_sem, *])
 ·rw [if_neg he]
  by_cases hs : r9 s = 0
  ·have o := C2 hs
   have sa := zAr s hs
   have sc := zAo (q9 s.first) h (by have := o.first.count; omega)
   unfold M6 at he ⊢
   rw [if_pos hs] at he ⊢
   by_cases hh : h ∈ q9 s.first
   ·rw [if_pos hh] at he ⊢
    by_cases ht : r5 s = []
    ·rw [if_pos ht]
     rw [ht] at sa
     rw [decide_eq_true hh] at sc
     clear he hh ht hst hwl hfl hpl
     refine q8 func60 rfl (fun E hE => ?_); simp only [go_sem, ntmps60]
     repeat' (first | (refine Qr rfl ?_; try intro _ hK; try simp only [go_sem, *]) | refine Qh rfl ?_ | refine Qd rfl (by kernel_rfl) ?_ | (refine Qc rfl rfl ?_ ?_ <;> (intro hb; have hc := hb; try simp only [go_sem] at hc)) | refine q6 rfl ?_ | (refine Qb ?_ ?_; focus kernel_rfl) | (refine s8 (sa) ?_; simp only [go_sem, *]) | (refine y4 (sc) ?_; simp only [go_sem, *]) | ((with_reducible apply And.intro); focus omega) | (refine z8 hK ?_; clear hK; simp only [go_sem, *]) | simp only [z6, z7, go_sem, *])
     all_goals try contradiction
     (refine ⟨[_, _], [], [], ⟨rfl, rfl, trivial⟩, ?_⟩; simp only [go_sem, *])
    ·rw [if_neg ht] at he; exact absurd rfl he
   ·rw [if_neg hh]
    rw [decide_eq_false hh] at sc
    clear he hh hst hwl hfl hpl
    refine q8 func60 rfl (fun E hE => ?_); simp only [go_sem, ntmps60]
    repeat' (first | (refine Qr rfl ?_; try intro _ hK; try simp only [go_sem, *]) | refine Qh rfl ?_ | refine Qd rfl (by kernel_rfl) ?_ | (refine Qc rfl rfl ?_ ?_ <;> (intro hb; have hc := hb; try simp only [go_sem] at hc)) | refine q6 rfl ?_ | (refine Qb ?_ ?_; focus kernel_rfl) | (refine s8 (sa) ?_; simp only [go_sem, *]) | (refine y4 (sc) ?_; simp only [go_sem, *]) | ((with_reducible apply And.intro); focus omega) | (refine z8 hK ?_; clear hK; simp only [go_sem, *]) | simp only [z6, z7, go_sem, *])
    all_goals try contradiction
    (refine ⟨[_, _], [], [], ⟨rfl, rfl, trivial⟩, ?_⟩; simp only [go_sem, *])
  ·have sa := zLW s hst hwl hfl hpl hs
   unfold M6
   rw [if_neg hs]
   have e2 : (r9 s != 0) = true := by simpa using hs
   clear hs he hst hwl hfl hpl
   generalize r9 s = k at *
   refine q8 func60 rfl (fun E hE => ?_); simp only [go_sem, ntmps60]
   repeat' (first | (refine Qr rfl ?_; try intro _ hK; try simp only [go_sem, *]) | refine Qh rfl ?_ | refine Qd rfl (by kernel_rfl) ?_ | (refine Qc rfl rfl ?_ ?_ <;> (intro hb; have hc := hb; try simp only [go_sem] at hc)) | refine q6 rfl ?_ | (refine Qb ?_ ?_; focus kernel_rfl) | (refine y4 (sa) ?_; simp only [go_sem, *]) | ((with_reducible apply And.intro); focus omega) | (refine z8 hK ?_; clear hK; simp only [go_sem, *]) | simp only [z6, z7, go_sem, *])
   all_goals try contradiction
   (refine ⟨[_, _], [], [], ⟨rfl, rfl, trivial⟩, ?_⟩; simp only [go_sem, *])
theorem zOD (s : Story) (h : House) (hst : s.steps.length ≤ 4294967296) (hwl : ∀ w, w ∈ s.steps → w.length ≤ 4294967296) (hfl : s.facts.length ≤ 4294967296) (hpl : s.first.length ≤ 4294967296) :
  zLp prog 62 [s.enc, h.enc] [] (.tup [.list ((zNO s h).map House.enc), iV (zNZ s h)]) [] := by
 unfold zNO zNZ
 by_cases hs : r9 s = 0
 ·have o := C2 hs
  have v := o.first
  have hct := v.count
  have sa := zAr s hs
  rw [if_pos hs, if_pos hs]
  by_cases hne : r5 s = []
  ·rw [if_pos hne, if_pos hne]
   rw [hne] at sa
   clear hst hwl hfl hpl
   refine q8 func62 rfl (fun E hE => ?_); simp only [go_sem, ntmps62]
   repeat' (first | (refine Qr rfl ?_; try intro _ hK; try simp only [go_sem, *]) | refine Qh rfl ?_ | refine Qd rfl (by kernel_rfl) ?_ | (refine Qc rfl rfl ?_ ?_ <;> (intro hb; have hc := hb; try simp only [go_sem] at hc)) | refine q6 rfl ?_ | (refine Qb ?_ ?_; focus kernel_rfl) | (refine s8 (sa) ?_; simp only [go_sem, *]) | ((with_reducible apply And.intro); focus omega) | (refine z8 hK ?_; clear hK; simp only [go_sem, *]) | simp only [z6, z7, go_sem, *])
   all_goals try contradiction
   (refine ⟨[_, _], [], [], ⟨rfl, rfl, trivial⟩, ?_⟩; simp only [go_sem, *])
  rw [if_neg hne, if_neg hne]
  have hl := H0 o.steps (fun w hw => (o.ways w hw).2.1)
  have hw := v.wf
  have h3 := o.steps
  have sC := fun (t : Truth) (ht : t ∈ r5 s) x (hx : x ∈ q9 s.first) => zAo (t.now x) h (by have := ((zDU v) t ht).small h3 hx; omega)
  have hWl := zN0 h o
  have ss := zPL (zNE s h) (by omega)
  have h0 : ([] : List House) ++ ((r5 s).drop 0).flatMap (fun t => (q9 s.first).filter fun x => decide (h ∈ t.now x)) = zNE s h := rfl
  generalize zNE s h = W at *
  generalize r5 s = l at *
  have hlp : 0 < l.length := List.length_pos_iff.2 hne
  have hl0 : ((l.length : Int) == 0) = false := by simp; omega
  clear hne hst hwl hfl hpl
  refine q8 func62 rfl (fun E hE => ?_); simp only [go_sem, ntmps62]
  repeat' (first | (refine Qr rfl ?_; try intro _ hK; try simp only [go_sem, *]) | refine Qh rfl ?_ | refine Qd rfl (by kernel_rfl) ?_ | (refine Qc rfl rfl ?_ ?_ <;> (intro hb; have hc := hb; try simp only [go_sem] at hc)) | refine q6 rfl ?_ | (refine Qb ?_ ?_; focus kernel_rfl) | (refine s8 (sa) ?_; simp only [go_sem, *]) | ((with_reducible apply And.intro); focus omega) | (refine z8 hK ?_; clear hK; simp only [go_sem, *]) | simp only [z6, z7, go_sem, *])
  all_goals try contradiction
  clear sa hl0
  refine u4 rfl (l.length) (fun i (acc : List House) => acc ++ (l.drop i).flatMap (fun t => (q9 s.first).filter fun x => decide (h ∈ t.now x)) = W) 58 (fun i acc => [(28, iV i), (27, iV l.length), (26, .list (l.map (Truth.enc s.first))), (9, .own 1 3 0 acc.length), (6, .ptr 2 0), (3, .ptr 0 0)]) (fun i acc => [.box [iV h.street, iV h.plate.number, iV h.plate.letter], .row 3 (acc.map House.enc), l0 s]) [some 1, none, some 2] [] ([]) (by exact h0) ?_; intro i acc hi hP
  clear h0
  by_cases hi : i < l.length
  ·have hi3 : (i : Int) < l.length := by omega
   have sC1 := sC _ (w8 hi)
   rw [u0 hi, List.flatMap_cons] at hP
   have h0 : acc ++ (((q9 s.first).drop 0).filter (fun x => decide (h ∈ (l.getD i default).now x)) ++ (l.drop (i + 1)).flatMap (fun t => (q9 s.first).filter fun x => decide (h ∈ t.now x))) = W := hP
   clear sC hP
   generalize hT : (l.drop (i + 1)).flatMap (fun t => (q9 s.first).filter fun x => decide (h ∈ t.now x)) = T at *
   have hql := congrArg List.length h0
   simp only [List.length_append] at hql
   have hal : acc.length ≤ 648 := by omega
   clear hql
   repeat' (first | (refine Qr rfl ?_; try intro _ hK; try simp only [go_sem, *]) | refine Qh rfl ?_ | refine Qd rfl (by kernel_rfl) ?_ | (refine Qc rfl rfl ?_ ?_ <;> (intro hb; have hc := hb; try simp only [go_sem] at hc)) | refine q6 rfl ?_ | (refine Qb ?_ ?_; focus kernel_rfl) | ((with_reducible apply And.intro); focus omega) | (refine z8 hK ?_; clear hK; simp only [go_sem, *]) | simp only [z6, z7, go_sem, *])
   all_goals try contradiction
   refine u4 rfl ((q9 s.first).length) (fun k (ac : List House) => ac ++ (((q9 s.first).drop k).filter (fun x => decide (h ∈ (l.getD i default).now x)) ++ T) = W) 58 (fun k ac => [(37, iV k), (36, iV (q9 s.first).length), (35, .list ((q9 s.first).map House.enc)), (11, .ptr 3 0), (28, iV i), (27, iV l.length), (26, .list (l.map (Truth.enc s.first))), (9, .own 1 3 0 ac.length), (6, .ptr 2 0), (3, .ptr 0 0)]) (fun k ac => [.box [iV h.street, iV h.plate.number, iV h.plate.letter], .row 3 (ac.map House.enc), l0 s, .box [.list ((l.getD i default).ways.map iV), .list ((l.getD i default).fin.map y7), .fmap (w5 s.first) (w4 s.first (l.getD i default).now)]]) [some 0, some 1, some 2, some 3] [] (acc) (by exact h0) ?_; intro k ac hk hQ
   clear h0 hal
   have hql := congrArg List.length hQ
   simp only [List.length_append] at hql
   have hal : ac.length ≤ 648 := by omega
   clear hql
   by_cases hk : k < (q9 s.first).length
   ·have hk3 : (k : Int) < (q9 s.first).length := by omega
    have hm := w8 hk
    have hwf := hw _ hm
    have sC2 := sC1 _ hm
    rw [u0 hk] at hQ
    clear sC1
    have hwf0 := hw
    clear hw
    repeat' (first | (refine Qr rfl ?_; try intro _ hK; try simp only [go_sem, *]) | refine Qh rfl ?_ | refine Qd rfl (by kernel_rfl) ?_ | (refine Qc rfl rfl ?_ ?_ <;> (intro hb; have hc := hb; try simp only [go_sem] at hc)) | refine q6 rfl ?_ | (refine Qb ?_ ?_; focus kernel_rfl) | ((with_reducible apply And.intro); focus omega) | (refine z8 hK ?_; clear hK; simp only [go_sem, *]) | simp only [z6, z7, go_sem, *])
    refine V7 (h := (q9 s.first).getD k default) (hs := q9 s.first) (F := zLs (l.getD i default).now) hwf0 hwf ?_
    rw [if_pos hm, zLs]
    cases hd : decide (h ∈ (l.getD i default).now ((q9 s.first).getD k default)) with
    | true =>
     rw [hd] at sC2
     rw [List.filter_cons_of_pos (by exact hd)] at hQ
     clear hd
     repeat' (first | (refine Qr rfl ?_; try intro _ hK; try simp only [go_sem, *]) | refine Qh rfl ?_ | refine Qd rfl (by kernel_rfl) ?_ | (refine Qc rfl rfl ?_ ?_ <;> (intro hb; have hc := hb; try simp only [go_sem] at hc)) | refine q6 rfl ?_ | (refine Qb ?_ ?_; focus kernel_rfl) | (refine y4 (sC2) ?_; simp only [go_sem, *]) | ((with_reducible apply And.intro); focus omega) | (refine z8 hK ?_; clear hK; simp only [go_sem, *]) | simp only [z6, z7, go_sem, *])
     all_goals try contradiction
     exact w6 (i' := k + 1) [some 0, some 6, some 2, some 3] [] (ac ++ [(q9 s.first).getD k default]) (by rw [← hQ]; simp)
    | false =>
     rw [hd] at sC2
     rw [List.filter_cons_of_neg (by rw [hd]; simp)] at hQ
     clear hd
     repeat' (first | (refine Qr rfl ?_; try intro _ hK; try simp only [go_sem, *]) | refine Qh rfl ?_ | refine Qd rfl (by kernel_rfl) ?_ | (refine Qc rfl rfl ?_ ?_ <;> (intro hb; have hc := hb; try simp only [go_sem] at hc)) | refine q6 rfl ?_ | (refine Qb ?_ ?_; focus kernel_rfl) | (refine y4 (sC2) ?_; simp only [go_sem, *]) | ((with_reducible apply And.intro); focus omega) | (refine z8 hK ?_; clear hK; simp only [go_sem, *]) | simp only [z6, z7, go_sem, *])
     all_goals try contradiction
     exact w6 (i' := k + 1) [some 0, some 1, some 2, some 3] [] (ac) (by exact hQ)
   ·have hk3 : ¬ (k : Int) < (q9 s.first).length := by omega
    rw [u7 (by omega), List.filter_nil, List.nil_append] at hQ
    clear sC1
    repeat' (first | (refine Qr rfl ?_; try intro _ hK; try simp only [go_sem, *]) | refine Qh rfl ?_ | refine Qd rfl (by kernel_rfl) ?_ | (refine Qc rfl rfl ?_ ?_ <;> (intro hb; have hc := hb; try simp only [go_sem] at hc)) | refine q6 rfl ?_ | (refine Qb ?_ ?_; focus kernel_rfl) | ((with_reducible apply And.intro); focus omega) | (refine z8 hK ?_; clear hK; simp only [go_sem, *]) | simp only [z6, z7, go_sem, *])
    all_goals try contradiction
    exact w6 (i' := i + 1) [some 0, some 1, some 2] [] (ac) (by rw [hT]; exact hQ)
  ·have hi3 : ¬ (i : Int) < l.length := by omega
   rw [u7 (by omega), List.flatMap_nil, List.append_nil] at hP
   subst hP
   clear sC
   by_cases hz : acc = []
   ·rw [if_pos hz]
    subst hz
    repeat' (first | (refine Qr rfl ?_; try intro _ hK; try simp only [go_sem, *]) | refine Qh rfl ?_ | refine Qd rfl (by kernel_rfl) ?_ | (refine Qc rfl rfl ?_ ?_ <;> (intro hb; have hc := hb; try simp only [go_sem] at hc)) | refine q6 rfl ?_ | (refine Qb ?_ ?_; focus kernel_rfl) | ((with_reducible apply And.intro); focus omega) | (refine z8 hK ?_; clear hK; simp only [go_sem, *]) | simp only [z6, z7, go_sem, *])
    all_goals try contradiction
    rw [zO4]
    (refine ⟨[_, _], [], [], ⟨rfl, rfl, trivial⟩, ?_⟩; simp only [go_sem, *])
   ·rw [if_neg hz]
    have hz1 : ((acc.length : Int) == 0) = false := by
     have := List.length_pos_iff.2 hz
     rw [beq_eq_false_iff_ne]; omega
    clear hz
    repeat' (first | (refine Qr rfl ?_; try intro _ hK; try simp only [go_sem, *]) | refine Qh rfl ?_ | refine Qd rfl (by kernel_rfl) ?_ | (refine Qc rfl rfl ?_ ?_ <;> (intro hb; have hc := hb; try simp only [go_sem] at hc)) | refine q6 rfl ?_ | (refine Qb ?_ ?_; focus kernel_rfl) | ((with_reducible apply And.intro); focus omega) | (refine z8 hK ?_; clear hK; simp only [go_sem, *]) | simp only [z6, z7, go_sem, *])
    all_goals try contradiction
    (refine o7 (ss) (by simp only [go_sem, *]; done) rfl (by simp only [go_sem]; done) (by simp) (by simp) ?_; simp only [go_sem, v6, *])
    repeat' (first | (refine Qr rfl ?_; try intro _ hK; try simp only [go_sem, *]) | refine Qh rfl ?_ | refine Qd rfl (by kernel_rfl) ?_ | (refine Qc rfl rfl ?_ ?_ <;> (intro hb; have hc := hb; try simp only [go_sem] at hc)) | refine q6 rfl ?_ | (refine Qb ?_ ?_; focus kernel_rfl) | ((with_reducible apply And.intro); focus omega) | (refine z8 hK ?_; clear hK; simp only [go_sem, *]) | simp only [z6, z7, go_sem, *])
    (refine ⟨[_, _], [], [], ⟨rfl, rfl, trivial⟩, ?_⟩; simp only [go_sem, *])
 ·have sa := zLW s hst hwl hfl hpl hs
  rw [if_neg hs, if_neg hs]
  have e2 : (r9 s != 0) = true := by simpa using hs
  clear hs hst hwl hfl hpl
  generalize r9 s = k at *
  refine q8 func62 rfl (fun E hE => ?_); simp only [go_sem, ntmps62]
  repeat' (first | (refine Qr rfl ?_; try intro _ hK; try simp only [go_sem, *]) | refine Qh rfl ?_ | refine Qd rfl (by kernel_rfl) ?_ | (refine Qc rfl rfl ?_ ?_ <;> (intro hb; have hc := hb; try simp only [go_sem] at hc)) | refine q6 rfl ?_ | (refine Qb ?_ ?_; focus kernel_rfl) | (refine y4 (sa) ?_; simp only [go_sem, *]) | ((with_reducible apply And.intro); focus omega) | (refine z8 hK ?_; clear hK; simp only [go_sem, *]) | simp only [z6, z7, go_sem, *])
  all_goals try contradiction
  (refine ⟨[_, _], [], [], ⟨rfl, rfl, trivial⟩, ?_⟩; simp only [go_sem, *])
end Go.Abs

