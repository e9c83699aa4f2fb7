/-
  WHAT THE PROOF STANDS ON, PART 13: contracts of the program's functions. No condition.
-/
import Derived.Test.YtcbpjojhfgadlaaGreatDoorQZJZL8
import Derived.Test.YtcbpjojhfgadlaaGreatDoorQZJZL9
import Derived.Test.YtcbpjojhfgadlaaGreatDoorQZJZL10
import Derived.Test.YtcbpjojhfgadlaaGreatDoorQZJZL11
import Derived.Test.YtcbpjojhfgadlaaGreatDoorQZJZL12
set_option maxRecDepth 100000
set_option maxHeartbeats 16000000
set_option linter.unusedVariables false
set_option linter.unusedSimpArgs false
set_option linter.unusedSectionVars false
namespace Go.Abs
open Go Go.Proofs Go.RowKit
theorem sp_rnext (st cn : Nat) (h : st ≤ 7) : zNV Tryz.prog 53 [iV (refSt st), .raw (.int .u8 (cn : Int))] [] (iV (refSt (zNd st cn))) [] := by
 have h8 : st = 0 ∨ st = 1 ∨ st = 2 ∨ st = 3 ∨ st = 4 ∨ st = 5 ∨ st = 6 ∨ st = 7 := by omega
 rcases h8 with rfl | rfl | rfl | rfl | rfl | rfl | rfl | rfl
 ·exact rnext0 cn
 ·exact rnext1 cn
 ·exact rnext2 cn
 ·exact rnext3 cn
 ·exact rnext4 cn
 ·exact rnext5 cn
 ·exact rnext6 cn
 ·exact rnext7 cn
end Go.Abs

namespace Go.Abs
open Go Go.Proofs Go.RowKit
attribute [local irreducible] q8 Hold y4
set_option maxRecDepth 10000
set_option maxHeartbeats 8000000

def rrObjs (st : Nat) (q : zNU) (l : List Plate) (x : Plate) : List AObj := match st with
 | 0 => [zNp, zNp, .box [iV x.number, iV x.letter]]
 | 6 => [zNp, .box [.own 3 1 0 q.length], .box [iV x.number, iV x.letter], .box (q.map q9)]
 | 7 => [zNp, .box [.own 3 1 0 q.length], .box [iV x.number, iV x.letter], .box (q.map q9)]
 | _ => [zNp, .box [.own 3 1 0 (q.length + 1)], .box [iV x.number, iV x.letter], .box (q.map q9 ++ [.own 4 2 0 l.length]), .row 2 (l.map Plate.enc)]
section
variable (q : zNU) (l : List Plate) (x : Plate)
@[go_sem] theorem rr0 : rrObjs 0 q l x = [zNp, zNp, .box [iV x.number, iV x.letter]] := rfl
@[go_sem] theorem rr1 : rrObjs 1 q l x = [zNp, .box [.own 3 1 0 (q.length + 1)], .box [iV x.number, iV x.letter], .box (q.map q9 ++ [.own 4 2 0 l.length]), .row 2 (l.map Plate.enc)] := rfl
@[go_sem] theorem rr2 : rrObjs 2 q l x = [zNp, .box [.own 3 1 0 (q.length + 1)], .box [iV x.number, iV x.letter], .box (q.map q9 ++ [.own 4 2 0 l.length]), .row 2 (l.map Plate.enc)] := rfl
@[go_sem] theorem rr3 : rrObjs 3 q l x = [zNp, .box [.own 3 1 0 (q.length + 1)], .box [iV x.number, iV x.letter], .box (q.map q9 ++ [.own 4 2 0 l.length]), .row 2 (l.map Plate.enc)] := rfl
@[go_sem] theorem rr4 : rrObjs 4 q l x = [zNp, .box [.own 3 1 0 (q.length + 1)], .box [iV x.number, iV x.letter], .box (q.map q9 ++ [.own 4 2 0 l.length]), .row 2 (l.map Plate.enc)] := rfl
@[go_sem] theorem rr5 : rrObjs 5 q l x = [zNp, .box [.own 3 1 0 (q.length + 1)], .box [iV x.number, iV x.letter], .box (q.map q9 ++ [.own 4 2 0 l.length]), .row 2 (l.map Plate.enc)] := rfl
@[go_sem] theorem rr6 : rrObjs 6 q l x = [zNp, .box [.own 3 1 0 q.length], .box [iV x.number, iV x.letter], .box (q.map q9)] := rfl
@[go_sem] theorem rr7 : rrObjs 7 q l x = [zNp, .box [.own 3 1 0 q.length], .box [iV x.number, iV x.letter], .box (q.map q9)] := rfl
end
@[go_sem] theorem refSt0 : refSt 0 = 0 := rfl
@[go_sem] theorem refSt1 : refSt 1 = 1 := rfl
@[go_sem] theorem refSt2 : refSt 2 = 5 := rfl
@[go_sem] theorem refSt3 : refSt 3 = 2 := rfl
@[go_sem] theorem refSt4 : refSt 4 = 3 := rfl
@[go_sem] theorem refSt5 : refSt 5 = 4 := rfl
@[go_sem] theorem refSt6 : refSt 6 = 6 := rfl
@[go_sem] theorem refSt7 : refSt 7 = 7 := rfl

theorem rr_next {st k : Nat} {q : zNU} {l : List Plate} {x : Plate} {i : Nat} {c : UInt8} {r : Str} {R : zNU ⊕ Nat} {q' : zNU} {l' : List Plate} {x' : Plate} (hP : parseRS st (rdP st q l, x) i (c :: r) = R) (hn : zNd st c.toNat = k) (h8 : k ≠ 8)
  (e : stepRS st k c (rdP st q l, x) = (rdP k q' l', x')) : parseRS k (rdP k q' l', x') (i + 1) r = R := by
 have hn2 : v2 st c = k := by rw [G7]; exact hn
 rw [parseRS, if_neg (by rw [hn2]; exact h8), hn2, e] at hP
 exact hP
theorem rr_bad {st : Nat} {a : zNU × Plate} {i : Nat} {c : UInt8} {r : Str} {R : zNU ⊕ Nat} (hP : parseRS st a i (c :: r) = R) (hn : zNd st c.toNat = 8) : R = .inr i := by
 have hn2 : v2 st c = 8 := by rw [G7]; exact hn
 rw [parseRS, if_pos hn2] at hP
 exact hP.symm
@[reducible] def ansV (n : Nat) : zNU ⊕ Nat → AV
 | .inl p => .tup [y3 (if check p = 0 then p else []), iV 0, iV (check p)]
 | .inr i => .tup [y3 [], iV i, iV 2]
theorem sp_rRead (t : Str) (ht : t.length ≤ 4294967296) : zNV Tryz.prog 15 [sV t] [] (O5 t) [] := by
  by_cases q : 120 < t.length
  · have qi : (t.length : Int) > 120 := by omega
    unfold O5 F6 F5 T6
    rw [if_pos q, if_pos q, if_pos q]
    clear q
    refine z9 Tryz.func15 rfl (fun E hE => ?_); simp only [go_sem, Tryz.ntmps15]
    repeat' (first | (refine Qr rfl ?_; try intro _ hK; try simp only [go_sem, *]) | refine Qh rfl ?_ | refine Qd rfl (by kernel_rfl) ?_ | (refine Qc rfl rfl ?_ ?_ <;> (intro hb; have hc := hb; try simp only [go_sem] at hc)) | refine z6 rfl ?_ | (refine Qb ?_ ?_; focus kernel_rfl) | ((with_reducible apply And.intro); focus omega) | (refine z5 hK ?_; clear hK; simp only [go_sem, *]) | simp only [z3, z4, go_sem, *])
    all_goals first | contradiction | omega | skip
    refine ⟨[?_, _, _], [], [], ⟨?_, rfl, rfl, trivial⟩, ?_⟩
    rotate_left 1
    focus (simp only [x7, go_sem]; exact rfl)
    simp only [List.map_nil, go_sem, *]
  have hR : O5 t = ansV t.length (parseRS 0 ([], ⟨0, 0⟩) 0 t) := by
    rw [parseR_S]
    unfold O5 F6 F5 T6
    rw [if_neg q, if_neg q, if_neg q]
    cases y9 0 [] 0 t <;> rfl
  have hck : ∀ p, parseRS 0 ([], ⟨0, 0⟩) 0 t = .inl p → p.length ≤ t.length := fun p hp => by
    rw [parseR_S] at hp
    exact zHc hp
  rw [hR]
  clear hR
  have qi : ¬ (t.length : Int) > 120 := by omega
  have ht : t.length ≤ 120 := by omega
  have h0 : parseRS 0 (rdP 0 [] [], ⟨0, 0⟩) 0 (t.drop 0) = parseRS 0 ([], ⟨0, 0⟩) 0 t := rfl
  generalize parseRS 0 ([], ⟨0, 0⟩) 0 t = R at *
  clear q
  refine z9 Tryz.func15 rfl (fun E hE => ?_); simp only [go_sem, Tryz.ntmps15]
  repeat' (first | (refine Qr rfl ?_; try intro _ hK; try simp only [go_sem, *]) | refine Qh rfl ?_ | refine Qd rfl (by kernel_rfl) ?_ | (refine Qc rfl rfl ?_ ?_ <;> (intro hb; have hc := hb; try simp only [go_sem] at hc)) | refine z6 rfl ?_ | (refine Qb ?_ ?_; focus kernel_rfl) | ((with_reducible apply And.intro); focus omega) | (refine z5 hK ?_; clear hK; simp only [go_sem, *]) | simp only [z3, z4, go_sem, *])
  all_goals try contradiction
  refine Z7 rfl (fun zn zN zenv zAs => ∃ (i : Nat) (st : Nat) (q : zNU) (l : List Plate) (x : Plate), zn = (t.length) - i ∧ i ≤ (t.length) ∧ (parseRS st (rdP st q l, x) i (t.drop i) = R ∧ (st = 0 → q = []) ∧ (st = 1 → l = []) ∧ (st = 3 → 0 ≤ x.number ∧ x.number ≤ 9) ∧ st ≤ 7 ∧ q.length ≤ i ∧ l.length ≤ i) ∧ zN = 102 ∧ zenv = [(8, iV i), (7, iV (refSt st)), (6, .ptr 2 0), (5, .ptr 1 0), (2, .ptr 0 0), (0, sV t)] ∧ zAs = rrObjs st q l x) (t.length) ⟨[some 0, some 1, some 2], [], _, _, _, (by (simp only [Weak, go_sem, List.map_append, List.map_set, *] <;> (try simp (disch := omega) only [y8]) <;> (try simp) <;> (try omega))), 0, 0, [], [], ⟨0, 0⟩, (by simp), (by simp), (by exact ⟨h0, fun _ => rfl, fun _ => rfl, fun h => by omega, by omega, by simp, by simp⟩), rfl, rfl, rfl⟩ ?_; rintro _ _ _ _ ⟨i, st, q, l, x, rfl, hi, hP, rfl, rfl, rfl⟩
  clear h0
  obtain ⟨hP, hq0, hl1, hx3, hs7, hq, hl⟩ := hP
  have hwi : IntKind.i64.wrap ((i : Int) + 1) = ((i + 1 : Nat) : Int) := y8 (by omega)
  have hq2 : IntKind.i64.wrap (((q.length + 1 : Nat) : Int) - 1) = (q.length : Int) := by rw [wrap_i64 (by omega) (by omega)]; omega
  by_cases hi2 : i < t.length
  · have hii : (i : Int) < (t.length : Int) := by omega
    rw [v3 hi2] at hP
    have hcd : t.getD i default = t.getD i 0 := rfl
    rw [hcd] at hP
    clear hcd hck
    generalize hc : t.getD i 0 = c at *
    generalize hcn : c.toNat = cn at *
    have h8 : st = 0 ∨ st = 1 ∨ st = 2 ∨ st = 3 ∨ st = 4 ∨ st = 5 ∨ st = 6 ∨ st = 7 := by omega
    rcases h8 with rfl | rfl | rfl | rfl | rfl | rfl | rfl | rfl
    · have hG0 := hq0 rfl
      subst hG0
      skip
      rcases (by omega : cn = 91 ∨ cn ≠ 91) with rfl | hx
      · have hn : zNd 0 91 = 1 := by decide
        have sn : zNV Tryz.prog 53 [iV 0, .raw (.int .u8 91)] [] (iV 1) [] := by have := sp_rnext 0 91 (by omega); rw [hn] at this; exact this
        replace hP := rr_next (k := 1) (q' := []) (l' := []) (x' := x) hP (by rw [hcn] <;> exact hn) (by decide) rfl
        clear hn
        repeat' (first | (refine Qr rfl ?_; try intro _ hK; try simp only [go_sem, *]) | refine Qh rfl ?_ | refine Qd rfl (by kernel_rfl) ?_ | (refine Qc rfl rfl ?_ ?_ <;> (intro hb; have hc := hb; try simp only [go_sem] at hc)) | refine z6 rfl ?_ | (refine Qb ?_ ?_; focus kernel_rfl) | (refine z8 (sn) ?_; simp only [go_sem, *]) | ((with_reducible apply And.intro); focus omega) | (refine z5 hK ?_; clear hK; simp only [go_sem, *]) | simp only [z3, z4, go_sem, *])
        all_goals first | contradiction | omega | skip
        refine ⟨_, (by omega), [some 0, some 1, some 2, some 4, none], [], _, _, _, (by (simp only [Weak, go_sem, List.map_append, List.map_set, *] <;> (try simp (disch := omega) only [y8]) <;> (try simp) <;> (try omega))), i + 1, 1, [], [], x, rfl, (by omega), (by exact ⟨hP, fun h => by omega, fun _ => rfl, fun h => by omega, by omega, by (try simp) <;> omega, by (try simp) <;> omega⟩), rfl, rfl, rfl⟩
      · have hn : zNd 0 cn = 8 := by unfold zNd; (repeat' split) <;> omega
        have sn : zNV Tryz.prog 53 [iV 0, .raw (.int .u8 (cn : Int))] [] (iV 8) [] := by have := sp_rnext 0 cn (by omega); rw [hn] at this; exact this
        have hR := rr_bad hP (by rw [hcn]; exact hn)
        subst hR
        simp only [ansV]
        clear hP hn
        repeat' (first | (refine Qr rfl ?_; try intro _ hK; try simp only [go_sem, *]) | refine Qh rfl ?_ | refine Qd rfl (by kernel_rfl) ?_ | (refine Qc rfl rfl ?_ ?_ <;> (intro hb; have hc := hb; try simp only [go_sem] at hc)) | refine z6 rfl ?_ | (refine Qb ?_ ?_; focus kernel_rfl) | (refine z8 (sn) ?_; simp only [go_sem, *]) | ((with_reducible apply And.intro); focus omega) | (refine z5 hK ?_; clear hK; simp only [go_sem, *]) | simp only [z3, z4, go_sem, *])
        all_goals first | contradiction | omega | skip
        refine ⟨[?_, _, _], [], [], ⟨?_, rfl, rfl, trivial⟩, ?_⟩; (rotate_left 1); (focus (simp only [x7, go_sem]; exact rfl)); simp only [List.map_nil, go_sem, *]; (try simp)
    · have hl0 := hl1 rfl
      subst hl0
      skip
      rcases (by omega : (49 ≤ cn ∧ cn ≤ 57) ∨ cn = 93 ∨ (cn < 49 ∨ 57 < cn) ∧ cn ≠ 93) with hx | rfl | hx
      · have wA : IntKind.u8.wrap ((cn : Int) - 48) = (cn : Int) - 48 := J8 (by omega) (by omega)
        have wB : IntKind.i64.wrap ((cn : Int) - 48) = (cn : Int) - 48 := wrap_i64 (by omega) (by omega)
        have hn : zNd 1 cn = 3 := by unfold zNd; (repeat' split) <;> omega
        have sn : zNV Tryz.prog 53 [iV 1, .raw (.int .u8 (cn : Int))] [] (iV 2) [] := by have := sp_rnext 1 cn (by omega); rw [hn] at this; exact this
        replace hP := rr_next (k := 3) (q' := q) (l' := []) (x' := ⟨(cn : Int) - 48, 0⟩) hP (by rw [hcn] <;> exact hn) (by decide) (by rw [← hcn]; rfl)
        clear hn
        repeat' (first | (refine Qr rfl ?_; try intro _ hK; try simp only [go_sem, *]) | refine Qh rfl ?_ | refine Qd rfl (by kernel_rfl) ?_ | (refine Qc rfl rfl ?_ ?_ <;> (intro hb; have hc := hb; try simp only [go_sem] at hc)) | refine z6 rfl ?_ | (refine Qb ?_ ?_; focus kernel_rfl) | (refine z8 (sn) ?_; simp only [go_sem, *]) | ((with_reducible apply And.intro); focus omega) | (refine z5 hK ?_; clear hK; simp only [go_sem, *]) | simp only [z3, z4, go_sem, *])
        all_goals first | contradiction | omega | skip
        refine ⟨_, (by omega), [some 0, some 1, some 2, some 3, some 4], [], _, _, _, (by (simp only [Weak, go_sem, List.map_append, List.map_set, *] <;> (try simp (disch := omega) only [y8]) <;> (try simp) <;> (try omega))), i + 1, 3, q, [], ⟨(cn : Int) - 48, 0⟩, rfl, (by omega), (by exact ⟨hP, fun h => by omega, fun h => by omega, fun _ => ⟨by (try dsimp only) <;> omega, by (try dsimp only) <;> omega⟩, by omega, by (try simp) <;> omega, by (try simp) <;> omega⟩), rfl, rfl, rfl⟩
      · have hn : zNd 1 93 = 6 := by decide
        have sn : zNV Tryz.prog 53 [iV 1, .raw (.int .u8 93)] [] (iV 6) [] := by have := sp_rnext 1 93 (by omega); rw [hn] at this; exact this
        replace hP := rr_next (k := 6) (q' := q ++ [[]]) (l' := []) (x' := x) hP (by rw [hcn] <;> exact hn) (by decide) rfl
        clear hn
        repeat' (first | (refine Qr rfl ?_; try intro _ hK; try simp only [go_sem, *]) | refine Qh rfl ?_ | refine Qd rfl (by kernel_rfl) ?_ | (refine Qc rfl rfl ?_ ?_ <;> (intro hb; have hc := hb; try simp only [go_sem] at hc)) | refine z6 rfl ?_ | (refine Qb ?_ ?_; focus kernel_rfl) | (refine z8 (sn) ?_; simp only [go_sem, *]) | ((with_reducible apply And.intro); focus omega) | (refine z5 hK ?_; clear hK; simp only [go_sem, *]) | simp only [z3, z4, go_sem, *])
        all_goals first | contradiction | omega | skip
        refine ⟨_, (by omega), [some 0, some 1, some 2, some 3], [4], _, _, _, (by (simp only [Weak, go_sem, List.map_append, List.map_set, *] <;> (try simp (disch := omega) only [y8]) <;> (try simp) <;> (try omega))), i + 1, 6, q ++ [[]], [], x, rfl, (by omega), (by exact ⟨hP, fun h => by omega, fun h => by omega, fun h => by omega, by omega, by (try simp) <;> omega, by (try simp) <;> omega⟩), rfl, rfl, rfl⟩
      · have hn : zNd 1 cn = 8 := by unfold zNd; (repeat' split) <;> omega
        have sn : zNV Tryz.prog 53 [iV 1, .raw (.int .u8 (cn : Int))] [] (iV 8) [] := by have := sp_rnext 1 cn (by omega); rw [hn] at this; exact this
        have hR := rr_bad hP (by rw [hcn]; exact hn)
        subst hR
        simp only [ansV]
        clear hP hn
        repeat' (first | (refine Qr rfl ?_; try intro _ hK; try simp only [go_sem, *]) | refine Qh rfl ?_ | refine Qd rfl (by kernel_rfl) ?_ | (refine Qc rfl rfl ?_ ?_ <;> (intro hb; have hc := hb; try simp only [go_sem] at hc)) | refine z6 rfl ?_ | (refine Qb ?_ ?_; focus kernel_rfl) | (refine z8 (sn) ?_; simp only [go_sem, *]) | ((with_reducible apply And.intro); focus omega) | (refine z5 hK ?_; clear hK; simp only [go_sem, *]) | simp only [z3, z4, go_sem, *])
        all_goals first | contradiction | omega | skip
        refine ⟨[?_, _, _], [], [], ⟨?_, rfl, rfl, trivial⟩, ?_⟩; (rotate_left 1); (focus (simp only [x7, go_sem]; exact rfl)); simp only [List.map_nil, go_sem, *]; (try simp)
    · skip
      rcases (by omega : (49 ≤ cn ∧ cn ≤ 57) ∨ (cn < 49 ∨ 57 < cn)) with hx | hx
      · have wA : IntKind.u8.wrap ((cn : Int) - 48) = (cn : Int) - 48 := J8 (by omega) (by omega)
        have wB : IntKind.i64.wrap ((cn : Int) - 48) = (cn : Int) - 48 := wrap_i64 (by omega) (by omega)
        have hn : zNd 2 cn = 3 := by unfold zNd; (repeat' split) <;> omega
        have sn : zNV Tryz.prog 53 [iV 5, .raw (.int .u8 (cn : Int))] [] (iV 2) [] := by have := sp_rnext 2 cn (by omega); rw [hn] at this; exact this
        replace hP := rr_next (k := 3) (q' := q) (l' := l) (x' := ⟨(cn : Int) - 48, 0⟩) hP (by rw [hcn] <;> exact hn) (by decide) (by rw [← hcn]; rfl)
        clear hn
        repeat' (first | (refine Qr rfl ?_; try intro _ hK; try simp only [go_sem, *]) | refine Qh rfl ?_ | refine Qd rfl (by kernel_rfl) ?_ | (refine Qc rfl rfl ?_ ?_ <;> (intro hb; have hc := hb; try simp only [go_sem] at hc)) | refine z6 rfl ?_ | (refine Qb ?_ ?_; focus kernel_rfl) | (refine z8 (sn) ?_; simp only [go_sem, *]) | ((with_reducible apply And.intro); focus omega) | (refine z5 hK ?_; clear hK; simp only [go_sem, *]) | simp only [z3, z4, go_sem, *])
        all_goals first | contradiction | omega | skip
        refine ⟨_, (by omega), [some 0, some 1, some 2, some 3, some 4], [], _, _, _, (by (simp only [Weak, go_sem, List.map_append, List.map_set, *] <;> (try simp (disch := omega) only [y8]) <;> (try simp) <;> (try omega))), i + 1, 3, q, l, ⟨(cn : Int) - 48, 0⟩, rfl, (by omega), (by exact ⟨hP, fun h => by omega, fun h => by omega, fun _ => ⟨by (try dsimp only) <;> omega, by (try dsimp only) <;> omega⟩, by omega, by (try simp) <;> omega, by (try simp) <;> omega⟩), rfl, rfl, rfl⟩
      · have hn : zNd 2 cn = 8 := by unfold zNd; (repeat' split) <;> omega
        have sn : zNV Tryz.prog 53 [iV 5, .raw (.int .u8 (cn : Int))] [] (iV 8) [] := by have := sp_rnext 2 cn (by omega); rw [hn] at this; exact this
        have hR := rr_bad hP (by rw [hcn]; exact hn)
        subst hR
        simp only [ansV]
        clear hP hn
        repeat' (first | (refine Qr rfl ?_; try intro _ hK; try simp only [go_sem, *]) | refine Qh rfl ?_ | refine Qd rfl (by kernel_rfl) ?_ | (refine Qc rfl rfl ?_ ?_ <;> (intro hb; have hc := hb; try simp only [go_sem] at hc)) | refine z6 rfl ?_ | (refine Qb ?_ ?_; focus kernel_rfl) | (refine z8 (sn) ?_; simp only [go_sem, *]) | ((with_reducible apply And.intro); focus omega) | (refine z5 hK ?_; clear hK; simp only [go_sem, *]) | simp only [z3, z4, go_sem, *])
        all_goals first | contradiction | omega | skip
        refine ⟨[?_, _, _], [], [], ⟨?_, rfl, rfl, trivial⟩, ?_⟩; (rotate_left 1); (focus (simp only [x7, go_sem]; exact rfl)); simp only [List.map_nil, go_sem, *]; (try simp)
    · obtain ⟨ln0l, n9⟩ := hx3 rfl
      skip
      rcases (by omega : (48 ≤ cn ∧ cn ≤ 57) ∨ (97 ≤ cn ∧ cn ≤ 100) ∨ cn = 32 ∨ cn = 93 ∨ (cn < 48 ∨ 57 < cn) ∧ (cn < 97 ∨ 100 < cn) ∧ cn ≠ 32 ∧ cn ≠ 93) with hx | hx | rfl | rfl | hx
      · have wA : IntKind.u8.wrap ((cn : Int) - 48) = (cn : Int) - 48 := J8 (by omega) (by omega)
        have wB : IntKind.i64.wrap ((cn : Int) - 48) = (cn : Int) - 48 := wrap_i64 (by omega) (by omega)
        have wC : IntKind.i64.wrap (10 * x.number) = 10 * x.number := wrap_i64 (by omega) (by omega)
        have wD : IntKind.i64.wrap (10 * x.number + ((cn : Int) - 48)) = 10 * x.number + ((cn : Int) - 48) := wrap_i64 (by omega) (by omega)
        have hn : zNd 3 cn = 4 := by unfold zNd; (repeat' split) <;> omega
        have sn : zNV Tryz.prog 53 [iV 2, .raw (.int .u8 (cn : Int))] [] (iV 3) [] := by have := sp_rnext 3 cn (by omega); rw [hn] at this; exact this
        replace hP := rr_next (k := 4) (q' := q) (l' := l) (x' := ⟨10 * x.number + ((cn : Int) - 48), x.letter⟩) hP (by rw [hcn] <;> exact hn) (by decide) (by rw [← hcn]; rfl)
        clear hn
        repeat' (first | (refine Qr rfl ?_; try intro _ hK; try simp only [go_sem, *]) | refine Qh rfl ?_ | refine Qd rfl (by kernel_rfl) ?_ | (refine Qc rfl rfl ?_ ?_ <;> (intro hb; have hc := hb; try simp only [go_sem] at hc)) | refine z6 rfl ?_ | (refine Qb ?_ ?_; focus kernel_rfl) | (refine z8 (sn) ?_; simp only [go_sem, *]) | ((with_reducible apply And.intro); focus omega) | (refine z5 hK ?_; clear hK; simp only [go_sem, *]) | simp only [z3, z4, go_sem, *])
        all_goals first | contradiction | omega | skip
        refine ⟨_, (by omega), [some 0, some 1, some 2, some 3, some 4], [], _, _, _, (by (simp only [Weak, go_sem, List.map_append, List.map_set, *] <;> (try simp (disch := omega) only [y8]) <;> (try simp) <;> (try omega))), i + 1, 4, q, l, ⟨10 * x.number + ((cn : Int) - 48), x.letter⟩, rfl, (by omega), (by exact ⟨hP, fun h => by omega, fun h => by omega, fun h => by omega, by omega, by (try simp) <;> omega, by (try simp) <;> omega⟩), rfl, rfl, rfl⟩
      · have wA : IntKind.u8.wrap ((cn : Int) - 97) = (cn : Int) - 97 := J8 (by omega) (by omega)
        have wB : IntKind.i64.wrap ((cn : Int) - 97) = (cn : Int) - 97 := wrap_i64 (by omega) (by omega)
        have wC : IntKind.i64.wrap ((cn : Int) - 97 + 1) = (cn : Int) - 97 + 1 := wrap_i64 (by omega) (by omega)
        have hn : zNd 3 cn = 5 := by unfold zNd; (repeat' split) <;> omega
        have sn : zNV Tryz.prog 53 [iV 2, .raw (.int .u8 (cn : Int))] [] (iV 4) [] := by have := sp_rnext 3 cn (by omega); rw [hn] at this; exact this
        replace hP := rr_next (k := 5) (q' := q) (l' := l) (x' := ⟨x.number, (cn : Int) - 97 + 1⟩) hP (by rw [hcn] <;> exact hn) (by decide) (by rw [← hcn]; rfl)
        clear hn
        repeat' (first | (refine Qr rfl ?_; try intro _ hK; try simp only [go_sem, *]) | refine Qh rfl ?_ | refine Qd rfl (by kernel_rfl) ?_ | (refine Qc rfl rfl ?_ ?_ <;> (intro hb; have hc := hb; try simp only [go_sem] at hc)) | refine z6 rfl ?_ | (refine Qb ?_ ?_; focus kernel_rfl) | (refine z8 (sn) ?_; simp only [go_sem, *]) | ((with_reducible apply And.intro); focus omega) | (refine z5 hK ?_; clear hK; simp only [go_sem, *]) | simp only [z3, z4, go_sem, *])
        all_goals first | contradiction | omega | skip
        refine ⟨_, (by omega), [some 0, some 1, some 2, some 3, some 4], [], _, _, _, (by (simp only [Weak, go_sem, List.map_append, List.map_set, *] <;> (try simp (disch := omega) only [y8]) <;> (try simp) <;> (try omega))), i + 1, 5, q, l, ⟨x.number, (cn : Int) - 97 + 1⟩, rfl, (by omega), (by exact ⟨hP, fun h => by omega, fun h => by omega, fun h => by omega, by omega, by (try simp) <;> omega, by (try simp) <;> omega⟩), rfl, rfl, rfl⟩
      · have hn : zNd 3 32 = 2 := by decide
        have sn : zNV Tryz.prog 53 [iV 2, .raw (.int .u8 32)] [] (iV 5) [] := by have := sp_rnext 3 32 (by omega); rw [hn] at this; exact this
        replace hP := rr_next (k := 2) (q' := q) (l' := l ++ [x]) (x' := x) hP (by rw [hcn] <;> exact hn) (by decide) (Prod.ext (d9 _ _ _) rfl)
        clear hn
        repeat' (first | (refine Qr rfl ?_; try intro _ hK; try simp only [go_sem, *]) | refine Qh rfl ?_ | refine Qd rfl (by kernel_rfl) ?_ | (refine Qc rfl rfl ?_ ?_ <;> (intro hb; have hc := hb; try simp only [go_sem] at hc)) | refine z6 rfl ?_ | (refine Qb ?_ ?_; focus kernel_rfl) | (refine z8 (sn) ?_; simp only [go_sem, *]) | ((with_reducible apply And.intro); focus omega) | (refine z5 hK ?_; clear hK; simp only [go_sem, *]) | simp only [z3, z4, go_sem, *])
        all_goals first | contradiction | omega | skip
        refine ⟨_, (by omega), [some 0, some 1, some 2, some 3, some 6], [], _, _, _, (by (simp only [Weak, go_sem, List.map_append, List.map_set, *] <;> (try simp (disch := omega) only [y8]) <;> (try simp) <;> (try omega))), i + 1, 2, q, l ++ [x], x, rfl, (by omega), (by exact ⟨hP, fun h => by omega, fun h => by omega, fun h => by omega, by omega, by (try simp) <;> omega, by (try simp) <;> omega⟩), rfl, rfl, rfl⟩
      · have hn : zNd 3 93 = 6 := by decide
        have sn : zNV Tryz.prog 53 [iV 2, .raw (.int .u8 93)] [] (iV 6) [] := by have := sp_rnext 3 93 (by omega); rw [hn] at this; exact this
        replace hP := rr_next (k := 6) (q' := q ++ [l ++ [x]]) (l' := []) (x' := x) hP (by rw [hcn] <;> exact hn) (by decide) (Prod.ext (d9 _ _ _) rfl)
        clear hn
        repeat' (first | (refine Qr rfl ?_; try intro _ hK; try simp only [go_sem, *]) | refine Qh rfl ?_ | refine Qd rfl (by kernel_rfl) ?_ | (refine Qc rfl rfl ?_ ?_ <;> (intro hb; have hc := hb; try simp only [go_sem] at hc)) | refine z6 rfl ?_ | (refine Qb ?_ ?_; focus kernel_rfl) | (refine z8 (sn) ?_; simp only [go_sem, *]) | ((with_reducible apply And.intro); focus omega) | (refine z5 hK ?_; clear hK; simp only [go_sem, *]) | simp only [z3, z4, go_sem, *])
        all_goals first | contradiction | omega | skip
        refine ⟨_, (by omega), [some 0, some 1, some 2, some 3], [6], _, _, _, (by (simp only [Weak, go_sem, List.map_append, List.map_set, *] <;> (try simp (disch := omega) only [y8]) <;> (try simp) <;> (try omega))), i + 1, 6, q ++ [l ++ [x]], [], x, rfl, (by omega), (by exact ⟨hP, fun h => by omega, fun h => by omega, fun h => by omega, by omega, by (try simp) <;> omega, by (try simp) <;> omega⟩), rfl, rfl, rfl⟩
      · have hn : zNd 3 cn = 8 := by unfold zNd; (repeat' split) <;> omega
        have sn : zNV Tryz.prog 53 [iV 2, .raw (.int .u8 (cn : Int))] [] (iV 8) [] := by have := sp_rnext 3 cn (by omega); rw [hn] at this; exact this
        have hR := rr_bad hP (by rw [hcn]; exact hn)
        subst hR
        simp only [ansV]
        clear hP hn
        repeat' (first | (refine Qr rfl ?_; try intro _ hK; try simp only [go_sem, *]) | refine Qh rfl ?_ | refine Qd rfl (by kernel_rfl) ?_ | (refine Qc rfl rfl ?_ ?_ <;> (intro hb; have hc := hb; try simp only [go_sem] at hc)) | refine z6 rfl ?_ | (refine Qb ?_ ?_; focus kernel_rfl) | (refine z8 (sn) ?_; simp only [go_sem, *]) | ((with_reducible apply And.intro); focus omega) | (refine z5 hK ?_; clear hK; simp only [go_sem, *]) | simp only [z3, z4, go_sem, *])
        all_goals first | contradiction | omega | skip
        refine ⟨[?_, _, _], [], [], ⟨?_, rfl, rfl, trivial⟩, ?_⟩; (rotate_left 1); (focus (simp only [x7, go_sem]; exact rfl)); simp only [List.map_nil, go_sem, *]; (try simp)
    · skip
      rcases (by omega : (97 ≤ cn ∧ cn ≤ 100) ∨ cn = 32 ∨ cn = 93 ∨ (cn < 97 ∨ 100 < cn) ∧ cn ≠ 32 ∧ cn ≠ 93) with hx | rfl | rfl | hx
      · have wA : IntKind.u8.wrap ((cn : Int) - 97) = (cn : Int) - 97 := J8 (by omega) (by omega)
        have wB : IntKind.i64.wrap ((cn : Int) - 97) = (cn : Int) - 97 := wrap_i64 (by omega) (by omega)
        have wC : IntKind.i64.wrap ((cn : Int) - 97 + 1) = (cn : Int) - 97 + 1 := wrap_i64 (by omega) (by omega)
        have hn : zNd 4 cn = 5 := by unfold zNd; (repeat' split) <;> omega
        have sn : zNV Tryz.prog 53 [iV 3, .raw (.int .u8 (cn : Int))] [] (iV 4) [] := by have := sp_rnext 4 cn (by omega); rw [hn] at this; exact this
        replace hP := rr_next (k := 5) (q' := q) (l' := l) (x' := ⟨x.number, (cn : Int) - 97 + 1⟩) hP (by rw [hcn] <;> exact hn) (by decide) (by rw [← hcn]; rfl)
        clear hn
        repeat' (first | (refine Qr rfl ?_; try intro _ hK; try simp only [go_sem, *]) | refine Qh rfl ?_ | refine Qd rfl (by kernel_rfl) ?_ | (refine Qc rfl rfl ?_ ?_ <;> (intro hb; have hc := hb; try simp only [go_sem] at hc)) | refine z6 rfl ?_ | (refine Qb ?_ ?_; focus kernel_rfl) | (refine z8 (sn) ?_; simp only [go_sem, *]) | ((with_reducible apply And.intro); focus omega) | (refine z5 hK ?_; clear hK; simp only [go_sem, *]) | simp only [z3, z4, go_sem, *])
        all_goals first | contradiction | omega | skip
        refine ⟨_, (by omega), [some 0, some 1, some 2, some 3, some 4], [], _, _, _, (by (simp only [Weak, go_sem, List.map_append, List.map_set, *] <;> (try simp (disch := omega) only [y8]) <;> (try simp) <;> (try omega))), i + 1, 5, q, l, ⟨x.number, (cn : Int) - 97 + 1⟩, rfl, (by omega), (by exact ⟨hP, fun h => by omega, fun h => by omega, fun h => by omega, by omega, by (try simp) <;> omega, by (try simp) <;> omega⟩), rfl, rfl, rfl⟩
      · have hn : zNd 4 32 = 2 := by decide
        have sn : zNV Tryz.prog 53 [iV 3, .raw (.int .u8 32)] [] (iV 5) [] := by have := sp_rnext 4 32 (by omega); rw [hn] at this; exact this
        replace hP := rr_next (k := 2) (q' := q) (l' := l ++ [x]) (x' := x) hP (by rw [hcn] <;> exact hn) (by decide) (Prod.ext (d9 _ _ _) rfl)
        clear hn
        repeat' (first | (refine Qr rfl ?_; try intro _ hK; try simp only [go_sem, *]) | refine Qh rfl ?_ | refine Qd rfl (by kernel_rfl) ?_ | (refine Qc rfl rfl ?_ ?_ <;> (intro hb; have hc := hb; try simp only [go_sem] at hc)) | refine z6 rfl ?_ | (refine Qb ?_ ?_; focus kernel_rfl) | (refine z8 (sn) ?_; simp only [go_sem, *]) | ((with_reducible apply And.intro); focus omega) | (refine z5 hK ?_; clear hK; simp only [go_sem, *]) | simp only [z3, z4, go_sem, *])
        all_goals first | contradiction | omega | skip
        refine ⟨_, (by omega), [some 0, some 1, some 2, some 3, some 6], [], _, _, _, (by (simp only [Weak, go_sem, List.map_append, List.map_set, *] <;> (try simp (disch := omega) only [y8]) <;> (try simp) <;> (try omega))), i + 1, 2, q, l ++ [x], x, rfl, (by omega), (by exact ⟨hP, fun h => by omega, fun h => by omega, fun h => by omega, by omega, by (try simp) <;> omega, by (try simp) <;> omega⟩), rfl, rfl, rfl⟩
      · have hn : zNd 4 93 = 6 := by decide
        have sn : zNV Tryz.prog 53 [iV 3, .raw (.int .u8 93)] [] (iV 6) [] := by have := sp_rnext 4 93 (by omega); rw [hn] at this; exact this
        replace hP := rr_next (k := 6) (q' := q ++ [l ++ [x]]) (l' := []) (x' := x) hP (by rw [hcn] <;> exact hn) (by decide) (Prod.ext (d9 _ _ _) rfl)
        clear hn
        repeat' (first | (refine Qr rfl ?_; try intro _ hK; try simp only [go_sem, *]) | refine Qh rfl ?_ | refine Qd rfl (by kernel_rfl) ?_ | (refine Qc rfl rfl ?_ ?_ <;> (intro hb; have hc := hb; try simp only [go_sem] at hc)) | refine z6 rfl ?_ | (refine Qb ?_ ?_; focus kernel_rfl) | (refine z8 (sn) ?_; simp only [go_sem, *]) | ((with_reducible apply And.intro); focus omega) | (refine z5 hK ?_; clear hK; simp only [go_sem, *]) | simp only [z3, z4, go_sem, *])
        all_goals first | contradiction | omega | skip
        refine ⟨_, (by omega), [some 0, some 1, some 2, some 3], [6], _, _, _, (by (simp only [Weak, go_sem, List.map_append, List.map_set, *] <;> (try simp (disch := omega) only [y8]) <;> (try simp) <;> (try omega))), i + 1, 6, q ++ [l ++ [x]], [], x, rfl, (by omega), (by exact ⟨hP, fun h => by omega, fun h => by omega, fun h => by omega, by omega, by (try simp) <;> omega, by (try simp) <;> omega⟩), rfl, rfl, rfl⟩
      · have hn : zNd 4 cn = 8 := by unfold zNd; (repeat' split) <;> omega
        have sn : zNV Tryz.prog 53 [iV 3, .raw (.int .u8 (cn : Int))] [] (iV 8) [] := by have := sp_rnext 4 cn (by omega); rw [hn] at this; exact this
        have hR := rr_bad hP (by rw [hcn]; exact hn)
        subst hR
        simp only [ansV]
        clear hP hn
        repeat' (first | (refine Qr rfl ?_; try intro _ hK; try simp only [go_sem, *]) | refine Qh rfl ?_ | refine Qd rfl (by kernel_rfl) ?_ | (refine Qc rfl rfl ?_ ?_ <;> (intro hb; have hc := hb; try simp only [go_sem] at hc)) | refine z6 rfl ?_ | (refine Qb ?_ ?_; focus kernel_rfl) | (refine z8 (sn) ?_; simp only [go_sem, *]) | ((with_reducible apply And.intro); focus omega) | (refine z5 hK ?_; clear hK; simp only [go_sem, *]) | simp only [z3, z4, go_sem, *])
        all_goals first | contradiction | omega | skip
        refine ⟨[?_, _, _], [], [], ⟨?_, rfl, rfl, trivial⟩, ?_⟩; (rotate_left 1); (focus (simp only [x7, go_sem]; exact rfl)); simp only [List.map_nil, go_sem, *]; (try simp)
    · skip
      rcases (by omega : cn = 32 ∨ cn = 93 ∨ cn ≠ 32 ∧ cn ≠ 93) with rfl | rfl | hx
      · have hn : zNd 5 32 = 2 := by decide
        have sn : zNV Tryz.prog 53 [iV 4, .raw (.int .u8 32)] [] (iV 5) [] := by have := sp_rnext 5 32 (by omega); rw [hn] at this; exact this
        replace hP := rr_next (k := 2) (q' := q) (l' := l ++ [x]) (x' := x) hP (by rw [hcn] <;> exact hn) (by decide) (Prod.ext (d9 _ _ _) rfl)
        clear hn
        repeat' (first | (refine Qr rfl ?_; try intro _ hK; try simp only [go_sem, *]) | refine Qh rfl ?_ | refine Qd rfl (by kernel_rfl) ?_ | (refine Qc rfl rfl ?_ ?_ <;> (intro hb; have hc := hb; try simp only [go_sem] at hc)) | refine z6 rfl ?_ | (refine Qb ?_ ?_; focus kernel_rfl) | (refine z8 (sn) ?_; simp only [go_sem, *]) | ((with_reducible apply And.intro); focus omega) | (refine z5 hK ?_; clear hK; simp only [go_sem, *]) | simp only [z3, z4, go_sem, *])
        all_goals first | contradiction | omega | skip
        refine ⟨_, (by omega), [some 0, some 1, some 2, some 3, some 6], [], _, _, _, (by (simp only [Weak, go_sem, List.map_append, List.map_set, *] <;> (try simp (disch := omega) only [y8]) <;> (try simp) <;> (try omega))), i + 1, 2, q, l ++ [x], x, rfl, (by omega), (by exact ⟨hP, fun h => by omega, fun h => by omega, fun h => by omega, by omega, by (try simp) <;> omega, by (try simp) <;> omega⟩), rfl, rfl, rfl⟩
      · have hn : zNd 5 93 = 6 := by decide
        have sn : zNV Tryz.prog 53 [iV 4, .raw (.int .u8 93)] [] (iV 6) [] := by have := sp_rnext 5 93 (by omega); rw [hn] at this; exact this
        replace hP := rr_next (k := 6) (q' := q ++ [l ++ [x]]) (l' := []) (x' := x) hP (by rw [hcn] <;> exact hn) (by decide) (Prod.ext (d9 _ _ _) rfl)
        clear hn
        repeat' (first | (refine Qr rfl ?_; try intro _ hK; try simp only [go_sem, *]) | refine Qh rfl ?_ | refine Qd rfl (by kernel_rfl) ?_ | (refine Qc rfl rfl ?_ ?_ <;> (intro hb; have hc := hb; try simp only [go_sem] at hc)) | refine z6 rfl ?_ | (refine Qb ?_ ?_; focus kernel_rfl) | (refine z8 (sn) ?_; simp only [go_sem, *]) | ((with_reducible apply And.intro); focus omega) | (refine z5 hK ?_; clear hK; simp only [go_sem, *]) | simp only [z3, z4, go_sem, *])
        all_goals first | contradiction | omega | skip
        refine ⟨_, (by omega), [some 0, some 1, some 2, some 3], [6], _, _, _, (by (simp only [Weak, go_sem, List.map_append, List.map_set, *] <;> (try simp (disch := omega) only [y8]) <;> (try simp) <;> (try omega))), i + 1, 6, q ++ [l ++ [x]], [], x, rfl, (by omega), (by exact ⟨hP, fun h => by omega, fun h => by omega, fun h => by omega, by omega, by (try simp) <;> omega, by (try simp) <;> omega⟩), rfl, rfl, rfl⟩
      · have hn : zNd 5 cn = 8 := by unfold zNd; (repeat' split) <;> omega
        have sn : zNV Tryz.prog 53 [iV 4, .raw (.int .u8 (cn : Int))] [] (iV 8) [] := by have := sp_rnext 5 cn (by omega); rw [hn] at this; exact this
        have hR := rr_bad hP (by rw [hcn]; exact hn)
        subst hR
        simp only [ansV]
        clear hP hn
        repeat' (first | (refine Qr rfl ?_; try intro _ hK; try simp only [go_sem, *]) | refine Qh rfl ?_ | refine Qd rfl (by kernel_rfl) ?_ | (refine Qc rfl rfl ?_ ?_ <;> (intro hb; have hc := hb; try simp only [go_sem] at hc)) | refine z6 rfl ?_ | (refine Qb ?_ ?_; focus kernel_rfl) | (refine z8 (sn) ?_; simp only [go_sem, *]) | ((with_reducible apply And.intro); focus omega) | (refine z5 hK ?_; clear hK; simp only [go_sem, *]) | simp only [z3, z4, go_sem, *])
        all_goals first | contradiction | omega | skip
        refine ⟨[?_, _, _], [], [], ⟨?_, rfl, rfl, trivial⟩, ?_⟩; (rotate_left 1); (focus (simp only [x7, go_sem]; exact rfl)); simp only [List.map_nil, go_sem, *]; (try simp)
    · skip
      rcases (by omega : cn = 91 ∨ cn = 10 ∨ cn ≠ 91 ∧ cn ≠ 10) with rfl | rfl | hx
      · have hn : zNd 6 91 = 1 := by decide
        have sn : zNV Tryz.prog 53 [iV 6, .raw (.int .u8 91)] [] (iV 1) [] := by have := sp_rnext 6 91 (by omega); rw [hn] at this; exact this
        replace hP := rr_next (k := 1) (q' := q) (l' := []) (x' := x) hP (by rw [hcn] <;> exact hn) (by decide) rfl
        clear hn
        repeat' (first | (refine Qr rfl ?_; try intro _ hK; try simp only [go_sem, *]) | refine Qh rfl ?_ | refine Qd rfl (by kernel_rfl) ?_ | (refine Qc rfl rfl ?_ ?_ <;> (intro hb; have hc := hb; try simp only [go_sem] at hc)) | refine z6 rfl ?_ | (refine Qb ?_ ?_; focus kernel_rfl) | (refine z8 (sn) ?_; simp only [go_sem, *]) | ((with_reducible apply And.intro); focus omega) | (refine z5 hK ?_; clear hK; simp only [go_sem, *]) | simp only [z3, z4, go_sem, *])
        all_goals first | contradiction | omega | skip
        refine ⟨_, (by omega), [some 0, some 1, some 2, some 5, none], [], _, _, _, (by (simp only [Weak, go_sem, List.map_append, List.map_set, *] <;> (try simp (disch := omega) only [y8]) <;> (try simp) <;> (try omega))), i + 1, 1, q, [], x, rfl, (by omega), (by exact ⟨hP, fun h => by omega, fun _ => rfl, fun h => by omega, by omega, by (try simp) <;> omega, by (try simp) <;> omega⟩), rfl, rfl, rfl⟩
      · have hn : zNd 6 10 = 7 := by decide
        have sn : zNV Tryz.prog 53 [iV 6, .raw (.int .u8 10)] [] (iV 7) [] := by have := sp_rnext 6 10 (by omega); rw [hn] at this; exact this
        replace hP := rr_next (k := 7) (q' := q) (l' := []) (x' := x) hP (by rw [hcn] <;> exact hn) (by decide) rfl
        clear hn
        repeat' (first | (refine Qr rfl ?_; try intro _ hK; try simp only [go_sem, *]) | refine Qh rfl ?_ | refine Qd rfl (by kernel_rfl) ?_ | (refine Qc rfl rfl ?_ ?_ <;> (intro hb; have hc := hb; try simp only [go_sem] at hc)) | refine z6 rfl ?_ | (refine Qb ?_ ?_; focus kernel_rfl) | (refine z8 (sn) ?_; simp only [go_sem, *]) | ((with_reducible apply And.intro); focus omega) | (refine z5 hK ?_; clear hK; simp only [go_sem, *]) | simp only [z3, z4, go_sem, *])
        all_goals first | contradiction | omega | skip
        refine ⟨_, (by omega), [some 0, some 1, some 2, some 3], [], _, _, _, (by (simp only [Weak, go_sem, List.map_append, List.map_set, *] <;> (try simp (disch := omega) only [y8]) <;> (try simp) <;> (try omega))), i + 1, 7, q, [], x, rfl, (by omega), (by exact ⟨hP, fun h => by omega, fun h => by omega, fun h => by omega, by omega, by (try simp) <;> omega, by (try simp) <;> omega⟩), rfl, rfl, rfl⟩
      · have hn : zNd 6 cn = 8 := by unfold zNd; (repeat' split) <;> omega
        have sn : zNV Tryz.prog 53 [iV 6, .raw (.int .u8 (cn : Int))] [] (iV 8) [] := by have := sp_rnext 6 cn (by omega); rw [hn] at this; exact this
        have hR := rr_bad hP (by rw [hcn]; exact hn)
        subst hR
        simp only [ansV]
        clear hP hn
        repeat' (first | (refine Qr rfl ?_; try intro _ hK; try simp only [go_sem, *]) | refine Qh rfl ?_ | refine Qd rfl (by kernel_rfl) ?_ | (refine Qc rfl rfl ?_ ?_ <;> (intro hb; have hc := hb; try simp only [go_sem] at hc)) | refine z6 rfl ?_ | (refine Qb ?_ ?_; focus kernel_rfl) | (refine z8 (sn) ?_; simp only [go_sem, *]) | ((with_reducible apply And.intro); focus omega) | (refine z5 hK ?_; clear hK; simp only [go_sem, *]) | simp only [z3, z4, go_sem, *])
        all_goals first | contradiction | omega | skip
        refine ⟨[?_, _, _], [], [], ⟨?_, rfl, rfl, trivial⟩, ?_⟩; (rotate_left 1); (focus (simp only [x7, go_sem]; exact rfl)); simp only [List.map_nil, go_sem, *]; (try simp)
    · skip
      have hn : zNd 7 cn = 8 := by unfold zNd; (repeat' split) <;> omega
      have sn : zNV Tryz.prog 53 [iV 7, .raw (.int .u8 (cn : Int))] [] (iV 8) [] := by have := sp_rnext 7 cn (by omega); rw [hn] at this; exact this
      have hR := rr_bad hP (by rw [hcn]; exact hn)
      subst hR
      simp only [ansV]
      clear hP hn
      repeat' (first | (refine Qr rfl ?_; try intro _ hK; try simp only [go_sem, *]) | refine Qh rfl ?_ | refine Qd rfl (by kernel_rfl) ?_ | (refine Qc rfl rfl ?_ ?_ <;> (intro hb; have hc := hb; try simp only [go_sem] at hc)) | refine z6 rfl ?_ | (refine Qb ?_ ?_; focus kernel_rfl) | (refine z8 (sn) ?_; simp only [go_sem, *]) | ((with_reducible apply And.intro); focus omega) | (refine z5 hK ?_; clear hK; simp only [go_sem, *]) | simp only [z3, z4, go_sem, *])
      all_goals first | contradiction | omega | skip
      refine ⟨[?_, _, _], [], [], ⟨?_, rfl, rfl, trivial⟩, ?_⟩; (rotate_left 1); (focus (simp only [x7, go_sem]; exact rfl)); simp only [List.map_nil, go_sem, *]; (try simp)
  · have hii : ¬ (i : Int) < (t.length : Int) := by omega
    have hit : i = t.length := by omega
    rw [u0 (by omega)] at hP
    have h8 : st = 7 ∨ st = 0 ∨ st = 1 ∨ st = 2 ∨ st = 3 ∨ st = 4 ∨ st = 5 ∨ st = 6 := by omega
    rcases h8 with rfl | h8
    · have hR : R = .inl q := by rw [← hP]; rfl
      have hql := hck _ hR
      subst hR
      clear hP hck
      have sc := sp_rCheck q (by omega)
      simp only [ansV]
      by_cases h0 : check q = 0
      · rw [if_pos h0, h0]
        rw [h0] at sc
        clear h0
        repeat' (first | (refine Qr rfl ?_; try intro _ hK; try simp only [go_sem, *]) | refine Qh rfl ?_ | refine Qd rfl (by kernel_rfl) ?_ | (refine Qc rfl rfl ?_ ?_ <;> (intro hb; have hc := hb; try simp only [go_sem] at hc)) | refine z6 rfl ?_ | (refine Qb ?_ ?_; focus kernel_rfl) | ((with_reducible apply And.intro); focus omega) | (refine z5 hK ?_; clear hK; simp only [go_sem, *]) | simp only [z3, z4, go_sem, *])
        all_goals first | contradiction | omega | skip
        refine C7 [3] sc ?_ (.raw _) ?_
        · simp only [go_sem, *]
          (try simp [List.take_of_length_le])
          trace_state
        simp only [go_sem, *]
        repeat' (first | (refine Qr rfl ?_; try intro _ hK; try simp only [go_sem, *]) | refine Qh rfl ?_ | refine Qd rfl (by kernel_rfl) ?_ | (refine Qc rfl rfl ?_ ?_ <;> (intro hb; have hc := hb; try simp only [go_sem] at hc)) | refine z6 rfl ?_ | (refine Qb ?_ ?_; focus kernel_rfl) | ((with_reducible apply And.intro); focus omega) | (refine z5 hK ?_; clear hK; simp only [go_sem, *]) | simp only [z3, z4, go_sem, *])
        all_goals first | contradiction | omega | skip
        refine ⟨[?_, _, _], [], [3], ⟨?_, rfl, rfl, trivial⟩, ?_⟩
        rotate_left 1
        focus (simp only [x7, go_sem]; exact rfl)
        simp only [go_sem, *]
        (try simp [u1])
      · rw [if_neg h0]
        generalize check q = e at *
        repeat' (first | (refine Qr rfl ?_; try intro _ hK; try simp only [go_sem, *]) | refine Qh rfl ?_ | refine Qd rfl (by kernel_rfl) ?_ | (refine Qc rfl rfl ?_ ?_ <;> (intro hb; have hc := hb; try simp only [go_sem] at hc)) | refine z6 rfl ?_ | (refine Qb ?_ ?_; focus kernel_rfl) | ((with_reducible apply And.intro); focus omega) | (refine z5 hK ?_; clear hK; simp only [go_sem, *]) | simp only [z3, z4, go_sem, *])
        all_goals first | contradiction | omega | skip
        refine C7 [3] sc ?_ (.raw _) ?_
        · simp only [go_sem, *]
          (try simp [List.take_of_length_le])
          trace_state
        simp only [go_sem, *]
        repeat' (first | (refine Qr rfl ?_; try intro _ hK; try simp only [go_sem, *]) | refine Qh rfl ?_ | refine Qd rfl (by kernel_rfl) ?_ | (refine Qc rfl rfl ?_ ?_ <;> (intro hb; have hc := hb; try simp only [go_sem] at hc)) | refine z6 rfl ?_ | (refine Qb ?_ ?_; focus kernel_rfl) | ((with_reducible apply And.intro); focus omega) | (refine z5 hK ?_; clear hK; simp only [go_sem, *]) | simp only [z3, z4, go_sem, *])
        all_goals first | contradiction | omega | skip
        refine ⟨[?_, _, _], [], [], ⟨?_, rfl, rfl, trivial⟩, ?_⟩; (rotate_left 1); (focus (simp only [x7, go_sem]; exact rfl)); simp only [List.map_nil, go_sem, *]; (try simp)
    · have hR : R = .inr t.length := by
        rw [← hP, hit]
        rcases h8 with rfl | rfl | rfl | rfl | rfl | rfl | rfl <;> rfl
      subst hR
      clear hP hck
      subst hit
      simp only [ansV]
      rcases h8 with rfl | rfl | rfl | rfl | rfl | rfl | rfl
      all_goals (repeat' (first | (refine Qr rfl ?_; try intro _ hK; try simp only [go_sem, *]) | refine Qh rfl ?_ | refine Qd rfl (by kernel_rfl) ?_ | (refine Qc rfl rfl ?_ ?_ <;> (intro hb; have hc := hb; try simp only [go_sem] at hc)) | refine z6 rfl ?_ | (refine Qb ?_ ?_; focus kernel_rfl) | ((with_reducible apply And.intro); focus omega) | (refine z5 hK ?_; clear hK; simp only [go_sem, *]) | simp only [z3, z4, go_sem, *]))
      all_goals first | contradiction | omega | skip
      all_goals (refine ⟨[?_, _, _], [], [], ⟨?_, rfl, rfl, trivial⟩, ?_⟩; (rotate_left 1); (focus (simp only [x7, go_sem]; exact rfl)); simp only [List.map_nil, go_sem, *]; (try simp))
end Go.Abs

