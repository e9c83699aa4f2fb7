/-
  WHAT THE PROOF STANDS ON, PART 15: contracts of the program's functions. No condition.
-/
import Derived.Test.YtcbpjojhfgadlaaGreatDoorQZJZL13
import Derived.Test.YtcbpjojhfgadlaaGreatDoorQZJZL14
set_option maxRecDepth 100000
set_option maxHeartbeats 16000000
set_option linter.unusedVariables false
set_option linter.unusedSimpArgs false
set_option linter.unusedSectionVars false
namespace Go.Abs
open Go Go.Proofs Go.RowKit
attribute [local irreducible] q8 Hold y4
set_option maxRecDepth 10000
set_option maxHeartbeats 8000000

theorem bytesA_zeros (k : List UInt8 → Prop) : ∀ n, X2 (List.replicate n (.raw (.int .u8 0))) k = k (List.replicate n 0) := by
 intro n
 induction n generalizing k with
 | zero => rfl
 | succ n ih =>
  rw [List.replicate_succ, X2, ih, List.replicate_succ]
  simp
attribute [go_sem] bytesA_zeros
theorem planS_small {p : zNU} (v : Valid p) : (n0 p).length ≤ 4294967290 := by have := zAa v; omega
theorem readN_ok (t : Str) : F6 t = [] ∨ Valid (F6 t) := by
 unfold F6
 by_cases q : 120 < t.length
 ·rw [if_pos q]; exact .inl rfl
 ·rw [if_neg q]
  cases y9 0 [] 0 t with
  | inr i => exact .inl rfl
  | inl p =>
   show (if check p = 0 then p else []) = [] ∨ Valid (if check p = 0 then p else [])
   by_cases h : check p = 0
   ·rw [if_pos h]; exact .inr ((Q1 p).1 h)
   ·rw [if_neg h]; exact .inl rfl
theorem readN_len (t : Str) : (F6 t).length ≤ 4294967296 := by
 rcases readN_ok t with h | h
 ·rw [h]; simp
 ·have := h.len; omega
theorem readN_rows (t : Str) : ∀ l, l ∈ F6 t → l.length ≤ 4294967296 := fun l hl => by
 rcases readN_ok t with h | h
 ·rw [h] at hl; cases hl
 ·have := (h.rows l hl).len; omega
theorem sp_StreetStrings (p : zNU) (text : Str) (nums : List Int) (at_ how n : Int) (hp : PlanB 1048576 p) (ht : text.length ≤ 4294967290) (hn : nums.length ≤ 4294967296) (h3 : (Lit.int .i64 at_).wf = true) (h4 : (Lit.int .i64 how).wf = true) (h5 : (Lit.int .u8 n).wf = true) :
  zNV Tryz.prog 3 [y3 p, sV text, l6 nums, iV at_, iV how, .raw (.int .u8 n)] [] (bV true) [] := by
 have hby : 0 ≤ n ∧ n < 256 := by
  simp only [Lit.wf, Bool.and_eq_true, decide_eq_true_eq] at h5
  exact ⟨h5.1, by have h6 : n ≤ 255 := h5.2; omega⟩
 clear h3 h4 h5
 have sw := zJX
 have hpl : p.length ≤ 4294967296 := by have := hp.len; omega
 have ls0l := sp_wide p hpl _ rfl
 clear hp
 generalize wideB p = W at *
 have s1 := zIo nums
 have s2 := zIp (K1 nums) 8 hn (by omega)
 have v := zHf (d := K1 nums) (houses := 8) (by omega)
 generalize V0 (K1 nums) 8 = P at *
 obtain ⟨r, d1⟩ := P
 simp only at s2 v
 have hrl : r.length ≤ 4294967296 := by have := v.len; omega
 clear v
 cases W with
 | true =>
  refine z9 Tryz.func3 rfl (fun E hE => ?_); simp only [go_sem, Tryz.ntmps3]
  repeat' (first | (refine Qr rfl ?_; try intro _ hK; try simp only [go_sem, *]) | (refine Qi rfl rfl rfl rfl ?_ ?_ <;> (intro hb; (try intro _ hK); have hc := hb; try simp only [go_sem] at hc; simp only [go_sem, *])) | refine Qh rfl ?_ | refine Qd rfl (by kernel_rfl) ?_ | (refine Qc rfl rfl ?_ ?_ <;> (intro hb; have hc := hb; try simp only [go_sem] at hc)) | refine z6 rfl ?_ | (refine Qb ?_ ?_; focus kernel_rfl) | ((first | refine z8 (ls0l) ?_ | refine z8 (sw) ?_); simp only [go_sem, *]) | (refine u3 (s1) ?_; simp only [go_sem, *]) | (refine l5 [1] (s2) ?_; simp only [go_sem, *]) | ((with_reducible apply And.intro); focus omega) | (refine z5 hK ?_; clear hK; simp only [go_sem, *]) | simp only [z3, z4, go_sem, *])
  all_goals first | contradiction | omega | skip
  (refine ⟨[_], [], [], ⟨rfl, trivial⟩, ?_⟩; simp only [go_sem, *])
 | false =>
  by_cases q : text.length ≤ 110
  ·have q1 : ¬ (text.length : Int) > 110 := by omega
   refine z9 Tryz.func3 rfl (fun E hE => ?_); simp only [go_sem, Tryz.ntmps3]
   repeat' (first | (refine Qr rfl ?_; try intro _ hK; try simp only [go_sem, *]) | (refine Qi rfl rfl rfl rfl ?_ ?_ <;> (intro hb; (try intro _ hK); have hc := hb; try simp only [go_sem] at hc; simp only [go_sem, *])) | refine Qh rfl ?_ | refine Qd rfl (by kernel_rfl) ?_ | (refine Qc rfl rfl ?_ ?_ <;> (intro hb; have hc := hb; try simp only [go_sem] at hc)) | refine z6 rfl ?_ | (refine Qb ?_ ?_; focus kernel_rfl) | ((first | refine z8 (ls0l) ?_ | refine z8 (sw) ?_); simp only [go_sem, *]) | (refine u3 (s1) ?_; simp only [go_sem, *]) | (refine l5 [1] (s2) ?_; simp only [go_sem, *]) | ((with_reducible apply And.intro); focus omega) | (refine z5 hK ?_; clear hK; simp only [go_sem, *]) | simp only [z3, z4, go_sem, *])
   all_goals first | contradiction | omega | skip
   refine zAQ rfl (2) (fun i (L : List zNU) (acc : List Str) => L.length = 2 ∧ (∀ q, q ∈ L → q.length ≤ 4294967296) ∧ acc.length = i + 1 ∧ ∀ s, s ∈ acc → s.length ≤ 4294967290) 135 (fun i L acc => [(15, iV i), (14, .own 1 1 0 acc.length), (13, .own 0 1 0 2), (12, bV false), (5, .raw (.int .u8 n)), (4, iV how), (3, iV at_)]) (fun i L acc => [.row 1 (L.map y3), .row 1 (acc.map fun s => sV s)]) [some 2, some 3] [] ([p, r]) ([text]) (by exact ⟨rfl, by simp [hpl, hrl], rfl, by simpa using ht⟩) ?_; intro i L acc hi hP
   obtain ⟨hL, hq, ha, hs⟩ := hP
   have hwi : IntKind.i64.wrap ((i : Int) + 1) = ((i + 1 : Nat) : Int) := y8 (by omega)
   by_cases hi2 : i < 2
   ·have hii : (i : Int) < 2 := by omega
    have hg : ∀ d, (L.map y3).getD i d = y3 (L.getD i default) := fun d => zLl (by omega)
    have hgl := hq (L.getD i default) (w5 (by omega))
    generalize L.getD i default = g at *
    clear ls0l s1 s2 sw
    by_cases v : check g = 0
    ·have v := (Q1 g).1 v
     have s3 := zDA g v
     have s4 := sp_rWrite_ok g v
     have h6 := planS_small v
     generalize n0 g = S at *
     clear v
     repeat' (first | (refine Qr rfl ?_; try intro _ hK; try simp only [go_sem, *]) | (refine Qi rfl rfl rfl rfl ?_ ?_ <;> (intro hb; (try intro _ hK); have hc := hb; try simp only [go_sem] at hc; simp only [go_sem, *])) | refine Qh rfl ?_ | refine Qd rfl (by kernel_rfl) ?_ | (refine Qc rfl rfl ?_ ?_ <;> (intro hb; have hc := hb; try simp only [go_sem] at hc)) | refine z6 rfl ?_ | (refine Qb ?_ ?_; focus kernel_rfl) | (refine X3 (s3) ?_ ?_; (focus (simp only [go_sem, *]; done)); simp only [go_sem, *]) | (refine X3 (s4) ?_ ?_; (focus (simp only [go_sem, *]; done)); simp only [go_sem, *]) | ((with_reducible apply And.intro); focus omega) | (refine z5 hK ?_; clear hK; simp only [go_sem, *]) | simp only [z3, z4, go_sem, *])
     all_goals first | contradiction | omega | skip
     exact T3 (i' := i + 1) [some 0, some 3] [] (L) (acc ++ [S]) (by exact ⟨hL, hq, by simp [ha], fun s h => by rcases List.mem_append.1 h with h | h; exact hs s h; (obtain rfl := List.mem_singleton.1 h; exact h6)⟩)
    ·have s3 := sp_Write_err g hgl v
     have s4 := sp_rWrite_err g hgl v
     generalize check g = e at *
     clear v
     repeat' (first | (refine Qr rfl ?_; try intro _ hK; try simp only [go_sem, *]) | (refine Qi rfl rfl rfl rfl ?_ ?_ <;> (intro hb; (try intro _ hK); have hc := hb; try simp only [go_sem] at hc; simp only [go_sem, *])) | refine Qh rfl ?_ | refine Qd rfl (by kernel_rfl) ?_ | (refine Qc rfl rfl ?_ ?_ <;> (intro hb; have hc := hb; try simp only [go_sem] at hc)) | refine z6 rfl ?_ | (refine Qb ?_ ?_; focus kernel_rfl) | (refine X3 (s3) ?_ ?_; (focus (simp only [go_sem, *]; done)); simp only [go_sem, *]) | (refine X3 (s4) ?_ ?_; (focus (simp only [go_sem, *]; done)); simp only [go_sem, *]) | ((with_reducible apply And.intro); focus omega) | (refine z5 hK ?_; clear hK; simp only [go_sem, *]) | simp only [z3, z4, go_sem, *])
     all_goals first | contradiction | omega | skip
     exact T3 (i' := i + 1) [some 0, some 3] [] (L) (acc ++ [[]]) (by exact ⟨hL, hq, by simp [ha], fun s h => by rcases List.mem_append.1 h with h | h; exact hs s h; (obtain rfl := List.mem_singleton.1 h; simp)⟩)
   ·have hii : ¬ (i : Int) < 2 := by omega
    have ha3 : acc.length = 3 := by omega
    clear hwi hi2 ha hq hL
    have sM := sp_Mod how 2 (by omega) (by omega)
    obtain ⟨e, he⟩ : ∃ e : Nat, how % 2 = e := ⟨(how % 2).toNat, by omega⟩
    have he2 : e ≤ 1 := by omega
    rw [he] at sM
    have hwe : IntKind.i64.wrap (120 + (e : Int)) = ((120 + e : Nat) : Int) := by rw [wrap_i64 (by omega) (by omega)]; omega
    have hY := hs (acc.getD 2 default) (w5 (by omega))
    have hYg : ∀ d, (acc.map fun s => sV s).getD 2 d = sV (acc.getD 2 default) := fun d => zLl (by omega)
    generalize acc.getD 2 default = Y at *
    have sS := sp_Smudged Y hY at_ how n hby
    have hZ := smudge_len Y at_ how (UInt8.ofNat n.toNat)
    generalize smudge Y at_ how (UInt8.ofNat n.toNat) = Z at *
    have hrep : ∀ x : AV, List.replicate (120 + e) x ≠ [] := fun x h => by have := congrArg List.length h; simp at this
    have hlr : ∀ x : AV, (List.replicate (120 + e) x).length = 120 + e := fun x => List.length_replicate
    have htk : ∀ x : AV, List.take (120 + e) (List.replicate (120 + e) x) = List.replicate (120 + e) x := fun x => List.take_of_length_le (by simp)
    have hT0 : ∀ s, s ∈ acc ++ [Z, List.replicate (120 + e) 0] → s.length ≤ 4294967296 := fun s h => by
     rcases List.mem_append.1 h with h | h
     ·have := hs s h; omega
     ·simp only [List.mem_cons, List.not_mem_nil, or_false] at h
      rcases h with rfl | rfl
      ·omega
      ·rw [List.length_replicate]; omega
    clear hs
    repeat' (first | (refine Qr rfl ?_; try intro _ hK; try simp only [go_sem, *]) | (refine Qi rfl rfl rfl rfl ?_ ?_ <;> (intro hb; (try intro _ hK); have hc := hb; try simp only [go_sem] at hc; simp only [go_sem, *])) | refine Qh rfl ?_ | refine Qd rfl (by kernel_rfl) ?_ | (refine Qc rfl rfl ?_ ?_ <;> (intro hb; have hc := hb; try simp only [go_sem] at hc)) | refine z6 rfl ?_ | (refine Qb ?_ ?_; focus kernel_rfl) | ((first | refine z8 (sM) ?_ | refine z8 (sS) ?_); simp only [go_sem, *]) | ((with_reducible apply And.intro); focus omega) | (refine z5 hK ?_; clear hK; simp only [go_sem, *]) | simp only [z3, z4, go_sem, *])
    all_goals first | contradiction | omega | skip
    refine v9 rfl (5) (fun j (T : List Str) => T.length = 5 ∧ ∀ s, s ∈ T → s.length ≤ 4294967296) 135 (fun j T => [(20, iV j), (14, .own 0 1 0 5), (12, bV false)]) (fun j T => [.row 1 (T.map fun s => sV s)]) [some 4] [] (acc ++ [Z, List.replicate (120 + e) 0]) (by exact ⟨by simp [ha3], hT0⟩) ?_; intro j T hj hP
    clear sM sS hrep hlr htk hwe hYg hT0 ls0l s1 s2
    obtain ⟨hL, hs⟩ := hP
    have hwj : IntKind.i64.wrap ((j : Int) + 1) = ((j + 1 : Nat) : Int) := y8 (by omega)
    by_cases hj2 : j < 5
    ·have hjj : (j : Int) < 5 := by omega
     have hg : ∀ d, (T.map fun s => sV s).getD j d = sV (T.getD j default) := fun d => zLl (by omega)
     have hgl := hs (T.getD j default) (w5 (by omega))
     generalize T.getD j default = g at *
     have s5 := zC8 g hgl
     have s6 := sp_rRead g hgl
     have s7 := zC4 (F6 g) (F6 g) (readN_len g) (readN_rows g)
     rw [decide_eq_true rfl] at s7
     unfold O5 at s5 s6
     generalize F6 g = a1 at *
     generalize F5 g = a2 at *
     generalize T6 g = a3 at *
     have hne : (a3 != a3) = false := by simp
     clear sw
     repeat' (first | (refine Qr rfl ?_; try intro _ hK; try simp only [go_sem, *]) | (refine Qi rfl rfl rfl rfl ?_ ?_ <;> (intro hb; (try intro _ hK); have hc := hb; try simp only [go_sem] at hc; simp only [go_sem, *])) | refine Qh rfl ?_ | refine Qd rfl (by kernel_rfl) ?_ | (refine Qc rfl rfl ?_ ?_ <;> (intro hb; have hc := hb; try simp only [go_sem] at hc)) | refine z6 rfl ?_ | (refine Qb ?_ ?_; focus kernel_rfl) | (refine X3 (s5) ?_ ?_; (focus (simp only [go_sem, *]; done)); simp only [go_sem, *]) | (refine X3 (s6) ?_ ?_; (focus (simp only [go_sem, *]; done)); simp only [go_sem, *]) | (refine z8 (s7) ?_; simp only [go_sem, *]) | ((with_reducible apply And.intro); focus omega) | (refine z5 hK ?_; clear hK; simp only [go_sem, *]) | simp only [z3, z4, go_sem, *])
     all_goals first | contradiction | omega | skip
     exact x9 (i' := j + 1) [some 0] [] (T) (by exact ⟨hL, hs⟩)
    ·have hjj : ¬ (j : Int) < 5 := by omega
     repeat' (first | (refine Qr rfl ?_; try intro _ hK; try simp only [go_sem, *]) | (refine Qi rfl rfl rfl rfl ?_ ?_ <;> (intro hb; (try intro _ hK); have hc := hb; try simp only [go_sem] at hc; simp only [go_sem, *])) | refine Qh rfl ?_ | refine Qd rfl (by kernel_rfl) ?_ | (refine Qc rfl rfl ?_ ?_ <;> (intro hb; have hc := hb; try simp only [go_sem] at hc)) | refine z6 rfl ?_ | (refine Qb ?_ ?_; focus kernel_rfl) | (refine z8 (sw) ?_; simp only [go_sem, *]) | ((with_reducible apply And.intro); focus omega) | (refine z5 hK ?_; clear hK; simp only [go_sem, *]) | simp only [z3, z4, go_sem, *])
     all_goals first | contradiction | omega | skip
     (refine ⟨[_], [], [], ⟨rfl, trivial⟩, ?_⟩; simp only [go_sem, *])
  ·have q1 : (text.length : Int) > 110 := by omega
   by_cases q3 : text.length ≤ 120
   ·have q2 : (text.length : Int) ≤ 120 := by omega
    refine z9 Tryz.func3 rfl (fun E hE => ?_); simp only [go_sem, Tryz.ntmps3]
    repeat' (first | (refine Qr rfl ?_; try intro _ hK; try simp only [go_sem, *]) | (refine Qi rfl rfl rfl rfl ?_ ?_ <;> (intro hb; (try intro _ hK); have hc := hb; try simp only [go_sem] at hc; simp only [go_sem, *])) | refine Qh rfl ?_ | refine Qd rfl (by kernel_rfl) ?_ | (refine Qc rfl rfl ?_ ?_ <;> (intro hb; have hc := hb; try simp only [go_sem] at hc)) | refine z6 rfl ?_ | (refine Qb ?_ ?_; focus kernel_rfl) | ((first | refine z8 (ls0l) ?_ | refine z8 (sw) ?_); simp only [go_sem, *]) | (refine u3 (s1) ?_; simp only [go_sem, *]) | (refine l5 [1] (s2) ?_; simp only [go_sem, *]) | ((with_reducible apply And.intro); focus omega) | (refine z5 hK ?_; clear hK; simp only [go_sem, *]) | simp only [z3, z4, go_sem, *])
    all_goals first | contradiction | omega | skip
    (refine ⟨[_], [], [], ⟨rfl, trivial⟩, ?_⟩; simp only [go_sem, *])
   ·have q2 : ¬ (text.length : Int) ≤ 120 := by omega
    refine z9 Tryz.func3 rfl (fun E hE => ?_); simp only [go_sem, Tryz.ntmps3]
    repeat' (first | (refine Qr rfl ?_; try intro _ hK; try simp only [go_sem, *]) | (refine Qi rfl rfl rfl rfl ?_ ?_ <;> (intro hb; (try intro _ hK); have hc := hb; try simp only [go_sem] at hc; simp only [go_sem, *])) | refine Qh rfl ?_ | refine Qd rfl (by kernel_rfl) ?_ | (refine Qc rfl rfl ?_ ?_ <;> (intro hb; have hc := hb; try simp only [go_sem] at hc)) | refine z6 rfl ?_ | (refine Qb ?_ ?_; focus kernel_rfl) | ((first | refine z8 (ls0l) ?_ | refine z8 (sw) ?_); simp only [go_sem, *]) | (refine u3 (s1) ?_; simp only [go_sem, *]) | (refine l5 [1] (s2) ?_; simp only [go_sem, *]) | ((with_reducible apply And.intro); focus omega) | (refine z5 hK ?_; clear hK; simp only [go_sem, *]) | simp only [z3, z4, go_sem, *])
    all_goals first | contradiction | omega | skip
    refine zAQ rfl (2) (fun i (L : List zNU) (acc : List Str) => L.length = 2 ∧ (∀ q, q ∈ L → q.length ≤ 4294967296) ∧ acc.length = i + 1 ∧ ∀ s, s ∈ acc → s.length ≤ 4294967290) 135 (fun i L acc => [(15, iV i), (14, .own 1 1 0 acc.length), (13, .own 0 1 0 2), (12, bV false), (5, .raw (.int .u8 n)), (4, iV how), (3, iV at_)]) (fun i L acc => [.row 1 (L.map y3), .row 1 (acc.map fun s => sV s)]) [some 2, some 3] [] ([p, r]) ([text]) (by exact ⟨rfl, by simp [hpl, hrl], rfl, by simpa using ht⟩) ?_; intro i L acc hi hP
    obtain ⟨hL, hq, ha, hs⟩ := hP
    have hwi : IntKind.i64.wrap ((i : Int) + 1) = ((i + 1 : Nat) : Int) := y8 (by omega)
    by_cases hi2 : i < 2
    ·have hii : (i : Int) < 2 := by omega
     have hg : ∀ d, (L.map y3).getD i d = y3 (L.getD i default) := fun d => zLl (by omega)
     have hgl := hq (L.getD i default) (w5 (by omega))
     generalize L.getD i default = g at *
     clear ls0l s1 s2 sw
     by_cases v : check g = 0
     ·have v := (Q1 g).1 v
      have s3 := zDA g v
      have s4 := sp_rWrite_ok g v
      have h6 := planS_small v
      generalize n0 g = S at *
      clear v
      repeat' (first | (refine Qr rfl ?_; try intro _ hK; try simp only [go_sem, *]) | (refine Qi rfl rfl rfl rfl ?_ ?_ <;> (intro hb; (try intro _ hK); have hc := hb; try simp only [go_sem] at hc; simp only [go_sem, *])) | refine Qh rfl ?_ | refine Qd rfl (by kernel_rfl) ?_ | (refine Qc rfl rfl ?_ ?_ <;> (intro hb; have hc := hb; try simp only [go_sem] at hc)) | refine z6 rfl ?_ | (refine Qb ?_ ?_; focus kernel_rfl) | (refine X3 (s3) ?_ ?_; (focus (simp only [go_sem, *]; done)); simp only [go_sem, *]) | (refine X3 (s4) ?_ ?_; (focus (simp only [go_sem, *]; done)); simp only [go_sem, *]) | ((with_reducible apply And.intro); focus omega) | (refine z5 hK ?_; clear hK; simp only [go_sem, *]) | simp only [z3, z4, go_sem, *])
      all_goals first | contradiction | omega | skip
      exact T3 (i' := i + 1) [some 0, some 3] [] (L) (acc ++ [S]) (by exact ⟨hL, hq, by simp [ha], fun s h => by rcases List.mem_append.1 h with h | h; exact hs s h; (obtain rfl := List.mem_singleton.1 h; exact h6)⟩)
     ·have s3 := sp_Write_err g hgl v
      have s4 := sp_rWrite_err g hgl v
      generalize check g = e at *
      clear v
      repeat' (first | (refine Qr rfl ?_; try intro _ hK; try simp only [go_sem, *]) | (refine Qi rfl rfl rfl rfl ?_ ?_ <;> (intro hb; (try intro _ hK); have hc := hb; try simp only [go_sem] at hc; simp only [go_sem, *])) | refine Qh rfl ?_ | refine Qd rfl (by kernel_rfl) ?_ | (refine Qc rfl rfl ?_ ?_ <;> (intro hb; have hc := hb; try simp only [go_sem] at hc)) | refine z6 rfl ?_ | (refine Qb ?_ ?_; focus kernel_rfl) | (refine X3 (s3) ?_ ?_; (focus (simp only [go_sem, *]; done)); simp only [go_sem, *]) | (refine X3 (s4) ?_ ?_; (focus (simp only [go_sem, *]; done)); simp only [go_sem, *]) | ((with_reducible apply And.intro); focus omega) | (refine z5 hK ?_; clear hK; simp only [go_sem, *]) | simp only [z3, z4, go_sem, *])
      all_goals first | contradiction | omega | skip
      exact T3 (i' := i + 1) [some 0, some 3] [] (L) (acc ++ [[]]) (by exact ⟨hL, hq, by simp [ha], fun s h => by rcases List.mem_append.1 h with h | h; exact hs s h; (obtain rfl := List.mem_singleton.1 h; simp)⟩)
    ·have hii : ¬ (i : Int) < 2 := by omega
     have ha3 : acc.length = 3 := by omega
     clear hwi hi2 ha hq hL
     have sM := sp_Mod how 2 (by omega) (by omega)
     obtain ⟨e, he⟩ : ∃ e : Nat, how % 2 = e := ⟨(how % 2).toNat, by omega⟩
     have he2 : e ≤ 1 := by omega
     rw [he] at sM
     have hwe : IntKind.i64.wrap (120 + (e : Int)) = ((120 + e : Nat) : Int) := by rw [wrap_i64 (by omega) (by omega)]; omega
     have hY := hs (acc.getD 2 default) (w5 (by omega))
     have hYg : ∀ d, (acc.map fun s => sV s).getD 2 d = sV (acc.getD 2 default) := fun d => zLl (by omega)
     generalize acc.getD 2 default = Y at *
     have sS := sp_Smudged Y hY at_ how n hby
     have hZ := smudge_len Y at_ how (UInt8.ofNat n.toNat)
     generalize smudge Y at_ how (UInt8.ofNat n.toNat) = Z at *
     have hrep : ∀ x : AV, List.replicate (120 + e) x ≠ [] := fun x h => by have := congrArg List.length h; simp at this
     have hlr : ∀ x : AV, (List.replicate (120 + e) x).length = 120 + e := fun x => List.length_replicate
     have htk : ∀ x : AV, List.take (120 + e) (List.replicate (120 + e) x) = List.replicate (120 + e) x := fun x => List.take_of_length_le (by simp)
     have hT0 : ∀ s, s ∈ acc ++ [Z, List.replicate (120 + e) 0] → s.length ≤ 4294967296 := fun s h => by
      rcases List.mem_append.1 h with h | h
      ·have := hs s h; omega
      ·simp only [List.mem_cons, List.not_mem_nil, or_false] at h
       rcases h with rfl | rfl
       ·omega
       ·rw [List.length_replicate]; omega
     clear hs
     repeat' (first | (refine Qr rfl ?_; try intro _ hK; try simp only [go_sem, *]) | (refine Qi rfl rfl rfl rfl ?_ ?_ <;> (intro hb; (try intro _ hK); have hc := hb; try simp only [go_sem] at hc; simp only [go_sem, *])) | refine Qh rfl ?_ | refine Qd rfl (by kernel_rfl) ?_ | (refine Qc rfl rfl ?_ ?_ <;> (intro hb; have hc := hb; try simp only [go_sem] at hc)) | refine z6 rfl ?_ | (refine Qb ?_ ?_; focus kernel_rfl) | ((first | refine z8 (sM) ?_ | refine z8 (sS) ?_); simp only [go_sem, *]) | ((with_reducible apply And.intro); focus omega) | (refine z5 hK ?_; clear hK; simp only [go_sem, *]) | simp only [z3, z4, go_sem, *])
     all_goals first | contradiction | omega | skip
     refine v9 rfl (5) (fun j (T : List Str) => T.length = 5 ∧ ∀ s, s ∈ T → s.length ≤ 4294967296) 135 (fun j T => [(20, iV j), (14, .own 0 1 0 5), (12, bV false)]) (fun j T => [.row 1 (T.map fun s => sV s)]) [some 4] [] (acc ++ [Z, List.replicate (120 + e) 0]) (by exact ⟨by simp [ha3], hT0⟩) ?_; intro j T hj hP
     clear sM sS hrep hlr htk hwe hYg hT0 ls0l s1 s2
     obtain ⟨hL, hs⟩ := hP
     have hwj : IntKind.i64.wrap ((j : Int) + 1) = ((j + 1 : Nat) : Int) := y8 (by omega)
     by_cases hj2 : j < 5
     ·have hjj : (j : Int) < 5 := by omega
      have hg : ∀ d, (T.map fun s => sV s).getD j d = sV (T.getD j default) := fun d => zLl (by omega)
      have hgl := hs (T.getD j default) (w5 (by omega))
      generalize T.getD j default = g at *
      have s5 := zC8 g hgl
      have s6 := sp_rRead g hgl
      have s7 := zC4 (F6 g) (F6 g) (readN_len g) (readN_rows g)
      rw [decide_eq_true rfl] at s7
      unfold O5 at s5 s6
      generalize F6 g = a1 at *
      generalize F5 g = a2 at *
      generalize T6 g = a3 at *
      have hne : (a3 != a3) = false := by simp
      clear sw
      repeat' (first | (refine Qr rfl ?_; try intro _ hK; try simp only [go_sem, *]) | (refine Qi rfl rfl rfl rfl ?_ ?_ <;> (intro hb; (try intro _ hK); have hc := hb; try simp only [go_sem] at hc; simp only [go_sem, *])) | refine Qh rfl ?_ | refine Qd rfl (by kernel_rfl) ?_ | (refine Qc rfl rfl ?_ ?_ <;> (intro hb; have hc := hb; try simp only [go_sem] at hc)) | refine z6 rfl ?_ | (refine Qb ?_ ?_; focus kernel_rfl) | (refine X3 (s5) ?_ ?_; (focus (simp only [go_sem, *]; done)); simp only [go_sem, *]) | (refine X3 (s6) ?_ ?_; (focus (simp only [go_sem, *]; done)); simp only [go_sem, *]) | (refine z8 (s7) ?_; simp only [go_sem, *]) | ((with_reducible apply And.intro); focus omega) | (refine z5 hK ?_; clear hK; simp only [go_sem, *]) | simp only [z3, z4, go_sem, *])
      all_goals first | contradiction | omega | skip
      exact x9 (i' := j + 1) [some 0] [] (T) (by exact ⟨hL, hs⟩)
     ·have hjj : ¬ (j : Int) < 5 := by omega
      repeat' (first | (refine Qr rfl ?_; try intro _ hK; try simp only [go_sem, *]) | (refine Qi rfl rfl rfl rfl ?_ ?_ <;> (intro hb; (try intro _ hK); have hc := hb; try simp only [go_sem] at hc; simp only [go_sem, *])) | refine Qh rfl ?_ | refine Qd rfl (by kernel_rfl) ?_ | (refine Qc rfl rfl ?_ ?_ <;> (intro hb; have hc := hb; try simp only [go_sem] at hc)) | refine z6 rfl ?_ | (refine Qb ?_ ?_; focus kernel_rfl) | (refine z8 (sw) ?_; simp only [go_sem, *]) | ((with_reducible apply And.intro); focus omega) | (refine z5 hK ?_; clear hK; simp only [go_sem, *]) | simp only [z3, z4, go_sem, *])
      all_goals first | contradiction | omega | skip
      (refine ⟨[_], [], [], ⟨rfl, trivial⟩, ?_⟩; simp only [go_sem, *])
end Go.Abs

