/-
  WHAT THE PROOF STANDS ON, PART 7: contracts of the program's functions. No condition.
-/
import Derived.Test.YtcbpjojhfgadlaaGreatDoorQZJ6
set_option maxRecDepth 100000
set_option maxHeartbeats 16000000
set_option linter.unusedVariables false
set_option linter.unusedSimpArgs false
set_option linter.unusedSectionVars false
namespace Go.Proofs
open Go Go.Abs
@[go_sem] theorem Tryz.by9 : Abs.bytesT Tryz.prog 9 = some 16 := by kernel_rfl
@[go_sem] theorem Tryz.ze9 : Abs.zeroT Tryz.prog 9 = some (.string ⟨#[]⟩) := by kernel_rfl
@[go_sem] theorem Tryz.sz9 : Abs.sizeT Tryz.prog 9 = some 1 := by kernel_rfl
@[go_sem] theorem Tryz.ag11 : Abs.v8 Tryz.prog 11 = some false := by kernel_rfl
@[go_sem] theorem Tryz.sz11 : Abs.sizeT Tryz.prog 11 = some 1 := by kernel_rfl
@[go_sem] theorem Tryz.by11 : Abs.bytesT Tryz.prog 11 = some 16 := by kernel_rfl
@[go_sem] theorem Tryz.ze11 : Abs.zeroT Tryz.prog 11 = some (.string ⟨#[]⟩) := by kernel_rfl
@[go_sem] theorem Tryz.sl11 : Abs.sliceT Tryz.prog 11 = none := by kernel_rfl
@[go_sem] theorem Tryz.un11 : Tryz.prog.underlying 11 = some (.string) := by kernel_rfl
@[go_sem] theorem Tryz.ag12 : Abs.v8 Tryz.prog 12 = some false := by kernel_rfl
@[go_sem] theorem Tryz.sz12 : Abs.sizeT Tryz.prog 12 = some 1 := by kernel_rfl
@[go_sem] theorem Tryz.by12 : Abs.bytesT Tryz.prog 12 = some 8 := by kernel_rfl
@[go_sem] theorem Tryz.ze12 : Abs.zeroT Tryz.prog 12 = some (.int .u64 0) := by kernel_rfl
@[go_sem] theorem Tryz.sl12 : Abs.sliceT Tryz.prog 12 = none := by kernel_rfl
@[go_sem] theorem Tryz.un12 : Tryz.prog.underlying 12 = some (.int .u64) := by kernel_rfl
@[go_sem] theorem Tryz.ag15 : Abs.v8 Tryz.prog 15 = some false := by kernel_rfl
@[go_sem] theorem Tryz.sz15 : Abs.sizeT Tryz.prog 15 = some 1 := by kernel_rfl
@[go_sem] theorem Tryz.by15 : Abs.bytesT Tryz.prog 15 = some 8 := by kernel_rfl
@[go_sem] theorem Tryz.ze15 : Abs.zeroT Tryz.prog 15 = some (.pointer none) := by kernel_rfl
@[go_sem] theorem Tryz.sl15 : Abs.sliceT Tryz.prog 15 = none := by kernel_rfl
@[go_sem] theorem Tryz.ag32 : Abs.v8 Tryz.prog 32 = some false := by kernel_rfl
@[go_sem] theorem Tryz.sz32 : Abs.sizeT Tryz.prog 32 = some 1 := by kernel_rfl
@[go_sem] theorem Tryz.by32 : Abs.bytesT Tryz.prog 32 = some 24 := by kernel_rfl
@[go_sem] theorem Tryz.ze32 : Abs.zeroT Tryz.prog 32 = some (.slice none 0 0) := by kernel_rfl
@[go_sem] theorem Tryz.sl32 : Abs.sliceT Tryz.prog 32 = some 9 := by kernel_rfl
@[go_sem] theorem Tryz.un32 : Tryz.prog.underlying 32 = some (.slice 9) := by kernel_rfl
@[go_sem] theorem Tryz.ag53 : Abs.v8 Tryz.prog 53 = some false := by kernel_rfl
@[go_sem] theorem Tryz.sz53 : Abs.sizeT Tryz.prog 53 = some 1 := by kernel_rfl
@[go_sem] theorem Tryz.by53 : Abs.bytesT Tryz.prog 53 = some 8 := by kernel_rfl
@[go_sem] theorem Tryz.ze53 : Abs.zeroT Tryz.prog 53 = some (.nilFunc) := by kernel_rfl
@[go_sem] theorem Tryz.sl53 : Abs.sliceT Tryz.prog 53 = none := by kernel_rfl
@[go_sem] theorem Tryz.bs32 (n : Nat) (ps : List (Nat × Abs.AV)) (H : Nat → Abs.AObj) (nx : Nat) (K : Abs.Cont) : Abs.buildSliceA Tryz.prog 32 n ps H nx K = Abs.bsR 1 n ps H nx K := Abs.buildSliceA_row Tryz.sl32 Tryz.sz9 Tryz.ze9 rfl (by decide) rfl n ps H nx K
@[go_sem] theorem Tryz.ap32 (s x : Abs.AV) (H : Nat → Abs.AObj) (nx : Nat) (K : Abs.Cont) : Abs.appendA Tryz.prog 32 s x H nx K = Abs.appR 1 16 s x H nx K := Abs.appendA_row Tryz.sl32 Tryz.sz9 Tryz.by9 Tryz.ze9 rfl (by decide) rfl s x H nx K
@[go_sem] theorem Tryz.ca3 : Abs.r8 Tryz.prog 3 = true := by kernel_rfl
@[go_sem] theorem Tryz.ca6 : Abs.r8 Tryz.prog 6 = true := by kernel_rfl
@[go_sem] theorem Tryz.ca11 : Abs.r8 Tryz.prog 11 = true := by kernel_rfl
@[go_sem] theorem Tryz.ca12 : Abs.r8 Tryz.prog 12 = true := by kernel_rfl
@[go_sem] theorem Tryz.ca15 : Abs.r8 Tryz.prog 15 = true := by kernel_rfl
@[go_sem] theorem Tryz.ca50 : Abs.r8 Tryz.prog 50 = true := by kernel_rfl
@[go_sem] theorem Tryz.ca53 : Abs.r8 Tryz.prog 53 = true := by kernel_rfl
end Go.Proofs
namespace Go.Abs
open Go Go.Proofs Go.Proofs.YtcbpjojhfgadlaaGreatDoor Go.ChangeShapes Go.WideShapes Go.ChangeAt Go.RowKit
set_option maxRecDepth 100000

theorem bulk_mem {H : Type} {d : DataW H} : ∀ {l : List (DataW H)}, d ∈ l → Rows.uptoBulk d ≤ Rows.uptoBulkAll l
  | x :: r, h => by
    simp only [Rows.uptoBulkAll]
    rcases List.mem_cons.1 h with rfl | h
    · omega
    · have := bulk_mem h; omega
theorem cell_home {W : World} {a : Addr} {v : Value} (h : W.cell? a = some v) : a.spot = none ∧ a.block < W.heap.size := by
  unfold World.cell? at h
  split at h
  · rename_i hb
    split at h
    · cases h
    · rename_i hs
      exact ⟨by simpa using hs, (Array.getElem?_eq_some_iff.1 hb).1⟩
  · cases h

section
variable {H : Type} {enc : TypeId × Value → H} {W : World} {N : Nat}
theorem read_int {n : Nat} {t : TypeId} {cs : List Value} {x : DataW H × List MemPlace} (ht : Sh.ok .int (.inl t)) (h : trd enc W n t cs = some x) : ∃ c, TyC N .int c ∧ zDr W c cs := by
  obtain ⟨k, rfl, _, hw⟩ := DataW.trod_int ht h
  exact ⟨[iV k], ⟨k, hw, rfl⟩, rfl, fun i h h' => by
    have : i = 0 := by simp at h; omega
    subst this
    exact .raw _ rfl⟩
theorem read_row {e : Sh} {u : TypeId} {n : Nat} (b : Bool) (hu : Tryz.prog.cellsOf u = e.n) (h0 : 0 < e.n) (hb : b = true → e.n = 1)
    (ih : ∀ (cs : List Value) (x : DataW H × List MemPlace), trd enc W n u cs = some x → Rows.uptoBulk x.1 ≤ N → ∃ c, TyC N e c ∧ zDr W c cs)
    {a : Addr} {len cap : Nat} {elems : List (DataW H × List MemPlace)} (hlen : elems.length = len) (hcap : len ≤ cap) (hk : Rows.uptoBulkAll (elems.map (·.1)) ≤ N)
    (hel : ∀ i, i < len → (W.cells? 0 (a.add (i * Tryz.prog.cellsOf u)) (Tryz.prog.cellsOf u)).bind (trd enc W n u) = elems[i]?) :
    ∃ xs : List AV, xs.length ≤ N ∧ (∀ x, x ∈ xs → ∃ d, TyC N e d ∧ x = if b = true then d.getD 0 .any else .agg d) ∧ PR W (zOC W) (.list xs) (.slice (some a) len cap) := by
  have hN : len ≤ N := by have := zGv (elems.map (·.1)); rw [List.length_map] at this; omega
  have each : ∀ i, i < len → ∃ cs : List Value, ∃ d : List AV, W.cells? 0 (a.add (i * e.n)) e.n = some cs ∧ TyC N e d ∧ zDr W d cs := fun i hi => by
    have h := hel i hi
    rw [List.getElem?_eq_getElem (by omega), hu, Option.bind_eq_some_iff] at h
    obtain ⟨cs, h1, h2⟩ := h
    obtain ⟨d, h3, h4⟩ := ih cs _ h2 (Nat.le_trans (bulk_mem (List.mem_map.2 ⟨_, List.getElem_mem _, rfl⟩)) hk)
    exact ⟨cs, d, h1, h3, h4⟩
  obtain ⟨V, hV⟩ := pick each
  obtain ⟨D, hD⟩ := pick (p := fun i d => W.cells? 0 (a.add (i * e.n)) e.n = some (V i) ∧ TyC N e d ∧ zDr W d (V i)) hV
  have hcs : ∀ i, i < len → (if b = true then (D i).getD 0 .any else AV.agg (D i)).cells = D i := fun i hi => by
    cases b with
    | false => rfl
    | true =>
      have hl := (hD i hi).2.1.len
      rw [hb rfl] at hl
      obtain ⟨y, hy⟩ := List.length_eq_one_iff.1 hl
      rw [if_pos rfl, hy]
      exact (hD i hi).2.1.bare y (by rw [hy]; simp)
  refine ⟨(List.range len).map fun i => if b = true then (D i).getD 0 .any else .agg (D i), by simpa using hN, fun x hx => ?_, ?_⟩
  · obtain ⟨i, hi, rfl⟩ := List.mem_map.1 hx
    exact ⟨D i, (hD i (List.mem_range.1 hi)).2.1, rfl⟩
  · by_cases h0l : len = 0
    · subst h0l; exact .nil _ _
    · have rd : ∀ i j, i < len → j < e.n → W.cell? ((a.add (i * e.n)).add j) = (V i)[j]? := fun i j hi hj => (World.cells?_some (hD i hi).1).2.2 j hj
      have vl : ∀ i, i < len → (V i).length = e.n := fun i hi => (World.cells?_some (hD i hi).1).2.1
      have h00 : W.cell? ((a.add (0 * e.n)).add 0) = some ((V 0)[0]'(by rw [vl 0 (by omega)]; exact h0)) := by rw [rd 0 0 (by omega) h0, List.getElem?_eq_getElem]
      obtain ⟨hs, hblk⟩ := cell_home h00
      obtain ⟨bb, off, sp⟩ := a
      have hsp : sp = none := by simpa [Addr.add] using hs
      have hbb : bb < W.heap.size := by simpa [Addr.add] using hblk
      subst hsp
      have ad : ∀ i j, ((⟨bb, off, none⟩ : Addr).add (i * e.n)).add j = ⟨bb, off + i * e.n + j, none⟩ := fun i j => by
        have one : ∀ o k, (⟨bb, o, none⟩ : Addr).add k = ⟨bb, o + k, none⟩ := fun o k => by
          by_cases hk : k = 0
          · subst hk; simp [Addr.add]
          · simp [Addr.add, hk]
        rw [one, one]
      have gd : ∀ (l : List Value) (k : Nat) (h : k < l.length), l.getD k undef = l[k] := fun l k h => by simp [List.getD, h]
      have key := PR.list (w := W) (I := zOC W) bb off cap e.n ((List.range len).map fun i => if b = true then (D i).getD 0 .any else .agg (D i)) (fun i j => (V i).getD j undef) hbb h0 (by simpa using hcap)
        (fun i hi => by
          have hi' : i < len := by simpa using hi
          rw [List.getElem_map, List.getElem_range, hcs i hi', (hD i hi').2.1.len])
        (fun i j hi hj => by
          have hi' : i < len := by simpa using hi
          have := rd i j hi' hj
          rw [ad, List.getElem?_eq_getElem (by rw [vl i hi']; exact hj)] at this
          rw [this, gd _ _ (by rw [vl i hi']; exact hj)])
        (fun i hi j hj => by
          have hi' : i < len := by simpa using hi
          have e2 : (((List.range len).map fun i => if b = true then (D i).getD 0 .any else .agg (D i))[i]).cells = D i := by
            rw [List.getElem_map, List.getElem_range]; exact hcs i hi'
          have hj2 : j < (D i).length := by rw [← e2]; exact hj
          have hj3 : j < (V i).length := by rw [← (hD i hi').2.2.1]; exact hj2
          have := (hD i hi').2.2.2 j hj2 hj3
          rw [gd _ _ hj3]
          simpa only [e2] using this)
      rw [List.length_map, List.length_range] at key
      exact key
theorem read_all : ∀ (s : Sh),
    (∀ (t : TypeId) (n : Nat) (cs : List Value) (x : DataW H × List MemPlace), s.ok (.inl t) → trd enc W n t cs = some x → Rows.uptoBulk x.1 ≤ N → ∃ c, TyC N s c ∧ zDr W c cs) ∧
    (∀ (l : List Field) (off n : Nat) (cs : List Value) (xs : List (DataW H × List MemPlace)), s.ok (.inr (l, off)) → xs.length = l.length → (∀ (i : Nat) (f : Field), l[i]? = some f → trd enc W n f.type ((cs.drop f.offset).take (Tryz.prog.cellsOf f.type)) = xs[i]?) →
      Rows.uptoBulkAll (xs.map (·.1)) ≤ N → cs.length = off + s.n → ∃ c, TyC N s c ∧ zDr W c (cs.drop off)) := by
  intro s
  induction s with
  | int => exact ⟨fun t n cs x ht h _ => read_int ht h, fun l off n cs xs h => h.elim⟩
  | str => exact ⟨fun t n cs x ht h hk => zH0 ht h hk, fun l off n cs xs h => h.elim⟩
  | sl b e ih =>
    refine ⟨fun t n cs x ht h hk => ?_, fun l off n cs xs h => h.elim⟩
    obtain ⟨u, ht, hu, h0, hb, he⟩ := ht
    rcases DataW.trod_slice ht h with ⟨rfl, _⟩ | ⟨a, len, cap, elems, rest, m, _, rfl, rfl, _, hl, _, hlen, hel, _, _⟩
    · refine ⟨[.list []], ⟨[], rfl, Nat.zero_le _, fun x hx => by cases hx⟩, rfl, fun i h h' => ?_⟩
      have : i = 0 := by simp at h; omega
      subst this
      exact .nil _ _
    · simp only [Rows.uptoBulk] at hk
      obtain ⟨xs, h1, h2, h3⟩ := read_row b hu h0 hb (fun cs x hx hk => ih.1 u m cs x he hx hk) hlen hl (by omega) hel
      refine ⟨[.list xs], ⟨xs, rfl, h1, h2⟩, rfl, fun i h h' => ?_⟩
      have : i = 0 := by simp at h; omega
      subst this
      exact h3
  | st body ih =>
    refine ⟨fun t n cs x ht h hk => ?_, fun l off n cs xs h => h.elim⟩
    obtain ⟨fs, ht, hc, hb⟩ := ht
    obtain ⟨xs, m, _, rfl, hcl, hxl, hf⟩ := DataW.trod_struct ht h
    simp only [Rows.uptoBulk] at hk
    obtain ⟨c, h1, h2⟩ := ih.2 fs.toList 0 m cs xs hb (by simpa using hxl) (fun i f hi => hf i f (by simpa using hi)) (by omega) (by rw [hcl, hc]; simp)
    exact ⟨c, h1, by simpa using h2⟩
  | emp =>
    refine ⟨fun t n cs x ht => ht.elim, fun l off n cs xs h _ _ _ hl => ⟨[], rfl, ?_⟩⟩
    have : cs.drop off = [] := List.drop_eq_nil_of_le (by rw [hl]; exact Nat.le_refl _)
    rw [this]
    exact ⟨rfl, fun i h => by cases h⟩
  | cat a b iha ihb =>
    refine ⟨fun t n cs x ht => ht.elim, fun l off n cs xs h hxl hf hk hl => ?_⟩
    obtain ⟨f, r, rfl, ho, hc, ha, hb⟩ := h
    cases xs with
    | nil => simp at hxl
    | cons y ys =>
      simp only [List.map_cons, Rows.uptoBulkAll] at hk
      have h0 := hf 0 f rfl
      rw [ho, hc] at h0
      obtain ⟨c1, p1, p2⟩ := iha.1 f.type n _ y ha h0 (by omega)
      obtain ⟨c2, q1, q2⟩ := ihb.2 r (off + a.n) n cs ys hb (by simpa using hxl) (fun i g hi => by simpa using hf (i + 1) g (by simpa using hi)) (by omega) (by rw [hl]; simp only [Sh.n]; omega)
      refine ⟨c1 ++ c2, ⟨c1, c2, rfl, p1, q1⟩, ?_⟩
      have e : cs.drop off = (cs.drop off).take a.n ++ cs.drop (off + a.n) := by rw [← List.drop_drop, List.take_append_drop]
      rw [e]
      refine ⟨by rw [List.length_append, List.length_append, p2.1, q2.1], fun i h h' => ?_⟩
      by_cases hi : i < c1.length
      · have hi' := hi
        rw [p2.1] at hi'
        rw [List.getElem_append_left hi, List.getElem_append_left hi']
        exact p2.2 i hi hi'
      · have hi' : ((cs.drop off).take a.n).length ≤ i := by rw [← p2.1]; omega
        rw [List.getElem_append_right (by omega), List.getElem_append_right hi']
        have e1 : i - ((cs.drop off).take a.n).length = i - c1.length := by rw [p2.1]
        have := q2.2 (i - c1.length) (by simp at h; omega) (by rw [← q2.1]; simp at h; omega)
        simpa only [e1] using this
end
end Go.Abs

namespace Go.Abs
open Go Go.Proofs Tryz
attribute [local irreducible] q8 Hold y4
set_option maxRecDepth 10000

theorem sp_within (n a b : Int) : zNV prog 103 [iV n, iV a, iV b] [] (bV (zNX n a b)) [] := by
  refine z9 func103 rfl (fun E hE => ?_); simp only [go_sem, ntmps103]
  repeat' (first | (refine Qr rfl ?_; try intro _ hK; try simp only [go_sem, *]) | (refine Qi rfl rfl rfl rfl ?_ ?_ <;> (intro hb; (try intro _ hK); have hc := hb; try simp only [go_sem] at hc; simp only [go_sem, *])) | refine Qh rfl ?_ | (refine Qc rfl rfl ?_ ?_ <;> (intro hb; have hc := hb; try simp only [go_sem] at hc)) | refine z6 rfl ?_ | ((with_reducible apply And.intro); focus omega) | (refine z5 hK ?_; clear hK; simp only [go_sem, *]) | simp only [z3, z4, go_sem, *])
  all_goals (refine ⟨[_], [], [], ⟨rfl, trivial⟩, ?_⟩; simp only [go_sem, *])
  all_goals (refine I7 ?_; simp [zNX] at *; omega)
theorem sp_Plated (x : Plate) : zNV prog 75 [x.enc] [] (bV x.ok) [] := by
  refine z9 func75 rfl (fun E hE => ?_); simp only [go_sem, ntmps75]
  repeat' (first | (refine Qr rfl ?_; try intro _ hK; try simp only [go_sem, *]) | (refine Qi rfl rfl rfl rfl ?_ ?_ <;> (intro hb; (try intro _ hK); have hc := hb; try simp only [go_sem] at hc; simp only [go_sem, *])) | refine Qh rfl ?_ | (refine Qc rfl rfl ?_ ?_ <;> (intro hb; have hc := hb; try simp only [go_sem] at hc)) | refine z6 rfl ?_ | (refine z8 (sp_within _ _ _) ?_; simp only [go_sem, *]) | ((with_reducible apply And.intro); focus omega) | (refine z5 hK ?_; clear hK; simp only [go_sem, *]) | simp only [z3, z4, go_sem, *])
  all_goals (refine ⟨[_], [], [], ⟨rfl, trivial⟩, ?_⟩; simp only [go_sem, *])
  all_goals simp_all [Plate.ok]
theorem sp_Before (a b : Plate) : zNV prog 76 [a.enc, b.enc] [] (bV (a.lt b)) [] := by
  refine z9 func76 rfl (fun E hE => ?_); simp only [go_sem, ntmps76]
  repeat' (first | (refine Qr rfl ?_; try intro _ hK; try simp only [go_sem, *]) | (refine Qi rfl rfl rfl rfl ?_ ?_ <;> (intro hb; (try intro _ hK); have hc := hb; try simp only [go_sem] at hc; simp only [go_sem, *])) | refine Qh rfl ?_ | (refine Qc rfl rfl ?_ ?_ <;> (intro hb; have hc := hb; try simp only [go_sem] at hc)) | refine z6 rfl ?_ | ((with_reducible apply And.intro); focus omega) | (refine z5 hK ?_; clear hK; simp only [go_sem, *]) | simp only [z3, z4, go_sem, *])
  all_goals (refine ⟨[_], [], [], ⟨rfl, trivial⟩, ?_⟩; simp only [go_sem, *])
  all_goals (refine I7 ?_; rw [Plate.lt_iff]; simp at *; omega)
theorem mod_eq (n m : Int) (h : 0 < m) : n % m = if n.tmod m < 0 then n.tmod m + m else n.tmod m := by
  have h1 := Int.tmod_add_mul_tdiv n m
  have h2 := Int.tmod_lt_of_pos n h
  have h3 := Int.lt_tmod_of_pos n h
  have e : n % m = n.tmod m % m := by
    conv => lhs; rw [← h1]
    rw [Int.add_mul_emod_self_left]
  rw [e]
  split
  · rw [← Int.emod_eq_of_lt (a := n.tmod m + m) (b := m) (by omega) (by omega), Int.add_emod_right]
  · exact Int.emod_eq_of_lt (by omega) h2
theorem sp_Mod (n m : Int) (h : 0 < m) (hm : m ≤ 4294967296) : zNV prog 13 [iV n, iV m] [] (iV (n % m)) [] := by
  have h2 := Int.tmod_lt_of_pos n h
  have h3 := Int.lt_tmod_of_pos n h
  refine z9 func13 rfl (fun E hE => ?_); simp only [go_sem, ntmps13]
  repeat' (first | (refine Qr rfl ?_; try intro _ hK; try simp only [go_sem, *]) | refine Qh rfl ?_ | (refine Qc rfl rfl ?_ ?_ <;> (intro hb; have hc := hb; try simp only [go_sem] at hc)) | refine z6 rfl ?_ | ((with_reducible apply And.intro); focus omega) | (refine z5 hK ?_; clear hK; simp only [go_sem, *]) | simp only [z3, z4, go_sem, *])
  · (refine ⟨[_], [], [], ⟨rfl, trivial⟩, ?_⟩; simp only [go_sem, *])
    rw [mod_eq n m h, if_pos (by assumption), wrap_i64 (by omega) (by omega)]
  · (refine ⟨[_], [], [], ⟨rfl, trivial⟩, ?_⟩; simp only [go_sem, *])
    rw [mod_eq n m h, if_neg (by omega)]

end Go.Abs

namespace Go.Abs
open Go Go.Proofs Go.RowKit
attribute [local irreducible] q8 Hold y4
set_option maxRecDepth 10000
set_option maxHeartbeats 4000000

theorem sp_Write_err (p : zNU) (hl : p.length ≤ 4294967296) (h : ¬ check p = 0) : zNV Tryz.prog 10 [y3 p] [] (.tup [sV [], iV (check p)]) [] := by
  have sc := i9 p hl
  generalize check p = e at *
  refine z9 Tryz.func10 rfl (fun E hE => ?_); simp only [go_sem, Tryz.ntmps10]
  repeat' (first | (refine Qr rfl ?_; try intro _ hK; try simp only [go_sem, *]) | refine Qh rfl ?_ | (refine Qc rfl rfl ?_ ?_ <;> (intro hb; have hc := hb; try simp only [go_sem] at hc)) | refine z6 rfl ?_ | (refine z8 (sc) ?_; simp only [go_sem, *]) | ((with_reducible apply And.intro); focus omega) | (refine z5 hK ?_; clear hK; simp only [go_sem, *]) | simp only [z3, z4, go_sem, *])
  all_goals first | contradiction | omega | skip
  (refine ⟨[_, _], [], [], ⟨rfl, rfl, trivial⟩, ?_⟩; simp only [go_sem, *])
end Go.Abs

namespace Go.Abs
open Go Go.Proofs Go.Proofs.YtcbpjojhfgadlaaGreatDoor Go.ChangeShapes Go.WideShapes Go.ChangeAt Go.RowKit
set_option maxRecDepth 100000

theorem okWide_struct {P : Program} {w : World} {r : Reach} {base : Nat} {t : TypeId} {v : Value} {fs : Array Field} (ht : P.underlying t = some (.struct fs)) (h : Value.okWide P w r base t v) : ∃ cs, v = .agg cs := by
  simp only [Value.okWide, ht] at h
  cases v <;> simp_all
theorem PR_struct {H : Type} {enc : TypeId × Value → H} {W : World} {N : Nat} {v : Value} {d : DataW H} {ps : List MemPlace} (b : Sh) (t : TypeId) (hs : (Sh.st b).ok (.inl t)) (hval : Value.okWide Tryz.prog W .any 0 t v ∨ ∃ base, Value.okWide Tryz.prog W .any base t v)
    (h : DataW.Trod enc Tryz.prog W 0 (fun _ => true) true t v d ps) (hk : Rows.uptoBulk d ≤ N) : ∃ c, TyC N b c ∧ PR W (zOC W) (.agg c) v := by
  obtain ⟨cs, rfl⟩ : ∃ cs, v = .agg cs := by
    obtain ⟨fs, ht, _⟩ := hs
    rcases hval with hval | ⟨base, hval⟩
    · exact okWide_struct ht hval
    · exact okWide_struct ht hval
  obtain ⟨fuel, hf⟩ := h
  obtain ⟨c, h1, h2⟩ := (read_all (.st b)).1 t fuel _ _ hs hf hk
  refine ⟨c, h1, .agg c cs (by simpa [Value.cells] using h2.1) (fun i hi hi' => ?_)⟩
  have := h2.2 i hi (by simpa [Value.cells] using hi')
  simpa [Value.cells] using this
theorem PR_int {H : Type} {enc : TypeId × Value → H} {W : World} {v : Value} {d : DataW H} {ps : List MemPlace} (hval : Value.okWide Tryz.prog W .any 0 3 v ∨ ∃ base, Value.okWide Tryz.prog W .any base 3 v)
    (h : DataW.Trod enc Tryz.prog W 0 (fun _ => true) true 3 v d ps) (_ : Rows.uptoBulk d ≤ 1048576) : ∃ n : Int, PR W (zOC W) (iV n) v ∧ (Lit.int .i64 n).wf = true := by
  have : ∃ n, v = .int .i64 n ∧ (Lit.int .i64 n).wf = true := by
    rcases hval with hval | ⟨base, hval⟩
    · obtain ⟨n, h1, _, _, h2⟩ := open_int Tryz.underlying3 hval h; exact ⟨n, h1, h2⟩
    · obtain ⟨n, h1, _, _, h2⟩ := open_int Tryz.underlying3 hval h; exact ⟨n, h1, h2⟩
  obtain ⟨n, rfl, hw⟩ := this
  exact ⟨n, .raw _ rfl, hw⟩
theorem PR_byte {H : Type} {enc : TypeId × Value → H} {W : World} {v : Value} {d : DataW H} {ps : List MemPlace} (hval : Value.okWide Tryz.prog W .any 0 5 v ∨ ∃ base, Value.okWide Tryz.prog W .any base 5 v)
    (h : DataW.Trod enc Tryz.prog W 0 (fun _ => true) true 5 v d ps) (_ : Rows.uptoBulk d ≤ 1048576) : ∃ n : Int, PR W (zOC W) (.raw (.int .u8 n)) v ∧ (Lit.int .u8 n).wf = true := by
  have : ∃ n, v = .int .u8 n ∧ (Lit.int .u8 n).wf = true := by
    rcases hval with hval | ⟨base, hval⟩
    · obtain ⟨n, h1, _, _, h2⟩ := open_int Tryz.underlying5 hval h; exact ⟨n, h1, h2⟩
    · obtain ⟨n, h1, _, _, h2⟩ := open_int Tryz.underlying5 hval h; exact ⟨n, h1, h2⟩
  obtain ⟨n, rfl, hw⟩ := this
  exact ⟨n, .raw _ rfl, hw⟩
theorem plan_of {N : Nat} {c : List AV} (h : TyC N zKC c) : ∃ p : zNU, AV.agg c = y3 p ∧ PlanB N p := by
  obtain ⟨c1, c2, rfl, ⟨xs, rfl, hl, hx⟩, h4⟩ := h
  cases (show c2 = [] from h4)
  obtain ⟨p, rfl, w⟩ := zGy (f := q9) (q := fun l => l.length ≤ N ∧ ∀ x, x ∈ l → x.Wf) (xs := xs) (fun x hm => by
    obtain ⟨d, hd, rfl⟩ := hx x hm
    obtain ⟨l, rfl, hl, wl⟩ := row_of hd
    exact ⟨l, rfl, hl, wl⟩)
  exact ⟨p, rfl, ⟨by simpa using hl, fun l hl => (w l hl).1, fun l hl => (w l hl).2⟩⟩
end Go.Abs

namespace Go.Abs
open Go Go.Proofs Go.Proofs.YtcbpjojhfgadlaaGreatDoor Go.ChangeShapes Go.WideShapes Go.ChangeAt Go.RowKit
set_option maxRecDepth 100000

noncomputable def Sh.okC : Sh → TypeId ⊕ (List Field × Nat) → Bool
 | .int, .inl t => match Tryz.prog.underlying t with
  | some (.int .i64) => true
  | _ => false
 | .str, .inl t => match Tryz.prog.underlying t with
  | some .string => true
  | _ => false
 | .sl b e, .inl t => match Tryz.prog.underlying t with
  | some (.slice u) => Tryz.prog.cellsOf u == e.n && (decide (0 < e.n) && ((!b || e.n == 1) && e.okC (.inl u)))
  | _ => false
 | .st b, .inl t => match Tryz.prog.underlying t with
  | some (.struct fs) => Tryz.prog.cellsOf t == b.n && b.okC (.inr (fs.toList, 0))
  | _ => false
 | .emp, .inr (l, _) => l.isEmpty
 | .cat x y, .inr (l, off) => match l with
  | f :: r => f.offset == off && (Tryz.prog.cellsOf f.type == x.n && (x.okC (.inl f.type) && y.okC (.inr (r, off + x.n))))
  | [] => false
 | _, _ => false
theorem Sh.ok_ofC : ∀ (s : Sh) (z : TypeId ⊕ (List Field × Nat)), s.okC z = true → s.ok z
 | .int, .inl t, h => by
  simp only [Sh.okC] at h
  split at h
  ·assumption
  ·cases h
 | .str, .inl t, h => by
  simp only [Sh.okC] at h
  split at h
  ·assumption
  ·cases h
 | .sl b e, .inl t, h => by
  simp only [Sh.okC] at h
  split at h
  ·rename_i u hu
   simp only [Bool.and_eq_true, beq_iff_eq, decide_eq_true_eq, Bool.or_eq_true, Bool.not_eq_true'] at h
   exact ⟨u, hu, h.1, h.2.1, fun hb => h.2.2.1.resolve_left (by rw [hb]; decide), Sh.ok_ofC e _ h.2.2.2⟩
  ·cases h
 | .st b, .inl t, h => by
  simp only [Sh.okC] at h
  split at h
  ·rename_i fs hu
   simp only [Bool.and_eq_true, beq_iff_eq] at h
   exact ⟨fs, hu, h.1, Sh.ok_ofC b _ h.2⟩
  ·cases h
 | .emp, .inr (l, off), h => by
  simp only [Sh.okC, List.isEmpty_iff] at h
  exact h
 | .cat x y, .inr (l, off), h => by
  simp only [Sh.okC] at h
  split at h
  ·rename_i f r
   simp only [Bool.and_eq_true, beq_iff_eq] at h
   exact ⟨f, r, rfl, h.1, h.2.1, Sh.ok_ofC x _ h.2.2.1, Sh.ok_ofC y _ h.2.2.2⟩
  ·cases h
 | .int, .inr _, h => by simp [Sh.okC] at h
 | .str, .inr _, h => by simp [Sh.okC] at h
 | .sl _ _, .inr _, h => by simp [Sh.okC] at h
 | .st _, .inr _, h => by simp [Sh.okC] at h
 | .emp, .inl _, h => by simp [Sh.okC] at h
 | .cat _ _, .inl _, h => by simp [Sh.okC] at h
theorem plan_okC : (Sh.st zKC).ok (.inl 24) := Sh.ok_ofC _ _ (by kernel_rfl)
theorem PR_planC {H : Type} {enc : TypeId × Value → H} {W : World} {v : Value} {d : DataW H} {ps : List MemPlace} (hval : Value.okWide Tryz.prog W .any 0 24 v ∨ ∃ base, Value.okWide Tryz.prog W .any base 24 v)
  (h : DataW.Trod enc Tryz.prog W 0 (fun _ => true) true 24 v d ps) (hk : Rows.uptoBulk d ≤ 1048576) : ∃ p : zNU, PR W (zOC W) (y3 p) v ∧ PlanB 1048576 p := by
 obtain ⟨c, h1, h2⟩ := PR_struct zKC _ plan_okC hval h hk
 obtain ⟨p, e, h3⟩ := plan_of h1
 exact ⟨p, by rw [← e]; exact h2, h3⟩
end Go.Abs

namespace Go.Abs
open Go Go.Proofs Tryz
attribute [local irreducible] q8 Hold y4
set_option maxRecDepth 10000

theorem sp_rCheck (p : zNU) (h1 : p.length ≤ 4294967296) : zNV prog 50 [y3 p] [] (iV (check p)) [] := by
  have e0 : p.length = 0 → check p = 7 := fun h => by unfold check; rw [if_pos h]
  have e1 : ¬ p.length = 0 → 3 < p.length → check p = 6 := fun h h' => by unfold check; rw [if_neg h, if_pos h']
  have e2 : ¬ p.length = 0 → ¬ 3 < p.length → check p = j7 p := fun h h' => by unfold check; rw [if_neg h, if_neg h']
  refine z9 func50 rfl (fun E hE => ?_); simp only [go_sem, ntmps50]
  repeat' (first | (refine Qr rfl ?_; try intro _ hK; try simp only [go_sem, *]) | (refine Qi rfl rfl rfl rfl ?_ ?_ <;> (intro hb; (try intro _ hK); have hc := hb; try simp only [go_sem] at hc; simp only [go_sem, *])) | refine Qh rfl ?_ | refine Qd rfl (by kernel_rfl) ?_ | (refine Qc rfl rfl ?_ ?_ <;> (intro hb; have hc := hb; try simp only [go_sem] at hc)) | refine z6 rfl ?_ | (refine Qb ?_ ?_; focus kernel_rfl) | ((with_reducible apply And.intro); focus omega) | (refine z5 hK ?_; clear hK; simp only [go_sem, *]) | simp only [z3, z4, go_sem, *])
  · (refine ⟨[_], [], [], ⟨rfl, trivial⟩, ?_⟩; simp only [go_sem, *])
    rw [e0 (by omega)]
  · (refine ⟨[_], [], [], ⟨rfl, trivial⟩, ?_⟩; simp only [go_sem, *])
    rw [e1 (by omega) (by omega)]
  · have e3 := e2 (by omega) (by omega)
    clear e0 e1 e2
    refine v5 rfl (p.length) (fun i => j7 (p.drop i) = j7 p) 56 (fun i => [(3, iV i), (1, .ptr 0 0)]) (fun i => [.box [.list (p.map q9)]]) [some 0] [] (by simp) ?_; intro i hi hP
    repeat' (first | (refine Qr rfl ?_; try intro _ hK; try simp only [go_sem, *]) | (refine Qi rfl rfl rfl rfl ?_ ?_ <;> (intro hb; (try intro _ hK); have hc := hb; try simp only [go_sem] at hc; simp only [go_sem, *])) | refine Qh rfl ?_ | refine Qd rfl (by kernel_rfl) ?_ | (refine Qc rfl rfl ?_ ?_ <;> (intro hb; have hc := hb; try simp only [go_sem] at hc)) | refine z6 rfl ?_ | (refine Qb ?_ ?_; focus kernel_rfl) | ((with_reducible apply And.intro); focus omega) | (refine z5 hK ?_; clear hK; simp only [go_sem, *]) | simp only [z3, z4, go_sem, *])
    · (refine ⟨[_], [], [], ⟨rfl, trivial⟩, ?_⟩; simp only [go_sem, *])
      rw [← hP, zCt (by omega), if_pos (by omega)]
    · have hl : (p.getD i default).length ≤ 8 := by omega
      have hi' : i < p.length := by omega
      rw [zCt hi', if_neg (by omega)] at hP
      generalize hll : p.getD i default = l at *
      refine v5 rfl (l.length) (fun k => s8 (O2 l k) (l.drop k) = s8 none l) 56 (fun k => [(5, iV k), (4, q9 l), (3, iV i), (1, .ptr 0 0)]) (fun k => [.box [.list (p.map q9)]]) [some 0] [] (by simp [O2]) ?_; intro k hk hK
      have hw : 0 < k → IntKind.i64.wrap ((k : Int) - 1) = ((k - 1 : Nat) : Int) := fun h => by rw [wrap_i64 (by omega) (by omega)]; omega
      have hk1 : k < l.length → k - 1 < l.length := fun h => by omega
      have hstep : ∀ h : k < l.length, _ := fun h => zEm h (O2 l k) rfl
      repeat' (first | (refine Qr rfl ?_; try intro _ hK; try simp only [go_sem, *]) | (refine Qi rfl rfl rfl rfl ?_ ?_ <;> (intro hb; (try intro _ hK); have hc := hb; try simp only [go_sem] at hc; simp only [go_sem, *])) | refine Qh rfl ?_ | refine Qd rfl (by kernel_rfl) ?_ | (refine Qc rfl rfl ?_ ?_ <;> (intro hb; have hc := hb; try simp only [go_sem] at hc)) | refine z6 rfl ?_ | (refine Qb ?_ ?_; focus kernel_rfl) | ((first | refine z8 (sp_Plated _) ?_ | refine z8 (sp_Before _ _) ?_); simp only [go_sem, *]) | ((with_reducible apply And.intro); focus omega) | (refine z5 hK ?_; clear hK; simp only [go_sem, *]) | simp only [z3, z4, go_sem, *])
      · (refine ⟨[_], [], [], ⟨rfl, trivial⟩, ?_⟩; simp only [go_sem, *])
        rw [hstep (by omega), if_neg (by simp_all)] at hK
        rw [← hK, if_neg (by omega)] at hP
        rw [← hP]
      · (refine ⟨[_], [], [], ⟨rfl, trivial⟩, ?_⟩; simp only [go_sem, *])
        rw [hstep (by omega), if_pos (by assumption), if_neg (by intro h; rcases h with h | h; · omega
                                                                 · simp_all)] at hK
        rw [← hK, if_neg (by omega)] at hP
        rw [← hP]
      · exact v4 (i' := k + 1) [some 0] [] (by rw [← hK, hstep (by omega), if_pos (by assumption), if_pos (.inr (by assumption)), zCi])
      · exact v4 (i' := k + 1) [some 0] [] (by rw [← hK, hstep (by omega), if_pos (by assumption), if_pos (.inl (by omega)), zCi])
      · rw [u0 (by omega)] at hK
        have h0 : s8 none l = 0 := by rw [← hK]; cases O2 l k <;> rfl
        rw [if_pos h0] at hP
        exact v4 (i' := i + 1) [some 0] [] (by exact hP)
    · (refine ⟨[_], [], [], ⟨rfl, trivial⟩, ?_⟩; simp only [go_sem, *])
      rw [← hP, u0 (by omega), j7]
end Go.Abs

namespace Go.Abs
open Go
def stRS : Nat → Nat
 | 2 => 3
 | 3 => 4
 | 4 => 5
 | 5 => 2
 | n => n
def stepRS (was st : Nat) (c : UInt8) (a : zNU × Plate) : zNU × Plate :=
 if st = 1 then (a.1 ++ [[]], a.2)
 else if st = 3 then (a.1, ⟨(c.toNat : Int) - 48, 0⟩)
 else if st = 4 then (a.1, ⟨10 * a.2.number + ((c.toNat : Int) - 48), a.2.letter⟩)
 else if st = 5 then (a.1, ⟨a.2.number, (c.toNat : Int) - 97 + 1⟩)
 else if st = 2 ∨ st = 6 then (if was ≠ 1 then (d8 (· ++ [a.2]) a.1, a.2) else a)
 else a
def parseRS : Nat → zNU × Plate → Nat → Str → zNU ⊕ Nat
 | st, a, i, [] => if st = 7 then .inl a.1 else .inr i
 | st, a, i, c :: r => if v2 st c = 8 then .inr i else parseRS (v2 st c) (stepRS st (v2 st c) c a) (i + 1) r
def SameS (st : Nat) (a : zNU × Plate) (p : zNU) : Prop :=
 if st = 3 ∨ st = 4 ∨ st = 5 then ∃ q l, a.1 = q ++ [l] ∧ p = q ++ [l ++ [a.2]]
 else a.1 = p ∧ (st = 1 ∨ st = 2 → ∃ q l, p = q ++ [l])
theorem sameS_next {st : Nat} {a : zNU × Plate} {p : zNU} {c : UInt8} (hg : SameS st a p) (hn : v2 st c ≠ 8) :
  SameS (v2 st c) (stepRS st (v2 st c) c a) (u5 (v2 st c) c p) := by
 obtain ⟨a, x⟩ := a
 rcases zHH st c with h | ⟨h, hs, hc⟩ | ⟨h, hs, hc⟩ | ⟨h, hs, hd, h0⟩ | ⟨h, hs, hd⟩ | ⟨h, hs, hm⟩ | ⟨h, hs, hc⟩ | ⟨h, hs, hc⟩
 ·exact absurd h hn
 ·rw [h]
  unfold SameS at hg ⊢
  rw [if_neg (by omega)] at hg ⊢
  obtain ⟨e, -⟩ := hg
  dsimp only at e
  rw [e]
  exact ⟨rfl, fun _ => ⟨p, [], rfl⟩⟩
 ·rw [h]
  unfold SameS at hg ⊢
  rw [if_neg (by omega)] at hg ⊢
  exact ⟨hg.1, fun h => by omega⟩
 ·rw [h]
  unfold SameS at hg ⊢
  rw [if_neg (by omega)] at hg
  rw [if_pos (by omega)]
  obtain ⟨e, k⟩ := hg
  obtain ⟨q, l, rfl⟩ := k hs
  refine ⟨q, l, e, ?_⟩
  exact d9 _ _ _
 ·rw [h]
  unfold SameS at hg ⊢
  rw [if_pos (by omega)] at hg ⊢
  obtain ⟨q, l, e, rfl⟩ := hg
  refine ⟨q, l, e, ?_⟩
  have : u5 4 c (q ++ [l ++ [x]]) = d8 (X1 fun x => ⟨10 * x.number + ((c.toNat : Int) - 48), x.letter⟩) (q ++ [l ++ [x]]) := rfl
  dsimp only
  rw [this, d9, U4]; rfl
 ·rw [h]
  unfold SameS at hg ⊢
  rw [if_pos (by omega)] at hg ⊢
  obtain ⟨q, l, e, rfl⟩ := hg
  refine ⟨q, l, e, ?_⟩
  have : u5 5 c (q ++ [l ++ [x]]) = d8 (X1 fun x => ⟨x.number, (c.toNat : Int) - 97 + 1⟩) (q ++ [l ++ [x]]) := rfl
  dsimp only
  rw [this, d9, U4]; rfl
 ·rw [h]
  unfold SameS at hg ⊢
  rw [if_pos (by omega)] at hg
  rw [if_neg (by omega)]
  obtain ⟨q, l, e, rfl⟩ := hg
  dsimp only at e
  have : stepRS st 2 c (a, x) = (d8 (· ++ [x]) a, x) := by
   unfold stepRS
   simp; omega
  rw [this, e, d9]
  exact ⟨rfl, fun _ => ⟨q, l ++ [x], rfl⟩⟩
 ·rw [h]
  unfold SameS at hg ⊢
  rw [if_neg (show ¬ (6 = 3 ∨ 6 = 4 ∨ 6 = 5) by omega)]
  refine ⟨?_, fun h => by omega⟩
  rcases hs with rfl | hs
  ·rw [if_neg (by omega)] at hg
   exact hg.1
  ·rw [if_pos (by omega)] at hg
   obtain ⟨q, l, e, rfl⟩ := hg
   dsimp only at e
   have : stepRS st 6 c (a, x) = (d8 (· ++ [x]) a, x) := by
    unfold stepRS
    simp; omega
   rw [this, e, d9]; rfl
theorem parse_same : ∀ (t : Str) (st : Nat) (a : zNU × Plate) (p : zNU) (i : Nat), SameS st a p → parseRS st a i t = y9 st p i t
 | [], st, a, p, i, h => by
  rw [parseRS, y9]
  by_cases h7 : st = 7
  ·rw [if_pos h7, if_pos h7]
   unfold SameS at h
   rw [if_neg (by omega)] at h
   rw [h.1]
  ·rw [if_neg h7, if_neg h7]
 | c :: t, st, a, p, i, h => by
  rw [parseRS, y9]
  by_cases h8 : v2 st c = 8
  ·rw [if_pos h8, if_pos h8]
  ·rw [if_neg h8, if_neg h8]
   exact parse_same t _ _ _ _ (sameS_next h h8)
theorem parseR_S (t : Str) (x : Plate) : parseRS 0 ([], x) 0 t = y9 0 [] 0 t :=
 parse_same t 0 _ _ 0 ⟨rfl, fun h => by omega⟩
end Go.Abs

namespace Go.Abs
open Go Go.Proofs Go.RowKit
set_option maxRecDepth 10000
set_option maxHeartbeats 8000000

def refSt : Nat → Nat
 | 3 => 2
 | 4 => 3
 | 5 => 4
 | 2 => 5
 | n => n
end Go.Abs

