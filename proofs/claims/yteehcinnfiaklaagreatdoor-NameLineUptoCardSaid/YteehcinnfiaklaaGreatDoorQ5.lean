/-
  WHAT THE PROOF STANDS ON, PART 5: contracts of the program's functions and the logic that they are proved in. No condition.
-/
import Derived.Test.YteehcinnfiaklaaGreatDoorQ4
set_option maxRecDepth 100000
set_option maxHeartbeats 4000000
set_option linter.unusedVariables false
set_option linter.unusedSimpArgs false
set_option linter.unusedSectionVars false
namespace Go.Abs
open Go Go.Proofs Tryz
attribute [local irreducible] y3 Hold y7
theorem zNC {a b : Str} (va : ValidN a) (vb : ValidN b) : zLn prog 48 [sV a, sV b] [] (.tup [iV (w3 a b), iV 0]) [] := by
 have e : R3 a b = 0 := by unfold R3; rw [zAH, if_pos va.check, vb.check]
 have s := zLW a b
 rw [e, if_pos rfl] at s
 exact s
theorem zNG (l : List Str) (hl : l.length = 3) (hv : ∀ x, x ∈ l → ValidN x) (E : Env) (hE : E.n = 0) :
    Hold prog E (sub [0, 1, 1, 1, 1] (X8 Tryz.f11)) (z7 (Hold prog E (sub [1, 1, 1, 1, 1] (X8 Tryz.f11)) fun e σ' => (e = .normal ∨ e = .ret) ∧ I5 prog Tryz.f11 0 (bV true) [] σ') fun e σ' => (e = .normal ∨ e = .ret) ∧ I5 prog Tryz.f11 0 (bV true) [] σ') ⟨220, [(4, y4 l)], zLu 0 []⟩ := by
  have sS := zHt
  repeat' (first | (refine Qr rfl ?_; try intro _ hK; try simp only [go_sem, *]) | (refine Qi rfl rfl rfl rfl ?_ ?_ <;> (intro hb; (try intro _ hK); have hc := hb; try simp only [go_sem] at hc; simp only [go_sem, *])) | refine Qh rfl ?_ | refine Qd rfl (by kernel_rfl) ?_ | (refine Qc rfl rfl ?_ ?_ <;> (intro hb; have hc := hb; try simp only [go_sem] at hc)) | refine q6 rfl ?_ | (refine Qb ?_ ?_; focus kernel_rfl) | ((with_reducible apply And.intro); focus omega) | (refine z8 hK ?_; clear hK; simp only [go_sem, *]) | simp only [z7, z6, go_sem, *])
  refine p8 rfl (3) (fun i => NoQ i) 220 (fun i => [(7, iV i), (4, y4 l)]) (fun i => []) [] [] (by trivial) ?_; intro i hi hP
  by_cases hi2 : i < 3
  · have vi := hv _ (l4 (i := i) (l := l) (by omega))
    have hii : (i : Int) < 3 := by omega
    have hil : i < l.length := by omega
    have ki := zCc vi
    have sl := zLb (l.getD i default) vi.ne
    have hwi : IntKind.i64.wrap ((i : Int) + 1) = ((i + 1 : Nat) : Int) := r6 (by omega)
    clear sS
    repeat' (first | (refine Qr rfl ?_; try intro _ hK; try simp only [go_sem, *]) | (refine Qi rfl rfl rfl rfl ?_ ?_ <;> (intro hb; (try intro _ hK); have hc := hb; try simp only [go_sem] at hc; simp only [go_sem, *])) | refine Qh rfl ?_ | refine Qd rfl (by kernel_rfl) ?_ | (refine Qc rfl rfl ?_ ?_ <;> (intro hb; have hc := hb; try simp only [go_sem] at hc)) | refine q6 rfl ?_ | (refine Qb ?_ ?_; focus kernel_rfl) | ((with_reducible apply And.intro); focus omega) | (refine z8 hK ?_; clear hK; simp only [go_sem, *]) | simp only [z7, z6, go_sem, *])
    all_goals try contradiction
    refine p8 rfl (3) (fun k => NoQ k) 220 (fun k => [(8, iV k), (7, iV i), (4, y4 l)]) (fun k => []) [] [] (by trivial) ?_; intro k hk hQ
    by_cases hk2 : k < 3
    · have vk := hv _ (l4 (i := k) (l := l) (by omega))
      have hki : (k : Int) < 3 := by omega
      have hkl : k < l.length := by omega
      have kk := zCc vk
      have hwk : IntKind.i64.wrap ((k : Int) + 1) = ((k + 1 : Nat) : Int) := r6 (by omega)
      have u1 := zNC vi vk
      have u2 := zNC vk vi
      rw [D8 (l.getD i default) (l.getD k default)] at u2
      have hz := zJP vi vk
      have hlt : w7 (zLm (l.getD i default)) (zLm (l.getD k default)) = true → w3 (l.getD i default) (l.getD k default) = -1 := zJR
      have hlat : zLm (l.getD i default) = zLm (l.getD k default) → w3 (l.getD i default) (l.getD k default) = -1 → y6 ((l.getD i default).getD 0 0) = true := zJQ vi vk
      have hr := zJO (l.getD i default) (l.getD k default)
      have hself : zLm (l.getD i default) = zLm (l.getD k default) → w7 (zLm (l.getD i default)) (zLm (l.getD k default)) = false := fun e => by rw [e]; exact zAc _
      rcases (by omega : w3 (l.getD i default) (l.getD k default) = 0 ∨ w3 (l.getD i default) (l.getD k default) = -1 ∨ w3 (l.getD i default) (l.getD k default) = 1) with hn | hn | hn
      · have hab := hz.1 hn
        rw [hn] at u1 u2
        have hs := hself (by rw [hab])
        have hke : zLm (l.getD k default) = zLm (l.getD i default) := by rw [hab]
        rw [hke] at kk hs
        generalize zLm (l.getD i default) = ka at *
        have hb1 : (l.getD i default == l.getD k default) = true := by simpa using hab
        clear hab hke hz hlt hlat hself hr
        repeat' (first | (refine Qr rfl ?_; try intro _ hK; try simp only [go_sem, *]) | (refine Qi rfl rfl rfl rfl ?_ ?_ <;> (intro hb; (try intro _ hK); have hc := hb; try simp only [go_sem] at hc; simp only [go_sem, *])) | refine Qh rfl ?_ | refine Qd rfl (by kernel_rfl) ?_ | (refine Qc rfl rfl ?_ ?_ <;> (intro hb; have hc := hb; try simp only [go_sem] at hc)) | refine q6 rfl ?_ | (refine Qb ?_ ?_; focus kernel_rfl) | (refine y8 (u1) ?_ ?_; (focus (simp only [go_sem, *]; done)); simp only [go_sem, *]) | (refine y8 (u2) ?_ ?_; (focus (simp only [go_sem, *]; done)); simp only [go_sem, *]) | (refine y8 (ki) ?_ ?_; (focus (simp only [go_sem, *]; done)); simp only [go_sem, *]) | (refine y8 (kk) ?_ ?_; (focus (simp only [go_sem, *]; done)); simp only [go_sem, *]) | (refine y8 (sl) ?_ ?_; (focus (simp only [go_sem, *]; done)); simp only [go_sem, *]) | ((with_reducible apply And.intro); focus omega) | (refine z8 hK ?_; clear hK; simp only [go_sem, *]) | simp only [z7, z6, go_sem, *])
        all_goals try contradiction
        refine p8 rfl (3) (fun j => NoQ j) 220 (fun j => [(17, iV j), (9, iV 0), (8, iV k), (7, iV i), (4, y4 l)]) (fun j => []) [] [] (by trivial) ?_; intro j hj hR
        by_cases hj2 : j < 3
        · have vj := hv _ (l4 (i := j) (l := l) (by omega))
          have hji : (j : Int) < 3 := by omega
          have hjl : j < l.length := by omega
          have hwj : IntKind.i64.wrap ((j : Int) + 1) = ((j + 1 : Nat) : Int) := r6 (by omega)
          have u3 := zNC vk vj
          have u4 := zNC vi vj
          have hyt : True := trivial
          generalize w3 (l.getD k default) (l.getD j default) = y1 at *
          generalize w3 (l.getD i default) (l.getD j default) = y2 at *
          clear hyt
          repeat' (first | (refine Qr rfl ?_; try intro _ hK; try simp only [go_sem, *]) | (refine Qi rfl rfl rfl rfl ?_ ?_ <;> (intro hb; (try intro _ hK); have hc := hb; try simp only [go_sem] at hc; simp only [go_sem, *])) | refine Qh rfl ?_ | refine Qd rfl (by kernel_rfl) ?_ | (refine Qc rfl rfl ?_ ?_ <;> (intro hb; have hc := hb; try simp only [go_sem] at hc)) | refine q6 rfl ?_ | (refine Qb ?_ ?_; focus kernel_rfl) | (refine y8 (u3) ?_ ?_; (focus (simp only [go_sem, *]; done)); simp only [go_sem, *]) | (refine y8 (u4) ?_ ?_; (focus (simp only [go_sem, *]; done)); simp only [go_sem, *]) | ((with_reducible apply And.intro); focus omega) | (refine z8 hK ?_; clear hK; simp only [go_sem, *]) | simp only [z7, z6, go_sem, *])
          all_goals try contradiction
          exact p9 (i' := j + 1) [] [] (by trivial)
        · have hji : ¬ (j : Int) < 3 := by omega
          repeat' (first | (refine Qr rfl ?_; try intro _ hK; try simp only [go_sem, *]) | (refine Qi rfl rfl rfl rfl ?_ ?_ <;> (intro hb; (try intro _ hK); have hc := hb; try simp only [go_sem] at hc; simp only [go_sem, *])) | refine Qh rfl ?_ | refine Qd rfl (by kernel_rfl) ?_ | (refine Qc rfl rfl ?_ ?_ <;> (intro hb; have hc := hb; try simp only [go_sem] at hc)) | refine q6 rfl ?_ | (refine Qb ?_ ?_; focus kernel_rfl) | ((with_reducible apply And.intro); focus omega) | (refine z8 hK ?_; clear hK; simp only [go_sem, *]) | simp only [z7, z6, go_sem, *])
          all_goals try contradiction
          exact p9 (i' := k + 1) [] [] (by trivial)
      · have hneg : w3 (l.getD i default) (l.getD k default) < 0 := by omega
        have hb1 : (l.getD i default == l.getD k default) = false := by
          have : ¬ l.getD i default = l.getD k default := fun e => by have := hz.2 e; omega
          simpa using this
        rw [hn] at u1 u2
        by_cases hkk : zLm (l.getD i default) = zLm (l.getD k default)
        · have hs := hself hkk
          have hla := hlat hkk hn
          rw [← hkk] at kk hs
          rw [hla] at sl
          generalize zLm (l.getD i default) = ka at *
          clear hkk hz hlt hlat hself hr hn
          repeat' (first | (refine Qr rfl ?_; try intro _ hK; try simp only [go_sem, *]) | (refine Qi rfl rfl rfl rfl ?_ ?_ <;> (intro hb; (try intro _ hK); have hc := hb; try simp only [go_sem] at hc; simp only [go_sem, *])) | refine Qh rfl ?_ | refine Qd rfl (by kernel_rfl) ?_ | (refine Qc rfl rfl ?_ ?_ <;> (intro hb; have hc := hb; try simp only [go_sem] at hc)) | refine q6 rfl ?_ | (refine Qb ?_ ?_; focus kernel_rfl) | (refine y8 (u1) ?_ ?_; (focus (simp only [go_sem, *]; done)); simp only [go_sem, *]) | (refine y8 (u2) ?_ ?_; (focus (simp only [go_sem, *]; done)); simp only [go_sem, *]) | (refine y8 (ki) ?_ ?_; (focus (simp only [go_sem, *]; done)); simp only [go_sem, *]) | (refine y8 (kk) ?_ ?_; (focus (simp only [go_sem, *]; done)); simp only [go_sem, *]) | (refine y8 (sl) ?_ ?_; (focus (simp only [go_sem, *]; done)); simp only [go_sem, *]) | ((with_reducible apply And.intro); focus omega) | (refine z8 hK ?_; clear hK; simp only [go_sem, *]) | simp only [z7, z6, go_sem, *])
          all_goals try contradiction
          refine p8 rfl (3) (fun j => NoQ j) 220 (fun j => [(17, iV j), (9, iV (-1)), (8, iV k), (7, iV i), (4, y4 l)]) (fun j => []) [] [] (by trivial) ?_; intro j hj hR
          by_cases hj2 : j < 3
          · have vj := hv _ (l4 (i := j) (l := l) (by omega))
            have hji : (j : Int) < 3 := by omega
            have hjl : j < l.length := by omega
            have hwj : IntKind.i64.wrap ((j : Int) + 1) = ((j + 1 : Nat) : Int) := r6 (by omega)
            have u3 := zNC vk vj
            have u4 := zNC vi vj
            have hyt : w3 (l.getD k default) (l.getD j default) < 0 → w3 (l.getD i default) (l.getD j default) < 0 := fun h => zJS hneg h
            generalize w3 (l.getD k default) (l.getD j default) = y1 at *
            generalize w3 (l.getD i default) (l.getD j default) = y2 at *
            by_cases hy1 : y1 < 0
            · have hy2 : ¬ y2 ≥ 0 := by have := hyt hy1; omega
              clear hyt
              repeat' (first | (refine Qr rfl ?_; try intro _ hK; try simp only [go_sem, *]) | (refine Qi rfl rfl rfl rfl ?_ ?_ <;> (intro hb; (try intro _ hK); have hc := hb; try simp only [go_sem] at hc; simp only [go_sem, *])) | refine Qh rfl ?_ | refine Qd rfl (by kernel_rfl) ?_ | (refine Qc rfl rfl ?_ ?_ <;> (intro hb; have hc := hb; try simp only [go_sem] at hc)) | refine q6 rfl ?_ | (refine Qb ?_ ?_; focus kernel_rfl) | (refine y8 (u3) ?_ ?_; (focus (simp only [go_sem, *]; done)); simp only [go_sem, *]) | (refine y8 (u4) ?_ ?_; (focus (simp only [go_sem, *]; done)); simp only [go_sem, *]) | ((with_reducible apply And.intro); focus omega) | (refine z8 hK ?_; clear hK; simp only [go_sem, *]) | simp only [z7, z6, go_sem, *])
              all_goals try contradiction
              exact p9 (i' := j + 1) [] [] (by trivial)
            · clear hyt
              repeat' (first | (refine Qr rfl ?_; try intro _ hK; try simp only [go_sem, *]) | (refine Qi rfl rfl rfl rfl ?_ ?_ <;> (intro hb; (try intro _ hK); have hc := hb; try simp only [go_sem] at hc; simp only [go_sem, *])) | refine Qh rfl ?_ | refine Qd rfl (by kernel_rfl) ?_ | (refine Qc rfl rfl ?_ ?_ <;> (intro hb; have hc := hb; try simp only [go_sem] at hc)) | refine q6 rfl ?_ | (refine Qb ?_ ?_; focus kernel_rfl) | (refine y8 (u3) ?_ ?_; (focus (simp only [go_sem, *]; done)); simp only [go_sem, *]) | (refine y8 (u4) ?_ ?_; (focus (simp only [go_sem, *]; done)); simp only [go_sem, *]) | ((with_reducible apply And.intro); focus omega) | (refine z8 hK ?_; clear hK; simp only [go_sem, *]) | simp only [z7, z6, go_sem, *])
              all_goals try contradiction
              exact p9 (i' := j + 1) [] [] (by trivial)
          · have hji : ¬ (j : Int) < 3 := by omega
            repeat' (first | (refine Qr rfl ?_; try intro _ hK; try simp only [go_sem, *]) | (refine Qi rfl rfl rfl rfl ?_ ?_ <;> (intro hb; (try intro _ hK); have hc := hb; try simp only [go_sem] at hc; simp only [go_sem, *])) | refine Qh rfl ?_ | refine Qd rfl (by kernel_rfl) ?_ | (refine Qc rfl rfl ?_ ?_ <;> (intro hb; have hc := hb; try simp only [go_sem] at hc)) | refine q6 rfl ?_ | (refine Qb ?_ ?_; focus kernel_rfl) | ((with_reducible apply And.intro); focus omega) | (refine z8 hK ?_; clear hK; simp only [go_sem, *]) | simp only [z7, z6, go_sem, *])
            all_goals try contradiction
            exact p9 (i' := k + 1) [] [] (by trivial)
        · have hb2 : (zLm (l.getD i default) == zLm (l.getD k default)) = false := by simpa using hkk
          clear hkk hz hlt hlat hself hr hn
          generalize zLm (l.getD i default) = ka at *
          generalize zLm (l.getD k default) = kb at *
          cases hs : w7 ka kb
          · repeat' (first | (refine Qr rfl ?_; try intro _ hK; try simp only [go_sem, *]) | (refine Qi rfl rfl rfl rfl ?_ ?_ <;> (intro hb; (try intro _ hK); have hc := hb; try simp only [go_sem] at hc; simp only [go_sem, *])) | refine Qh rfl ?_ | refine Qd rfl (by kernel_rfl) ?_ | (refine Qc rfl rfl ?_ ?_ <;> (intro hb; have hc := hb; try simp only [go_sem] at hc)) | refine q6 rfl ?_ | (refine Qb ?_ ?_; focus kernel_rfl) | (refine y8 (u1) ?_ ?_; (focus (simp only [go_sem, *]; done)); simp only [go_sem, *]) | (refine y8 (u2) ?_ ?_; (focus (simp only [go_sem, *]; done)); simp only [go_sem, *]) | (refine y8 (ki) ?_ ?_; (focus (simp only [go_sem, *]; done)); simp only [go_sem, *]) | (refine y8 (kk) ?_ ?_; (focus (simp only [go_sem, *]; done)); simp only [go_sem, *]) | (refine y8 (sl) ?_ ?_; (focus (simp only [go_sem, *]; done)); simp only [go_sem, *]) | ((with_reducible apply And.intro); focus omega) | (refine z8 hK ?_; clear hK; simp only [go_sem, *]) | simp only [z7, z6, go_sem, *])
            all_goals try contradiction
            refine p8 rfl (3) (fun j => NoQ j) 220 (fun j => [(17, iV j), (9, iV (-1)), (8, iV k), (7, iV i), (4, y4 l)]) (fun j => []) [] [] (by trivial) ?_; intro j hj hR
            by_cases hj2 : j < 3
            · have vj := hv _ (l4 (i := j) (l := l) (by omega))
              have hji : (j : Int) < 3 := by omega
              have hjl : j < l.length := by omega
              have hwj : IntKind.i64.wrap ((j : Int) + 1) = ((j + 1 : Nat) : Int) := r6 (by omega)
              have u3 := zNC vk vj
              have u4 := zNC vi vj
              have hyt : w3 (l.getD k default) (l.getD j default) < 0 → w3 (l.getD i default) (l.getD j default) < 0 := fun h => zJS hneg h
              generalize w3 (l.getD k default) (l.getD j default) = y1 at *
              generalize w3 (l.getD i default) (l.getD j default) = y2 at *
              by_cases hy1 : y1 < 0
              · have hy2 : ¬ y2 ≥ 0 := by have := hyt hy1; omega
                clear hyt
                repeat' (first | (refine Qr rfl ?_; try intro _ hK; try simp only [go_sem, *]) | (refine Qi rfl rfl rfl rfl ?_ ?_ <;> (intro hb; (try intro _ hK); have hc := hb; try simp only [go_sem] at hc; simp only [go_sem, *])) | refine Qh rfl ?_ | refine Qd rfl (by kernel_rfl) ?_ | (refine Qc rfl rfl ?_ ?_ <;> (intro hb; have hc := hb; try simp only [go_sem] at hc)) | refine q6 rfl ?_ | (refine Qb ?_ ?_; focus kernel_rfl) | (refine y8 (u3) ?_ ?_; (focus (simp only [go_sem, *]; done)); simp only [go_sem, *]) | (refine y8 (u4) ?_ ?_; (focus (simp only [go_sem, *]; done)); simp only [go_sem, *]) | ((with_reducible apply And.intro); focus omega) | (refine z8 hK ?_; clear hK; simp only [go_sem, *]) | simp only [z7, z6, go_sem, *])
                all_goals try contradiction
                exact p9 (i' := j + 1) [] [] (by trivial)
              · clear hyt
                repeat' (first | (refine Qr rfl ?_; try intro _ hK; try simp only [go_sem, *]) | (refine Qi rfl rfl rfl rfl ?_ ?_ <;> (intro hb; (try intro _ hK); have hc := hb; try simp only [go_sem] at hc; simp only [go_sem, *])) | refine Qh rfl ?_ | refine Qd rfl (by kernel_rfl) ?_ | (refine Qc rfl rfl ?_ ?_ <;> (intro hb; have hc := hb; try simp only [go_sem] at hc)) | refine q6 rfl ?_ | (refine Qb ?_ ?_; focus kernel_rfl) | (refine y8 (u3) ?_ ?_; (focus (simp only [go_sem, *]; done)); simp only [go_sem, *]) | (refine y8 (u4) ?_ ?_; (focus (simp only [go_sem, *]; done)); simp only [go_sem, *]) | ((with_reducible apply And.intro); focus omega) | (refine z8 hK ?_; clear hK; simp only [go_sem, *]) | simp only [z7, z6, go_sem, *])
                all_goals try contradiction
                exact p9 (i' := j + 1) [] [] (by trivial)
            · have hji : ¬ (j : Int) < 3 := by omega
              repeat' (first | (refine Qr rfl ?_; try intro _ hK; try simp only [go_sem, *]) | (refine Qi rfl rfl rfl rfl ?_ ?_ <;> (intro hb; (try intro _ hK); have hc := hb; try simp only [go_sem] at hc; simp only [go_sem, *])) | refine Qh rfl ?_ | refine Qd rfl (by kernel_rfl) ?_ | (refine Qc rfl rfl ?_ ?_ <;> (intro hb; have hc := hb; try simp only [go_sem] at hc)) | refine q6 rfl ?_ | (refine Qb ?_ ?_; focus kernel_rfl) | ((with_reducible apply And.intro); focus omega) | (refine z8 hK ?_; clear hK; simp only [go_sem, *]) | simp only [z7, z6, go_sem, *])
              all_goals try contradiction
              exact p9 (i' := k + 1) [] [] (by trivial)
          · repeat' (first | (refine Qr rfl ?_; try intro _ hK; try simp only [go_sem, *]) | (refine Qi rfl rfl rfl rfl ?_ ?_ <;> (intro hb; (try intro _ hK); have hc := hb; try simp only [go_sem] at hc; simp only [go_sem, *])) | refine Qh rfl ?_ | refine Qd rfl (by kernel_rfl) ?_ | (refine Qc rfl rfl ?_ ?_ <;> (intro hb; have hc := hb; try simp only [go_sem] at hc)) | refine q6 rfl ?_ | (refine Qb ?_ ?_; focus kernel_rfl) | (refine y8 (u1) ?_ ?_; (focus (simp only [go_sem, *]; done)); simp only [go_sem, *]) | (refine y8 (u2) ?_ ?_; (focus (simp only [go_sem, *]; done)); simp only [go_sem, *]) | (refine y8 (ki) ?_ ?_; (focus (simp only [go_sem, *]; done)); simp only [go_sem, *]) | (refine y8 (kk) ?_ ?_; (focus (simp only [go_sem, *]; done)); simp only [go_sem, *]) | (refine y8 (sl) ?_ ?_; (focus (simp only [go_sem, *]; done)); simp only [go_sem, *]) | ((with_reducible apply And.intro); focus omega) | (refine z8 hK ?_; clear hK; simp only [go_sem, *]) | simp only [z7, z6, go_sem, *])
            all_goals try contradiction
            refine p8 rfl (3) (fun j => NoQ j) 220 (fun j => [(17, iV j), (9, iV (-1)), (8, iV k), (7, iV i), (4, y4 l)]) (fun j => []) [] [] (by trivial) ?_; intro j hj hR
            by_cases hj2 : j < 3
            · have vj := hv _ (l4 (i := j) (l := l) (by omega))
              have hji : (j : Int) < 3 := by omega
              have hjl : j < l.length := by omega
              have hwj : IntKind.i64.wrap ((j : Int) + 1) = ((j + 1 : Nat) : Int) := r6 (by omega)
              have u3 := zNC vk vj
              have u4 := zNC vi vj
              have hyt : w3 (l.getD k default) (l.getD j default) < 0 → w3 (l.getD i default) (l.getD j default) < 0 := fun h => zJS hneg h
              generalize w3 (l.getD k default) (l.getD j default) = y1 at *
              generalize w3 (l.getD i default) (l.getD j default) = y2 at *
              by_cases hy1 : y1 < 0
              · have hy2 : ¬ y2 ≥ 0 := by have := hyt hy1; omega
                clear hyt
                repeat' (first | (refine Qr rfl ?_; try intro _ hK; try simp only [go_sem, *]) | (refine Qi rfl rfl rfl rfl ?_ ?_ <;> (intro hb; (try intro _ hK); have hc := hb; try simp only [go_sem] at hc; simp only [go_sem, *])) | refine Qh rfl ?_ | refine Qd rfl (by kernel_rfl) ?_ | (refine Qc rfl rfl ?_ ?_ <;> (intro hb; have hc := hb; try simp only [go_sem] at hc)) | refine q6 rfl ?_ | (refine Qb ?_ ?_; focus kernel_rfl) | (refine y8 (u3) ?_ ?_; (focus (simp only [go_sem, *]; done)); simp only [go_sem, *]) | (refine y8 (u4) ?_ ?_; (focus (simp only [go_sem, *]; done)); simp only [go_sem, *]) | ((with_reducible apply And.intro); focus omega) | (refine z8 hK ?_; clear hK; simp only [go_sem, *]) | simp only [z7, z6, go_sem, *])
                all_goals try contradiction
                exact p9 (i' := j + 1) [] [] (by trivial)
              · clear hyt
                repeat' (first | (refine Qr rfl ?_; try intro _ hK; try simp only [go_sem, *]) | (refine Qi rfl rfl rfl rfl ?_ ?_ <;> (intro hb; (try intro _ hK); have hc := hb; try simp only [go_sem] at hc; simp only [go_sem, *])) | refine Qh rfl ?_ | refine Qd rfl (by kernel_rfl) ?_ | (refine Qc rfl rfl ?_ ?_ <;> (intro hb; have hc := hb; try simp only [go_sem] at hc)) | refine q6 rfl ?_ | (refine Qb ?_ ?_; focus kernel_rfl) | (refine y8 (u3) ?_ ?_; (focus (simp only [go_sem, *]; done)); simp only [go_sem, *]) | (refine y8 (u4) ?_ ?_; (focus (simp only [go_sem, *]; done)); simp only [go_sem, *]) | ((with_reducible apply And.intro); focus omega) | (refine z8 hK ?_; clear hK; simp only [go_sem, *]) | simp only [z7, z6, go_sem, *])
                all_goals try contradiction
                exact p9 (i' := j + 1) [] [] (by trivial)
            · have hji : ¬ (j : Int) < 3 := by omega
              repeat' (first | (refine Qr rfl ?_; try intro _ hK; try simp only [go_sem, *]) | (refine Qi rfl rfl rfl rfl ?_ ?_ <;> (intro hb; (try intro _ hK); have hc := hb; try simp only [go_sem] at hc; simp only [go_sem, *])) | refine Qh rfl ?_ | refine Qd rfl (by kernel_rfl) ?_ | (refine Qc rfl rfl ?_ ?_ <;> (intro hb; have hc := hb; try simp only [go_sem] at hc)) | refine q6 rfl ?_ | (refine Qb ?_ ?_; focus kernel_rfl) | ((with_reducible apply And.intro); focus omega) | (refine z8 hK ?_; clear hK; simp only [go_sem, *]) | simp only [z7, z6, go_sem, *])
              all_goals try contradiction
              exact p9 (i' := k + 1) [] [] (by trivial)
      · have hb1 : (l.getD i default == l.getD k default) = false := by
          have : ¬ l.getD i default = l.getD k default := fun e => by have := hz.2 e; omega
          simpa using this
        have hs : w7 (zLm (l.getD i default)) (zLm (l.getD k default)) = false := by
          cases h : w7 (zLm (l.getD i default)) (zLm (l.getD k default)) with
          | false => rfl
          | true => have := hlt h; omega
        rw [hn] at u1 u2
        by_cases hkk : zLm (l.getD i default) = zLm (l.getD k default)
        · rw [← hkk] at kk hs
          generalize zLm (l.getD i default) = ka at *
          clear hkk hz hlt hlat hself hr hn
          repeat' (first | (refine Qr rfl ?_; try intro _ hK; try simp only [go_sem, *]) | (refine Qi rfl rfl rfl rfl ?_ ?_ <;> (intro hb; (try intro _ hK); have hc := hb; try simp only [go_sem] at hc; simp only [go_sem, *])) | refine Qh rfl ?_ | refine Qd rfl (by kernel_rfl) ?_ | (refine Qc rfl rfl ?_ ?_ <;> (intro hb; have hc := hb; try simp only [go_sem] at hc)) | refine q6 rfl ?_ | (refine Qb ?_ ?_; focus kernel_rfl) | (refine y8 (u1) ?_ ?_; (focus (simp only [go_sem, *]; done)); simp only [go_sem, *]) | (refine y8 (u2) ?_ ?_; (focus (simp only [go_sem, *]; done)); simp only [go_sem, *]) | (refine y8 (ki) ?_ ?_; (focus (simp only [go_sem, *]; done)); simp only [go_sem, *]) | (refine y8 (kk) ?_ ?_; (focus (simp only [go_sem, *]; done)); simp only [go_sem, *]) | (refine y8 (sl) ?_ ?_; (focus (simp only [go_sem, *]; done)); simp only [go_sem, *]) | ((with_reducible apply And.intro); focus omega) | (refine z8 hK ?_; clear hK; simp only [go_sem, *]) | simp only [z7, z6, go_sem, *])
          all_goals try contradiction
          refine p8 rfl (3) (fun j => NoQ j) 220 (fun j => [(17, iV j), (9, iV 1), (8, iV k), (7, iV i), (4, y4 l)]) (fun j => []) [] [] (by trivial) ?_; intro j hj hR
          by_cases hj2 : j < 3
          · have vj := hv _ (l4 (i := j) (l := l) (by omega))
            have hji : (j : Int) < 3 := by omega
            have hjl : j < l.length := by omega
            have hwj : IntKind.i64.wrap ((j : Int) + 1) = ((j + 1 : Nat) : Int) := r6 (by omega)
            have u3 := zNC vk vj
            have u4 := zNC vi vj
            have hyt : True := trivial
            generalize w3 (l.getD k default) (l.getD j default) = y1 at *
            generalize w3 (l.getD i default) (l.getD j default) = y2 at *
            clear hyt
            repeat' (first | (refine Qr rfl ?_; try intro _ hK; try simp only [go_sem, *]) | (refine Qi rfl rfl rfl rfl ?_ ?_ <;> (intro hb; (try intro _ hK); have hc := hb; try simp only [go_sem] at hc; simp only [go_sem, *])) | refine Qh rfl ?_ | refine Qd rfl (by kernel_rfl) ?_ | (refine Qc rfl rfl ?_ ?_ <;> (intro hb; have hc := hb; try simp only [go_sem] at hc)) | refine q6 rfl ?_ | (refine Qb ?_ ?_; focus kernel_rfl) | (refine y8 (u3) ?_ ?_; (focus (simp only [go_sem, *]; done)); simp only [go_sem, *]) | (refine y8 (u4) ?_ ?_; (focus (simp only [go_sem, *]; done)); simp only [go_sem, *]) | ((with_reducible apply And.intro); focus omega) | (refine z8 hK ?_; clear hK; simp only [go_sem, *]) | simp only [z7, z6, go_sem, *])
            all_goals try contradiction
            exact p9 (i' := j + 1) [] [] (by trivial)
          · have hji : ¬ (j : Int) < 3 := by omega
            repeat' (first | (refine Qr rfl ?_; try intro _ hK; try simp only [go_sem, *]) | (refine Qi rfl rfl rfl rfl ?_ ?_ <;> (intro hb; (try intro _ hK); have hc := hb; try simp only [go_sem] at hc; simp only [go_sem, *])) | refine Qh rfl ?_ | refine Qd rfl (by kernel_rfl) ?_ | (refine Qc rfl rfl ?_ ?_ <;> (intro hb; have hc := hb; try simp only [go_sem] at hc)) | refine q6 rfl ?_ | (refine Qb ?_ ?_; focus kernel_rfl) | ((with_reducible apply And.intro); focus omega) | (refine z8 hK ?_; clear hK; simp only [go_sem, *]) | simp only [z7, z6, go_sem, *])
            all_goals try contradiction
            exact p9 (i' := k + 1) [] [] (by trivial)
        · have hb2 : (zLm (l.getD i default) == zLm (l.getD k default)) = false := by simpa using hkk
          clear hkk hz hlt hlat hself hr hn
          generalize zLm (l.getD i default) = ka at *
          generalize zLm (l.getD k default) = kb at *
          repeat' (first | (refine Qr rfl ?_; try intro _ hK; try simp only [go_sem, *]) | (refine Qi rfl rfl rfl rfl ?_ ?_ <;> (intro hb; (try intro _ hK); have hc := hb; try simp only [go_sem] at hc; simp only [go_sem, *])) | refine Qh rfl ?_ | refine Qd rfl (by kernel_rfl) ?_ | (refine Qc rfl rfl ?_ ?_ <;> (intro hb; have hc := hb; try simp only [go_sem] at hc)) | refine q6 rfl ?_ | (refine Qb ?_ ?_; focus kernel_rfl) | (refine y8 (u1) ?_ ?_; (focus (simp only [go_sem, *]; done)); simp only [go_sem, *]) | (refine y8 (u2) ?_ ?_; (focus (simp only [go_sem, *]; done)); simp only [go_sem, *]) | (refine y8 (ki) ?_ ?_; (focus (simp only [go_sem, *]; done)); simp only [go_sem, *]) | (refine y8 (kk) ?_ ?_; (focus (simp only [go_sem, *]; done)); simp only [go_sem, *]) | (refine y8 (sl) ?_ ?_; (focus (simp only [go_sem, *]; done)); simp only [go_sem, *]) | ((with_reducible apply And.intro); focus omega) | (refine z8 hK ?_; clear hK; simp only [go_sem, *]) | simp only [z7, z6, go_sem, *])
          all_goals try contradiction
          refine p8 rfl (3) (fun j => NoQ j) 220 (fun j => [(17, iV j), (9, iV 1), (8, iV k), (7, iV i), (4, y4 l)]) (fun j => []) [] [] (by trivial) ?_; intro j hj hR
          by_cases hj2 : j < 3
          · have vj := hv _ (l4 (i := j) (l := l) (by omega))
            have hji : (j : Int) < 3 := by omega
            have hjl : j < l.length := by omega
            have hwj : IntKind.i64.wrap ((j : Int) + 1) = ((j + 1 : Nat) : Int) := r6 (by omega)
            have u3 := zNC vk vj
            have u4 := zNC vi vj
            have hyt : True := trivial
            generalize w3 (l.getD k default) (l.getD j default) = y1 at *
            generalize w3 (l.getD i default) (l.getD j default) = y2 at *
            clear hyt
            repeat' (first | (refine Qr rfl ?_; try intro _ hK; try simp only [go_sem, *]) | (refine Qi rfl rfl rfl rfl ?_ ?_ <;> (intro hb; (try intro _ hK); have hc := hb; try simp only [go_sem] at hc; simp only [go_sem, *])) | refine Qh rfl ?_ | refine Qd rfl (by kernel_rfl) ?_ | (refine Qc rfl rfl ?_ ?_ <;> (intro hb; have hc := hb; try simp only [go_sem] at hc)) | refine q6 rfl ?_ | (refine Qb ?_ ?_; focus kernel_rfl) | (refine y8 (u3) ?_ ?_; (focus (simp only [go_sem, *]; done)); simp only [go_sem, *]) | (refine y8 (u4) ?_ ?_; (focus (simp only [go_sem, *]; done)); simp only [go_sem, *]) | ((with_reducible apply And.intro); focus omega) | (refine z8 hK ?_; clear hK; simp only [go_sem, *]) | simp only [z7, z6, go_sem, *])
            all_goals try contradiction
            exact p9 (i' := j + 1) [] [] (by trivial)
          · have hji : ¬ (j : Int) < 3 := by omega
            repeat' (first | (refine Qr rfl ?_; try intro _ hK; try simp only [go_sem, *]) | (refine Qi rfl rfl rfl rfl ?_ ?_ <;> (intro hb; (try intro _ hK); have hc := hb; try simp only [go_sem] at hc; simp only [go_sem, *])) | refine Qh rfl ?_ | refine Qd rfl (by kernel_rfl) ?_ | (refine Qc rfl rfl ?_ ?_ <;> (intro hb; have hc := hb; try simp only [go_sem] at hc)) | refine q6 rfl ?_ | (refine Qb ?_ ?_; focus kernel_rfl) | ((with_reducible apply And.intro); focus omega) | (refine z8 hK ?_; clear hK; simp only [go_sem, *]) | simp only [z7, z6, go_sem, *])
            all_goals try contradiction
            exact p9 (i' := k + 1) [] [] (by trivial)
    · have hki : ¬ (k : Int) < 3 := by omega
      repeat' (first | (refine Qr rfl ?_; try intro _ hK; try simp only [go_sem, *]) | (refine Qi rfl rfl rfl rfl ?_ ?_ <;> (intro hb; (try intro _ hK); have hc := hb; try simp only [go_sem] at hc; simp only [go_sem, *])) | refine Qh rfl ?_ | refine Qd rfl (by kernel_rfl) ?_ | (refine Qc rfl rfl ?_ ?_ <;> (intro hb; have hc := hb; try simp only [go_sem] at hc)) | refine q6 rfl ?_ | (refine Qb ?_ ?_; focus kernel_rfl) | ((with_reducible apply And.intro); focus omega) | (refine z8 hK ?_; clear hK; simp only [go_sem, *]) | simp only [z7, z6, go_sem, *])
      all_goals try contradiction
      exact p9 (i' := i + 1) [] [] (by trivial)
  · have hii : ¬ (i : Int) < 3 := by omega
    repeat' (first | (refine Qr rfl ?_; try intro _ hK; try simp only [go_sem, *]) | (refine Qi rfl rfl rfl rfl ?_ ?_ <;> (intro hb; (try intro _ hK); have hc := hb; try simp only [go_sem] at hc; simp only [go_sem, *])) | refine Qh rfl ?_ | refine Qd rfl (by kernel_rfl) ?_ | (refine Qc rfl rfl ?_ ?_ <;> (intro hb; have hc := hb; try simp only [go_sem] at hc)) | refine q6 rfl ?_ | (refine Qb ?_ ?_; focus kernel_rfl) | (refine q9 (sS) ?_; simp only [go_sem, *]) | ((with_reducible apply And.intro); focus omega) | (refine z8 hK ?_; clear hK; simp only [go_sem, *]) | simp only [z7, z6, go_sem, *])
    all_goals try contradiction
    (refine ⟨[_], [], [], ⟨rfl, trivial⟩, ?_⟩; simp only [go_sem, *])
end Go.Abs

namespace Go.Abs
open Go Go.Proofs Tryz
attribute [local irreducible] y3 Hold y7
theorem zND {a b c : Str} (ha : ValidN a) (hb1 : ValidN b) (hc1 : ValidN c) : ∀ x, x ∈ [a, b, c] → ValidN x := fun x hx => by
 simp only [List.mem_cons, List.not_mem_nil, or_false] at hx
 rcases hx with rfl | rfl | rfl
 ·exact ha
 ·exact hb1
 ·exact hc1
theorem zNL (nums : List Int) (h : nums.length ≤ 4294967296) : zLn prog 11 [W4 nums] [] (bV true) [] := by
 obtain ⟨d0, s0, hd0⟩ := zD0 nums h
 obtain ⟨x0, d1, s1, v0, hd1⟩ := zFr d0 2 hd0 (by omega)
 obtain ⟨x1, d2, s2, v1, hd2⟩ := zFr d1 2 hd1 (by omega)
 obtain ⟨x2, d3, s3, v2, hd3⟩ := zFr d2 2 hd2 (by omega)
 obtain ⟨t, d4, s4, hd4⟩ := zKr d3 2 hd3 (by omega)
 have so := zLZ x0
 have hoc := zKu v0
 have hoa := zKt v0
 clear hd0 hd1 hd2 hd3 hd4 h
 have tl := fun l hl hv E hE => zNG l hl hv E hE
 generalize O1 x0 = o at *
 generalize T4 x0 = e at *
 rcases hoc with rfl | rfl
 ·have vo := (hoa rfl).1
  have ho0 : (0 : Int) < (o.length : Int) := by have := vo.ne; omega
  have ho6 : (o.length : Int) ≤ 6 := by have := vo.len; omega
  clear hoa
  cases t
  ·refine q7 func11 rfl (fun E hE => ?_); simp only [go_sem, ntmps11]
   repeat' (first | ((with_reducible refine zLc [0, 1, 1, 1, 1] ?_)) | (refine Qr rfl ?_; try intro _ hK; try simp only [go_sem, *]) | (refine Qi rfl rfl rfl rfl ?_ ?_ <;> (intro hb; (try intro _ hK); have hc := hb; try simp only [go_sem] at hc; simp only [go_sem, *])) | refine Qh rfl ?_ | refine Qd rfl (by kernel_rfl) ?_ | (refine Qc rfl rfl ?_ ?_ <;> (intro hb; have hc := hb; try simp only [go_sem] at hc)) | refine q6 rfl ?_ | (refine Qb ?_ ?_; focus kernel_rfl) | (refine o9 (s0) ?_; simp only [go_sem, *]) | (refine u9 [0] [] (s1) (by simp) ?_ ?_ (by simp) (.inl rfl) ?_ ?_ ?_; (iterate 2 (focus (simp only [go_sem, *]; done))); (iterate 2 (focus (first | (simp; done) | (simp [go_sem]; done)))); simp only [go_sem, *]) | (refine u9 [0] [] (s2) (by simp) ?_ ?_ (by simp) (.inl rfl) ?_ ?_ ?_; (iterate 2 (focus (simp only [go_sem, *]; done))); (iterate 2 (focus (first | (simp; done) | (simp [go_sem]; done)))); simp only [go_sem, *]) | (refine u9 [0] [] (s3) (by simp) ?_ ?_ (by simp) (.inl rfl) ?_ ?_ ?_; (iterate 2 (focus (simp only [go_sem, *]; done))); (iterate 2 (focus (first | (simp; done) | (simp [go_sem]; done)))); simp only [go_sem, *]) | (refine u9 [0] [] (s4) (by simp) ?_ ?_ (by simp) (.inl rfl) ?_ ?_ ?_; (iterate 2 (focus (simp only [go_sem, *]; done))); (iterate 2 (focus (first | (simp; done) | (simp [go_sem]; done)))); simp only [go_sem, *]) | (refine y8 (so) ?_ ?_; (focus (simp only [go_sem, *]; done)); simp only [go_sem, *]) | ((with_reducible apply And.intro); focus omega) | (refine z8 hK ?_; clear hK; simp only [go_sem, *]) | simp only [z7, z6, go_sem, *])
   all_goals try contradiction
   refine ⟨?_⟩
   refine T0 (N := 220) (env := [(4, y4 [x0, x1, x2])]) (As := []) [] [1] (by (simp only [Weak, go_sem, List.map_append, List.map_set, *] <;> (try simp (disch := omega) only [r6]) <;> (try simp) <;> (try omega))) ?_
   exact tl _ rfl (zND v0 v1 v2) E hE
  ·refine q7 func11 rfl (fun E hE => ?_); simp only [go_sem, ntmps11]
   repeat' (first | ((with_reducible refine zLc [0, 1, 1, 1, 1] ?_)) | (refine Qr rfl ?_; try intro _ hK; try simp only [go_sem, *]) | (refine Qi rfl rfl rfl rfl ?_ ?_ <;> (intro hb; (try intro _ hK); have hc := hb; try simp only [go_sem] at hc; simp only [go_sem, *])) | refine Qh rfl ?_ | refine Qd rfl (by kernel_rfl) ?_ | (refine Qc rfl rfl ?_ ?_ <;> (intro hb; have hc := hb; try simp only [go_sem] at hc)) | refine q6 rfl ?_ | (refine Qb ?_ ?_; focus kernel_rfl) | (refine o9 (s0) ?_; simp only [go_sem, *]) | (refine u9 [0] [] (s1) (by simp) ?_ ?_ (by simp) (.inl rfl) ?_ ?_ ?_; (iterate 2 (focus (simp only [go_sem, *]; done))); (iterate 2 (focus (first | (simp; done) | (simp [go_sem]; done)))); simp only [go_sem, *]) | (refine u9 [0] [] (s2) (by simp) ?_ ?_ (by simp) (.inl rfl) ?_ ?_ ?_; (iterate 2 (focus (simp only [go_sem, *]; done))); (iterate 2 (focus (first | (simp; done) | (simp [go_sem]; done)))); simp only [go_sem, *]) | (refine u9 [0] [] (s3) (by simp) ?_ ?_ (by simp) (.inl rfl) ?_ ?_ ?_; (iterate 2 (focus (simp only [go_sem, *]; done))); (iterate 2 (focus (first | (simp; done) | (simp [go_sem]; done)))); simp only [go_sem, *]) | (refine u9 [0] [] (s4) (by simp) ?_ ?_ (by simp) (.inl rfl) ?_ ?_ ?_; (iterate 2 (focus (simp only [go_sem, *]; done))); (iterate 2 (focus (first | (simp; done) | (simp [go_sem]; done)))); simp only [go_sem, *]) | (refine y8 (so) ?_ ?_; (focus (simp only [go_sem, *]; done)); simp only [go_sem, *]) | ((with_reducible apply And.intro); focus omega) | (refine z8 hK ?_; clear hK; simp only [go_sem, *]) | simp only [z7, z6, go_sem, *])
   all_goals try contradiction
   refine ⟨?_⟩
   refine T0 (N := 220) (env := [(4, y4 [x0, o, x2])]) (As := []) [] [1] (by (simp only [Weak, go_sem, List.map_append, List.map_set, *] <;> (try simp (disch := omega) only [r6]) <;> (try simp) <;> (try omega))) ?_
   exact tl _ rfl (zND v0 vo v2) E hE
 ·clear hoa
  refine q7 func11 rfl (fun E hE => ?_); simp only [go_sem, ntmps11]
  repeat' (first | ((with_reducible refine zLc [0, 1, 1, 1, 1] ?_)) | (refine Qr rfl ?_; try intro _ hK; try simp only [go_sem, *]) | (refine Qi rfl rfl rfl rfl ?_ ?_ <;> (intro hb; (try intro _ hK); have hc := hb; try simp only [go_sem] at hc; simp only [go_sem, *])) | refine Qh rfl ?_ | refine Qd rfl (by kernel_rfl) ?_ | (refine Qc rfl rfl ?_ ?_ <;> (intro hb; have hc := hb; try simp only [go_sem] at hc)) | refine q6 rfl ?_ | (refine Qb ?_ ?_; focus kernel_rfl) | (refine o9 (s0) ?_; simp only [go_sem, *]) | (refine u9 [0] [] (s1) (by simp) ?_ ?_ (by simp) (.inl rfl) ?_ ?_ ?_; (iterate 2 (focus (simp only [go_sem, *]; done))); (iterate 2 (focus (first | (simp; done) | (simp [go_sem]; done)))); simp only [go_sem, *]) | (refine u9 [0] [] (s2) (by simp) ?_ ?_ (by simp) (.inl rfl) ?_ ?_ ?_; (iterate 2 (focus (simp only [go_sem, *]; done))); (iterate 2 (focus (first | (simp; done) | (simp [go_sem]; done)))); simp only [go_sem, *]) | (refine u9 [0] [] (s3) (by simp) ?_ ?_ (by simp) (.inl rfl) ?_ ?_ ?_; (iterate 2 (focus (simp only [go_sem, *]; done))); (iterate 2 (focus (first | (simp; done) | (simp [go_sem]; done)))); simp only [go_sem, *]) | (refine u9 [0] [] (s4) (by simp) ?_ ?_ (by simp) (.inl rfl) ?_ ?_ ?_; (iterate 2 (focus (simp only [go_sem, *]; done))); (iterate 2 (focus (first | (simp; done) | (simp [go_sem]; done)))); simp only [go_sem, *]) | (refine y8 (so) ?_ ?_; (focus (simp only [go_sem, *]; done)); simp only [go_sem, *]) | ((with_reducible apply And.intro); focus omega) | (refine z8 hK ?_; clear hK; simp only [go_sem, *]) | simp only [z7, z6, go_sem, *])
  all_goals try contradiction
  refine ⟨?_⟩
  refine T0 (N := 220) (env := [(4, y4 [x0, x1, x2])]) (As := []) [] [1] (by (simp only [Weak, go_sem, List.map_append, List.map_set, *] <;> (try simp (disch := omega) only [r6]) <;> (try simp) <;> (try omega))) ?_
  exact tl _ rfl (zND v0 v1 v2) E hE
end Go.Abs

