/- ConfTells: the plain law. -/
import Derived.Test.YtkakgmpcenfjlaaConfSmallP
import Derived.Test.YtkakgmpcenfjlaaQCfx5
set_option linter.unusedVariables false
set_option linter.unusedSimpArgs false
namespace Go.Proofs.Ytkakgmpcenfjlaa.QCf
open Go.RowKit Go.Proofs.YtkakgmpcenfjlaaW.PrintWords Go.Proofs.YtkakgmpcenfjlaaW.PrintLast Go.Proofs.YtkakgmpcenfjlaaW.PrintMore Go.Proofs.Ytkakgmpcenfjlaa.Graph Go.Proofs.Ytkakgmpcenfjlaa.QGc
theorem tells_ok (v w c p s t : Int) (up : List (List Int)) (ht : -9223372036854775808 ≤ t ∧ t < 9223372036854775808) (hs0 : 0 ≤ s) : sakialaw10_ConfTells.f 1000 v w c p s up t = some true := by
  unfold sakialaw10_ConfTells.f
  obtain ⟨b, hb, hsm⟩ := long10 up 1000 (by omega)
  rw [hb, Option.bind_some]
  have hl : sakialaw10_ConfTells.j0 1000 t true v w c p s up = some true := by
    simp only [sakialaw10_ConfTells.j0]
    rw [if_pos trivial]
    rfl
  cases b with
  | true => rw [if_pos rfl, hl]
  | false =>
    have hs := hsm rfl
    rw [if_neg (by decide), ref_right v w c p s up 1000 (by omega), Option.bind_some]
    by_cases h : checkC v w c p up = 0
    · have h0 : (!(checkC v w c p up == 0)) = false := by rw [h]; rfl
      rw [h0]
      obtain ⟨_, _, hc, hp, hg, _⟩ := checkC_zero h
      have hg' := checkG_zero hg
      have j2 : ∀ k, 210 ≤ k → sakialaw10_ConfTells.j2 k false v w c p s up = some true := by
        intro k hk
        obtain ⟨k, rfl⟩ : ∃ n, k = n + 1 := ⟨k - 1, by omega⟩
        simp only [sakialaw10_ConfTells.j2]
        rw [if_neg (by decide), start_ok hs hs0, rstart_ok hs0, turns_ok hs, rturns_ok h, if_pos h, if_pos h]
        simp [sakialaw10_live.f]
      have j1 : ∀ k x6 x7 x8 x9, 220 ≤ k → (x7 = true → x6 = t - p ∧ p ≤ t) → (x7 = false → x6 = 0) → (x9 = true → x8 = t + p ∧ t < 100) → (x9 = false → x8 = 0) → sakialaw10_ConfTells.j1 k t x6 x7 x8 x9 false v w c p s up = some true := by
        intro k x6 x7 x8 x9 hk a1 a2 a3 a4
        obtain ⟨k, rfl⟩ : ∃ n, k = n + 1 := ⟨k - 1, by omega⟩
        have jf : (if x9 = true then (if x8 = (wrap64 (t + p)) then (sakialaw10_ConfTells.j2 k false v w c p s up) else (sakialaw10_ConfTells.j2 k true v w c p s up)) else (sakialaw10_ConfTells.j2 k (x8 != 0) v w c p s up)) = some true := by
          cases x9 with
          | true =>
            obtain ⟨e1, e2⟩ := a3 rfl
            rw [if_pos rfl, w64_in (by omega) (by omega), if_pos e1, j2 k (by omega)]
          | false =>
            rw [if_neg (by decide), a4 rfl]
            exact j2 k (by omega)
        simp only [sakialaw10_ConfTells.j1]
        rw [if_neg (by decide)]
        cases x7 with
        | true =>
          obtain ⟨e1, e2⟩ := a1 rfl
          rw [if_pos rfl, w64_in (by omega) (by omega), if_pos e1]
          exact jf
        | false =>
          rw [if_neg (by decide), if_pos (a2 rfl)]
          exact jf
      simp only [sakialaw10_ConfTells.j0]
      rw [if_neg (by decide), rthreads_ok h, consumer_ok hs t ht, thread_ok hs t, threads_ok hs, producer_ok hs t]
      simp only [Option.bind_some, if_pos h, if_true]
      by_cases t0 : 0 ≤ t
      · rw [if_pos t0]
        by_cases tp : t < p
        · have e1 : decide (checkC v w c p up = 0 ∧ 0 ≤ t ∧ t < p) = true := decide_eq_true ⟨h, t0, tp⟩
          rw [e1, decide_eq_true tp, if_neg (by decide), if_neg (show ¬ t ≥ p by omega), if_neg (show ¬ (checkC v w c p up = 0 ∧ p ≤ t ∧ t < p + up.length) by omega)]
          by_cases tl : t < up.length
          · rw [if_pos (show checkC v w c p up = 0 ∧ 0 ≤ t ∧ t < up.length from ⟨h, t0, tl⟩), decide_eq_true tl]
            simp only [bne_self_eq_false]
            rw [if_neg nf]
            refine j1 999 _ _ _ _ (by omega) ?_ ?_ ?_ ?_ <;> intro x <;> first | exact absurd x (by decide) | rfl | exact ⟨rfl, by omega⟩
          · rw [if_neg (show ¬ (checkC v w c p up = 0 ∧ 0 ≤ t ∧ t < up.length) by omega), decide_eq_false tl]
            simp only [bne_self_eq_false]
            rw [if_neg nf]
            refine j1 999 _ _ _ _ (by omega) ?_ ?_ ?_ ?_ <;> intro x <;> first | exact absurd x (by decide) | rfl | exact ⟨rfl, by omega⟩
        · have e1 : decide (checkC v w c p up = 0 ∧ 0 ≤ t ∧ t < p) = false := decide_eq_false (by omega)
          rw [e1, decide_eq_false tp, if_neg (by decide), if_pos (show t ≥ p by omega)]
          by_cases tn : t < p + up.length
          · rw [if_pos (show checkC v w c p up = 0 ∧ p ≤ t ∧ t < p + up.length from ⟨h, by omega, tn⟩), decide_eq_true tn]
            by_cases tl : t < up.length
            · rw [if_pos (show checkC v w c p up = 0 ∧ 0 ≤ t ∧ t < up.length from ⟨h, t0, tl⟩), decide_eq_true tl]
              simp only [bne_self_eq_false]
              rw [if_neg nf]
              refine j1 999 _ _ _ _ (by omega) ?_ ?_ ?_ ?_ <;> intro x <;> first | exact absurd x (by decide) | rfl | exact ⟨rfl, by omega⟩
            · rw [if_neg (show ¬ (checkC v w c p up = 0 ∧ 0 ≤ t ∧ t < up.length) by omega), decide_eq_false tl]
              simp only [bne_self_eq_false]
              rw [if_neg nf]
              refine j1 999 _ _ _ _ (by omega) ?_ ?_ ?_ ?_ <;> intro x <;> first | exact absurd x (by decide) | rfl | exact ⟨rfl, by omega⟩
          · rw [if_neg (show ¬ (checkC v w c p up = 0 ∧ p ≤ t ∧ t < p + up.length) by omega), decide_eq_false tn]
            rw [if_neg (show ¬ (checkC v w c p up = 0 ∧ 0 ≤ t ∧ t < up.length) by omega), decide_eq_false (show ¬ t < up.length by omega)]
            simp only [bne_self_eq_false]
            rw [if_neg nf]
            refine j1 999 _ _ _ _ (by omega) ?_ ?_ ?_ ?_ <;> intro x <;> first | exact absurd x (by decide) | rfl | exact ⟨rfl, by omega⟩
      · rw [if_neg t0]
        have e1 : decide (checkC v w c p up = 0 ∧ 0 ≤ t ∧ t < p) = false := decide_eq_false (by omega)
        rw [e1, if_neg (show ¬ (checkC v w c p up = 0 ∧ p ≤ t ∧ t < p + up.length) by omega), if_neg (show ¬ (checkC v w c p up = 0 ∧ 0 ≤ t ∧ t < up.length) by omega)]
        simp only [bne_self_eq_false]
        rw [if_neg nf, if_neg (show ¬ t ≥ p by omega), if_neg nf]
        refine j1 999 _ _ _ _ (by omega) ?_ ?_ ?_ ?_ <;> intro x <;> first | exact absurd x (by decide) | rfl | exact ⟨rfl, by omega⟩
    · have h0 : (!(checkC v w c p up == 0)) = true := by simpa using h
      rw [h0, hl]
end Go.Proofs.Ytkakgmpcenfjlaa.QCf
