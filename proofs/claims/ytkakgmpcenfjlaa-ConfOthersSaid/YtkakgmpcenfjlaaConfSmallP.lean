/- What configurations have: plain laws. -/
import Derived.Test.YtkakgmpcenfjlaaConfP
set_option linter.unusedVariables false
set_option linter.unusedSimpArgs false
namespace Go.Proofs.Ytkakgmpcenfjlaa.QCf
open Go.RowKit Go.Proofs.YtkakgmpcenfjlaaW.PrintWords Go.Proofs.YtkakgmpcenfjlaaW.PrintLast Go.Proofs.YtkakgmpcenfjlaaW.PrintMore Go.Proofs.Ytkakgmpcenfjlaa.Graph Go.Proofs.Ytkakgmpcenfjlaa.QGc
theorem checkG_zero {up : List (List Int)} (h : checkG up = 0) : 1 ≤ up.length ∧ up.length ≤ 6 ∧ okAll up ∧ ∀ c, c < up.length → reachB up c c = false := by
  unfold checkG at h
  by_cases h1 : up.length < 1 ∨ 6 < up.length
  · rw [if_pos h1] at h; exact absurd h (by decide)
  · rw [if_neg h1] at h
    by_cases h2 : okAll up
    · rw [if_neg (fun x => x h2)] at h
      by_cases h3 : ((List.range up.length).any fun c => reachB up c c) = true
      · rw [if_pos h3] at h; exact absurd h (by decide)
      · refine ⟨by omega, by omega, h2, fun c hc => ?_⟩
        cases hb : reachB up c c with
        | false => rfl
        | true => exact absurd (List.any_eq_true.2 ⟨c, List.mem_range.2 hc, hb⟩ : ((List.range up.length).any fun c => reachB up c c) = true) h3
    · rw [if_pos h2] at h; exact absurd h (by decide)
theorem checkC_zero {v w c p : Int} {up : List (List Int)} (h : checkC v w c p up = 0) : (1 ≤ v ∧ v ≤ 5) ∧ (w = 32 ∨ w = 64) ∧ rightB c = true ∧ (1 ≤ p ∧ p ≤ 4 ∧ (v = 1 → p = 1)) ∧ checkG up = 0 ∧ boundB w c p = false ∧ c ≤ 64 := by
  unfold checkC at h
  by_cases h1 : v < 1 ∨ 5 < v
  · rw [if_pos h1] at h; exact absurd h (by decide)
  rw [if_neg h1] at h
  by_cases h2 : w = 32 ∨ w = 64
  · rw [if_neg (fun x => x h2)] at h
    cases h3 : rightB c with
    | false => rw [if_pos h3] at h; exact absurd h (by decide)
    | true =>
      rw [if_neg (by rw [h3]; decide)] at h
      by_cases h4 : p < 1 ∨ 4 < p ∨ (v = 1 ∧ 1 < p)
      · rw [if_pos h4] at h; exact absurd h (by decide)
      · rw [if_neg h4] at h
        by_cases h5 : checkG up = 0
        · rw [if_neg (fun x => x h5)] at h
          cases h6 : boundB w c p with
          | true => rw [if_pos h6] at h; exact absurd h (by decide)
          | false =>
            rw [if_neg (by rw [h6]; decide)] at h
            by_cases h7 : 64 < c
            · rw [if_pos h7] at h; exact absurd h (by decide)
            · exact ⟨by omega, h2, rfl, by omega, h5, rfl, by omega⟩
        · rw [if_pos h5] at h; exact absurd h h5
  · rw [if_pos h2] at h; exact absurd h (by decide)
section
variable {v w c p s : Int} {up : List (List Int)}
theorem threads_ok (hs : Sm up) : conf_Threads.f v w c p s up = some (if checkC v w c p up = 0 then p + up.length else 0) := by
  unfold conf_Threads.f
  rw [conf_check_ok v w c p s up hs, Option.bind_some]
  by_cases h : checkC v w c p up = 0
  · obtain ⟨_, _, _, hp, hg, _⟩ := checkC_zero h
    have := checkG_zero hg
    rw [if_pos h, if_pos h, w64_in (by omega) (by omega)]
  · rw [if_neg h, if_neg h]
theorem consumer_ok (hs : Sm up) (t : Int) (ht : -9223372036854775808 ≤ t ∧ t < 9223372036854775808) : conf_Consumer.f v w c p s up t = some (if checkC v w c p up = 0 ∧ p ≤ t ∧ t < p + up.length then (t - p, true) else (0, false)) := by
  unfold conf_Consumer.f
  rw [threads_ok hs, Option.bind_some]
  by_cases h : checkC v w c p up = 0
  · obtain ⟨_, _, _, hp, hg, _⟩ := checkC_zero h
    have := checkG_zero hg
    rw [if_pos h]
    by_cases h1 : t < 0
    · rw [if_pos h1, if_neg (by omega)]
    · rw [if_neg h1]
      by_cases h2 : t ≥ p + up.length
      · rw [if_pos h2, if_neg (by omega)]
      · rw [if_neg h2]
        by_cases h3 : t < p
        · rw [if_pos h3, if_neg (by omega)]
        · rw [if_neg h3, if_pos ⟨h, by omega, by omega⟩, w64_in (by omega) (by omega)]
  · rw [if_neg h, if_neg (show ¬ (checkC v w c p up = 0 ∧ p ≤ t ∧ t < p + up.length) from fun x => h x.1)]
    by_cases h1 : t < 0
    · rw [if_pos h1]
    · rw [if_neg h1, if_pos (by omega)]
theorem thread_ok (hs : Sm up) (t : Int) : conf_Thread.f v w c p s up t = some (if checkC v w c p up = 0 ∧ 0 ≤ t ∧ t < up.length then (t + p, true) else (0, false)) := by
  unfold conf_Thread.f
  rw [conf_check_ok v w c p s up hs, Option.bind_some]
  by_cases h : checkC v w c p up = 0
  · obtain ⟨_, _, _, hp, hg, _⟩ := checkC_zero h
    have := checkG_zero hg
    rw [if_pos h]
    by_cases h1 : t < 0
    · rw [if_pos h1, if_neg (by omega)]
    · rw [if_neg h1]
      by_cases h2 : t ≥ up.length
      · rw [if_pos h2, if_neg (by omega)]
      · rw [if_neg h2, if_pos ⟨h, by omega, by omega⟩, w64_in (by omega) (by omega), Int.add_comm]
  · rw [if_neg h, if_neg (show ¬ (checkC v w c p up = 0 ∧ 0 ≤ t ∧ t < up.length) from fun x => h x.1)]
theorem producer_ok (hs : Sm up) (t : Int) : conf_Producer.f v w c p s up t = some (decide (checkC v w c p up = 0 ∧ 0 ≤ t ∧ t < p)) := by
  unfold conf_Producer.f
  rw [conf_check_ok v w c p s up hs, Option.bind_some]
  by_cases h : checkC v w c p up = 0
  · rw [if_pos h]
    by_cases h1 : t ≥ 0
    · rw [if_pos h1]
      congr 1
      rw [decide_eq_decide]
      exact ⟨fun x => ⟨h, h1, x⟩, fun x => x.2.2⟩
    · rw [if_neg h1, decide_eq_false (by omega)]
  · rw [if_neg h, decide_eq_false (fun x => h x.1)]
def cutN (w s : Int) : Int := if w = 32 then s % 4294967296 else if w = 64 then s else 0
theorem cut_ok (hs0 : 0 ≤ s) : wide_Cut.f w s = some (cutN w s) := by
  unfold wide_Cut.f cutN wide_Of_uint32.f wide_Up_uint32.f
  by_cases h : w = 32
  · rw [if_pos h, if_pos h]
    simp only [Option.bind_some]
    rw [u64_in (by omega) (by omega)]
  · rw [if_neg h, if_neg h]
    split <;> rfl
theorem rcut_ok (hs0 : 0 ≤ s) : sakiaref01_Cut.f w s = some (cutN w s) := by
  unfold sakiaref01_Cut.f cutN
  rw [Int.tmod_eq_emod_of_nonneg hs0]
  split
  · rfl
  · split <;> rfl
theorem start_ok (hs : Sm up) (hs0 : 0 ≤ s) : conf_Start.f v w c p s up = some (if checkC v w c p up = 0 then cutN w s else 0) := by
  unfold conf_Start.f
  rw [conf_check_ok v w c p s up hs, Option.bind_some, cut_ok hs0]
  split <;> rfl
theorem rstart_ok (hs0 : 0 ≤ s) : sakiaref10_Start.f v w c p s up = some (cutN w s) := by
  unfold sakiaref10_Start.f
  rw [rcut_ok hs0]
  rfl
def turnsN (c p : Int) (n : Nat) : Int := (p + n + 1) * (4 * c + n + 8)
theorem turns_ok (hs : Sm up) : conf_Turns.f v w c p s up = some (if checkC v w c p up = 0 then turnsN c p up.length else 0) := by
  unfold conf_Turns.f
  rw [conf_check_ok v w c p s up hs, Option.bind_some, threads_ok hs, Option.bind_some]
  by_cases h : checkC v w c p up = 0
  · obtain ⟨_, _, hc, hp, hg, _, hc64⟩ := checkC_zero h
    have := checkG_zero hg
    have := right_bd hc
    have h1 : 0 ≤ (p + up.length + 1) * (4 * c + up.length + 8) := Int.mul_nonneg (by omega) (by omega)
    have h2 : (p + up.length + 1) * (4 * c + up.length + 8) ≤ 11 * 270 := Int.mul_le_mul (by omega) (by omega) (by omega) (by omega)
    rw [if_pos h, if_pos h, if_pos h, w64_in (x := 4 * c) (by omega) (by omega), w64_in (x := 4 * c + _) (by omega) (by omega), w64_in (x := 4 * c + _ + 8) (by omega) (by omega), w64_in (x := p + _ + 1) (by omega) (by omega), w64_in (by omega) (by omega)]
    rfl
  · rw [if_neg h, if_neg h]
theorem rturns_ok (h : checkC v w c p up = 0) : sakiaref10_Turns.f v w c p s up = some (turnsN c p up.length) := by
  obtain ⟨_, _, hc, hp, hg, _, hc64⟩ := checkC_zero h
  have := checkG_zero hg
  have := right_bd hc
  have h1 : 0 ≤ (p + up.length + 1) * (4 * c + up.length + 8) := Int.mul_nonneg (by omega) (by omega)
  have h2 : (p + up.length + 1) * (4 * c + up.length + 8) ≤ 11 * 270 := Int.mul_le_mul (by omega) (by omega) (by omega) (by omega)
  unfold sakiaref10_Turns.f sakiaref10_Threads.f
  rw [w64_in (x := p + _) (by omega) (by omega), Option.bind_some, w64_in (x := 4 * c) (by omega) (by omega), w64_in (x := 4 * c + _) (by omega) (by omega), w64_in (x := 4 * c + _ + 8) (by omega) (by omega), w64_in (x := p + _ + 1) (by omega) (by omega), w64_in (by omega) (by omega)]
  rfl
theorem rthreads_ok (h : checkC v w c p up = 0) : sakiaref10_Threads.f v w c p s up = some (p + up.length) := by
  obtain ⟨_, _, hc, hp, hg, _⟩ := checkC_zero h
  have := checkG_zero hg
  unfold sakiaref10_Threads.f
  rw [w64_in (by omega) (by omega)]
end
end Go.Proofs.Ytkakgmpcenfjlaa.QCf
