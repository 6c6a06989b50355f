/- ConfChecks: the plain law. -/
import Derived.Test.YtkakgmpcenfjlaaConfSmallP
import Derived.Test.YtkakgmpcenfjlaaOthers
import Derived.Test.YtkakgmpcenfjlaaQCfx11
set_option linter.unusedVariables false
set_option linter.unusedSimpArgs false
namespace Go.Proofs.Ytkakgmpcenfjlaa.QCf
open Go.RowKit Go.Proofs.YtkakgmpcenfjlaaW.PrintWords Go.Proofs.YtkakgmpcenfjlaaW.PrintLast Go.Proofs.YtkakgmpcenfjlaaW.PrintMore Go.Proofs.Ytkakgmpcenfjlaa.Graph Go.Proofs.Ytkakgmpcenfjlaa.QGc
theorem none_ok {v w c p s t : Int} {up : List (List Int)} (hs : Sm up) (ht : -9223372036854775808 ≤ t ∧ t < 9223372036854775808) (hs0 : 0 ≤ s) (h : ¬ checkC v w c p up = 0) : sakialaw10_none.f v w c p s up t = some true := by
  unfold sakialaw10_none.f
  rw [consumer_ok hs t ht, thread_ok hs t, threads_ok hs, producer_ok hs t, start_ok hs hs0, turns_ok hs]
  have ho : conf_Others.f v w c p s up = some [] := by
    unfold conf_Others.f
    rw [if_pos (show Sm up ∧ 0 ≤ s from ⟨hs, hs0⟩), if_neg h]
  rw [ho]
  simp [h]
theorem checks_ok (v w c p s t : Int) (up : List (List Int)) (ht : -9223372036854775808 ≤ t ∧ t < 9223372036854775808) (hs0 : 0 ≤ s) : sakialaw10_ConfChecks.f 1000 v w c p s up t = some true := by
  unfold sakialaw10_ConfChecks.f
  obtain ⟨b, hb, hsm⟩ := long10 up 1000 (by omega)
  rw [hb, Option.bind_some]
  cases b with
  | true => rfl
  | false =>
    have hs := hsm rfl
    rw [if_neg nf, ref_check_ok v w c p s up 1000 (by omega), conf_check_ok v w c p s up hs, Option.bind_some, Option.bind_some, if_pos rfl]
    by_cases h : checkC v w c p up = 0
    · rw [if_pos h]; rfl
    · rw [if_neg h, none_ok hs ht hs0 h]; rfl
end Go.Proofs.Ytkakgmpcenfjlaa.QCf
