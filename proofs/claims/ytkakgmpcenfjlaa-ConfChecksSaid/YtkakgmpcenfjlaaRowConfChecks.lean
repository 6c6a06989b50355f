/- The row of the law ConfChecks: for every input the call returns true, and each argument reads afterwards as it read before. No condition. -/
import Derived.Test.YtkakgmpcenfjlaaRow
import Derived.Test.YtkakgmpcenfjlaaConfOpen
import Derived.Test.YtkakgmpcenfjlaaConfChecksP
set_option linter.unusedVariables false
namespace Go.Proofs.Ytkakgmpcenfjlaa.confChecks
open Go.ChangeShapes Go.WideShapes Go.ChangeAt Go.RowKit
open Go.ChangeMaps (open_string shut_string)
set_option maxRecDepth 100000 in
theorem lifted (os : Os) (started : os.Started) (H : Type) (enc : TypeId × Value → H) :
    ReturnsInHanded {} Try.checked os 9 .any (Rows.confChecksSpec.pre6 enc Try.prog Try.f9 Rows.confChecksRow.domain false) (Rows.confChecksSpec.post enc Try.prog Try.f9 false true false false) := by
  refine Row.lift os started H enc (by kernel_rfl) Try.func9 rfl rfl rfl [25, 3] rfl (by kernel_rfl) ?_
    (ChangeSpec.witness6 (enc := enc) (C := Try.checked) false ⟨#[], #[.agg #[.int .i64 0, .int .i64 0, .int .i64 0, .int .i64 0, .int .u64 0, .slice none 0 0], .int .i64 0], []⟩ 8 (by kernel_rfl) (by kernel_rfl) (by kernel_rfl) (by kernel_rfl)) ?_
  · intro ds hl
    match ds, hl with
    | [d0, d1], _ => exact ⟨rfl, rfl, rfl⟩
  · intro W base args ds ps hval hA hsz
    obtain ⟨v0, vs0, d0, ds0, p0, q0, hargs, rfl, rfl, h0, r0⟩ := trodAll_cons hA
    obtain ⟨v1, vs1, d1, ds1, p1, q1, rfl, rfl, rfl, h1, r1⟩ := trodAll_cons r0
    obtain ⟨rfl, rfl, rfl⟩ := trodAll_nil r1
    obtain rfl : args = #[v0, v1] := by cases args; simp_all
    obtain ⟨a, b, c, p, s, A, C, up, rfl, hC, hlC, hs0, hs1⟩ := Graph.open_conf (Graph.agg_of Try.underlying25 (hval 0 25 v0 rfl rfl)) h0
    obtain ⟨t, rfl, rfl, rfl, w1⟩ := open_int Try.underlying3 (hval 1 3 v1 rfl rfl) h1
    exact (QCf.sakialaw10_ConfChecks.calls 1000 a b c p s A C up t true W hC hlC (QCf.checks_ok a b c p s t up (Graph.i64_wf w1) hs0)).mono fun e w' h => ⟨h.1, h.2⟩
theorem over : Rows.confChecksRow.holds Try.pinned (OpenSpec.ofChange Rows.confChecksSpec) :=
  OpenClaim.holds_of_wide 9 Try.f9 rfl rfl rfl rfl rfl rfl rfl ⟨rfl, rfl, rfl, rfl, rfl⟩ rfl rfl rfl rfl rfl (by kernel_rfl) Try.func9 (by kernel_rfl)
    (of_decide_eq_true (by kernel_rfl)) (by unfold Func.isWrapper; first | (rw [if_pos (by decide +kernel)]; kernel_rfl) | (rw [if_neg (by decide +kernel)]; exact ⟨rfl, rfl⟩))
    (fun os started H enc _ => lifted os started H enc)
end Go.Proofs.Ytkakgmpcenfjlaa.confChecks
namespace Go.Proofs.Ytkakgmpcenfjlaa
theorem confChecks_holds : Rows.ConfChecksSaid := confChecks.over
#print axioms confChecks_holds
end Go.Proofs.Ytkakgmpcenfjlaa
