/- The row of the law ConfOthers: for every input the call returns true, and each argument reads afterwards as it read before. No condition. -/
import Derived.Test.YtkakgmpcenfjlaaRow
import Derived.Test.YtkakgmpcenfjlaaConfOpen
import Derived.Test.YtkakgmpcenfjlaaConfOthersW
set_option linter.unusedVariables false
namespace Go.Proofs.Ytkakgmpcenfjlaa.confOthers
open Go.ChangeShapes Go.WideShapes Go.ChangeAt Go.RowKit
open Go.ChangeMaps (open_string shut_string)
set_option maxRecDepth 100000 in
theorem lifted (os : Os) (started : os.Started) (H : Type) (enc : TypeId × Value → H) :
    ReturnsInHanded {} Try.checked os 8 .any (Rows.confOthersSpec.pre6 enc Try.prog Try.f8 Rows.confOthersRow.domain false) (Rows.confOthersSpec.post enc Try.prog Try.f8 false true false false) := by
  refine Row.lift os started H enc (by kernel_rfl) Try.func8 rfl rfl rfl [25] rfl (by kernel_rfl) ?_
    (ChangeSpec.witness6 (enc := enc) (C := Try.checked) false ⟨#[], #[.agg #[.int .i64 0, .int .i64 0, .int .i64 0, .int .i64 0, .int .u64 0, .slice none 0 0]], []⟩ 8 (by kernel_rfl) (by kernel_rfl) (by kernel_rfl) (by kernel_rfl)) ?_
  · intro ds hl
    match ds, hl with
    | [d0], _ => exact ⟨rfl, rfl, rfl⟩
  · intro W base args ds ps hval hA hsz
    obtain ⟨v0, vs0, d0, ds0, p0, q0, hargs, rfl, rfl, h0, r0⟩ := trodAll_cons hA
    obtain ⟨rfl, rfl, rfl⟩ := trodAll_nil r0
    obtain rfl : args = #[v0] := by cases args; simp_all
    obtain ⟨a, b, c, p, s, A, C, up, rfl, hC, hlC, hs0, hs1⟩ := Graph.open_conf (Graph.agg_of Try.underlying25 (hval 0 25 v0 rfl rfl)) h0
    exact QCf.walkOthers a b c p s A C up W hC hlC hs0
theorem over : Rows.confOthersRow.holds Try.pinned (OpenSpec.ofChange Rows.confOthersSpec) :=
  OpenClaim.holds_of_wide 8 Try.f8 rfl rfl rfl rfl rfl rfl rfl ⟨rfl, rfl, rfl, rfl, rfl⟩ rfl rfl rfl rfl rfl (by kernel_rfl) Try.func8 (by kernel_rfl)
    (of_decide_eq_true (by kernel_rfl)) (by unfold Func.isWrapper; first | (rw [if_pos (by decide +kernel)]; kernel_rfl) | (rw [if_neg (by decide +kernel)]; exact ⟨rfl, rfl⟩))
    (fun os started H enc _ => lifted os started H enc)
end Go.Proofs.Ytkakgmpcenfjlaa.confOthers
namespace Go.Proofs.Ytkakgmpcenfjlaa
theorem confOthers_holds : Rows.ConfOthersSaid := confOthers.over
#print axioms confOthers_holds
end Go.Proofs.Ytkakgmpcenfjlaa
