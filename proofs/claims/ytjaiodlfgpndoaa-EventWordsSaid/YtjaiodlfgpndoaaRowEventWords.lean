/- The row of the law EventWords: for every input the call returns true, and each argument reads afterwards as it read before. No condition. -/
import Derived.Test.YtjaiodlfgpndoaaRow
import Derived.Test.YtjaiodlfgpndoaaWalkWords
set_option linter.unusedVariables false
namespace Go.Proofs.Ytjaiodlfgpndoaa.eventWords
open Go.ChangeShapes Go.WideShapes Go.ChangeAt Go.RowKit
open Go.ChangeMaps (open_string shut_string)
set_option maxRecDepth 100000 in
theorem lifted (os : Os) (started : os.Started) (H : Type) (enc : TypeId × Value → H) :
    ReturnsInHanded {} Try.checked os 7 .any (Rows.eventWordsSpec.pre6 enc Try.prog Try.f7 Rows.eventWordsRow.domain false) (Rows.eventWordsSpec.post enc Try.prog Try.f7 false true false false) := by
  refine Row.lift os started H enc (by kernel_rfl) Try.func7 rfl rfl rfl [3, 9] rfl (by kernel_rfl) ?_
    (ChangeSpec.witness6 (enc := enc) (C := Try.checked) false ⟨#[], #[.int .i64 0, .string ByteArray.empty], []⟩ 8 (by kernel_rfl) (by kernel_rfl) (by kernel_rfl) (by kernel_rfl)) ?_
  · intro ds hl
    match ds, hl with
    | [d0, d1], _ => exact ⟨rfl, rfl, rfl⟩
  · intro W base args ds ps hval hA hsz
    obtain ⟨v0, vs0, d0, ds0, p0, q0, hargs, rfl, rfl, h0, r0⟩ := trodAll_cons hA
    obtain ⟨v1, vs1, d1, ds1, p1, q1, rfl, rfl, rfl, h1, r1⟩ := trodAll_cons r0
    obtain ⟨rfl, rfl, rfl⟩ := trodAll_nil r1
    obtain rfl : args = #[v0, v1] := by cases args; simp_all
    obtain ⟨a0, rfl, rfl, rfl, w0⟩ := open_int Try.underlying3 (hval 0 3 v0 rfl rfl) h0
    obtain ⟨a1, rfl, rfl, rfl, y1⟩ := open_string Try.underlying9 (hval 1 9 v1 rfl rfl) h1
    exact Words.walkWords a0 a1 W
theorem over : Rows.eventWordsRow.holds Try.pinned (OpenSpec.ofChange Rows.eventWordsSpec) :=
  OpenClaim.holds_of_wide 7 Try.f7 rfl rfl rfl rfl rfl rfl rfl ⟨rfl, rfl, rfl, rfl, rfl⟩ rfl rfl rfl rfl rfl (by kernel_rfl) Try.func7 (by kernel_rfl)
    (of_decide_eq_true (by kernel_rfl)) (by unfold Func.isWrapper; first | (rw [if_pos (by decide +kernel)]; kernel_rfl) | (rw [if_neg (by decide +kernel)]; exact ⟨rfl, rfl⟩))
    (fun os started H enc _ => lifted os started H enc)
end Go.Proofs.Ytjaiodlfgpndoaa.eventWords
namespace Go.Proofs.Ytjaiodlfgpndoaa
theorem eventWords_holds : Rows.EventWordsSaid := eventWords.over
#print axioms eventWords_holds
end Go.Proofs.Ytjaiodlfgpndoaa
