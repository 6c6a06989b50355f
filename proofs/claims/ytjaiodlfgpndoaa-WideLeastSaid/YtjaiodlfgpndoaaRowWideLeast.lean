/- The row of the law WideLeast: for every input the call returns true, and each argument reads afterwards as it read before. No condition. -/
import Derived.Test.YtjaiodlfgpndoaaRow
import Derived.Test.YtjaiodlfgpndoaaOpen
import Derived.Test.YtjaiodlfgpndoaaLeast
set_option linter.unusedVariables false
namespace Go.Proofs.Ytjaiodlfgpndoaa.wideLeast
open Go.ChangeShapes Go.WideShapes Go.ChangeAt Go.RowKit
open Go.ChangeMaps (open_string shut_string)
set_option maxRecDepth 100000 in
theorem lifted (os : Os) (started : os.Started) (H : Type) (enc : TypeId × Value → H) :
    ReturnsInHanded {} Try.checked os 5 .any (Rows.wideLeastSpec.pre6 enc Try.prog Try.f5 Rows.wideLeastRow.domain false) (Rows.wideLeastSpec.post enc Try.prog Try.f5 false true false false) := by
  refine Row.lift os started H enc (by kernel_rfl) Try.func5 rfl rfl rfl [22, 34] rfl (by kernel_rfl) ?_
    (ChangeSpec.witness6 (enc := enc) (C := Try.checked) false ⟨#[], #[.int .u64 0, .slice none 0 0], []⟩ 8 (by kernel_rfl) (by kernel_rfl) (by kernel_rfl) (by kernel_rfl)) ?_
  · intro ds hl
    match ds, hl with
    | [d0, d1], _ => exact ⟨rfl, rfl, rfl⟩
  · intro W base args ds ps hval hA hsz
    obtain ⟨v0, vs0, d0, ds0, p0, q0, hargs, rfl, rfl, h0, r0⟩ := trodAll_cons hA
    obtain ⟨v1, vs1, d1, ds1, p1, q1, rfl, rfl, rfl, h1, r1⟩ := trodAll_cons r0
    obtain ⟨rfl, rfl, rfl⟩ := trodAll_nil r1
    obtain rfl : args = #[v0, v1] := by cases args; simp_all
    obtain ⟨a0, rfl, rfl, rfl, w0⟩ := open_int Try.underlying22 (hval 0 22 v0 rfl rfl) h0
    obtain ⟨A, c, l, rfl, hlc, hC, hm, hF⟩ := Open.arg_slice (Open.reads_slice Try.underlying34 (by kernel_rfl) (Open.reads_int Try.underlying21)) (okWide_slice Try.underlying34 (hval 1 34 v1 rfl rfl)) h1
    obtain ⟨k, hk⟩ := Pure.WideLeast a0 l w0 hF
    refine (QLeast.sakialaw01_WideLeast.calls k a0 A c l true W hC hlc hk).mono fun e W' ⟨he, hw⟩ => ?_
    exact ⟨he, hw⟩
theorem over : Rows.wideLeastRow.holds Try.pinned (OpenSpec.ofChange Rows.wideLeastSpec) :=
  OpenClaim.holds_of_wide 5 Try.f5 rfl rfl rfl rfl rfl rfl rfl ⟨rfl, rfl, rfl, rfl, rfl⟩ rfl rfl rfl rfl rfl (by kernel_rfl) Try.func5 (by kernel_rfl)
    (of_decide_eq_true (by kernel_rfl)) (by unfold Func.isWrapper; first | (rw [if_pos (by decide +kernel)]; kernel_rfl) | (rw [if_neg (by decide +kernel)]; exact ⟨rfl, rfl⟩))
    (fun os started H enc _ => lifted os started H enc)
end Go.Proofs.Ytjaiodlfgpndoaa.wideLeast
namespace Go.Proofs.Ytjaiodlfgpndoaa
theorem wideLeast_holds : Rows.WideLeastSaid := wideLeast.over
#print axioms wideLeast_holds
end Go.Proofs.Ytjaiodlfgpndoaa
