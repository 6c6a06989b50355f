/- The row of the law WideCuts: for every input the call returns true, and each argument reads afterwards as it read before. No condition. -/
import Derived.Test.YtjaiodlfgpndoaaRow
import Derived.Test.YtjaiodlfgpndoaaOpen
import Derived.Test.YtjaiodlfgpndoaaWide
set_option linter.unusedVariables false
namespace Go.Proofs.Ytjaiodlfgpndoaa.wideCuts
open Go.ChangeShapes Go.WideShapes Go.ChangeAt Go.RowKit
open Go.ChangeMaps (open_string shut_string)
set_option maxRecDepth 100000 in
theorem lifted (os : Os) (started : os.Started) (H : Type) (enc : TypeId × Value → H) :
    ReturnsInHanded {} Try.checked os 6 .any (Rows.wideCutsSpec.pre6 enc Try.prog Try.f6 Rows.wideCutsRow.domain false) (Rows.wideCutsSpec.post enc Try.prog Try.f6 false true false false) := by
  refine Row.lift os started H enc (by kernel_rfl) Try.func6 rfl rfl rfl [3, 40, 3] rfl (by kernel_rfl) ?_
    (ChangeSpec.witness6 (enc := enc) (C := Try.checked) false ⟨#[], #[.int .i64 0, .agg #[.int .u64 0, .int .u64 0], .int .i64 0], []⟩ 8 (by kernel_rfl) (by kernel_rfl) (by kernel_rfl) (by kernel_rfl)) ?_
  · intro ds hl
    match ds, hl with
    | [d0, d1, d2], _ => exact ⟨rfl, rfl, rfl⟩
  · intro W base args ds ps hval hA hsz
    obtain ⟨v0, vs0, d0, ds0, p0, q0, hargs, rfl, rfl, h0, r0⟩ := trodAll_cons hA
    obtain ⟨v1, vs1, d1, ds1, p1, q1, rfl, rfl, rfl, h1, r1⟩ := trodAll_cons r0
    obtain ⟨v2, vs2, d2, ds2, p2, q2, rfl, rfl, rfl, h2, r2⟩ := trodAll_cons r1
    obtain ⟨rfl, rfl, rfl⟩ := trodAll_nil r2
    obtain rfl : args = #[v0, v1, v2] := by cases args; simp_all
    obtain ⟨a0, rfl, rfl, rfl, w0⟩ := open_int Try.underlying3 (hval 0 3 v0 rfl rfl) h0
    obtain ⟨a2, rfl, rfl, rfl, w2⟩ := open_int Try.underlying3 (hval 2 3 v2 rfl rfl) h2
    have hk := hval 1 40 v1 rfl rfl
    obtain ⟨cs, rfl⟩ : ∃ cs, v1 = .agg cs := by
      unfold Value.okWide at hk
      rw [Try.underlying40] at hk
      obtain ⟨cs, e, _⟩ := hk
      exact ⟨cs, e⟩
    obtain ⟨⟨a, b⟩, ⟨_, _, hcs, rfl, rfl⟩, wa, wb⟩ := Open.arg_agg (Open.reads_array Try.underlying40 (by kernel_rfl) (Open.freads_cons (off' := 1) (by kernel_rfl) rfl (Open.reads_int Try.underlying22) (Open.freads_one (by kernel_rfl) (Open.reads_int Try.underlying22)))) h1
    obtain rfl : cs = #[.int .u64 a, .int .u64 b] := by
      apply Array.toList_inj.1
      exact hcs
    exact Wide.walkCuts a0 a b a2 (Wide.u64_bd wa).1 (Wide.u64_bd wb).1 W
theorem over : Rows.wideCutsRow.holds Try.pinned (OpenSpec.ofChange Rows.wideCutsSpec) :=
  OpenClaim.holds_of_wide 6 Try.f6 rfl rfl rfl rfl rfl rfl rfl ⟨rfl, rfl, rfl, rfl, rfl⟩ rfl rfl rfl rfl rfl (by kernel_rfl) Try.func6 (by kernel_rfl)
    (of_decide_eq_true (by kernel_rfl)) (by unfold Func.isWrapper; first | (rw [if_pos (by decide +kernel)]; kernel_rfl) | (rw [if_neg (by decide +kernel)]; exact ⟨rfl, rfl⟩))
    (fun os started H enc _ => lifted os started H enc)
end Go.Proofs.Ytjaiodlfgpndoaa.wideCuts
namespace Go.Proofs.Ytjaiodlfgpndoaa
theorem wideCuts_holds : Rows.WideCutsSaid := wideCuts.over
#print axioms wideCuts_holds
end Go.Proofs.Ytjaiodlfgpndoaa
