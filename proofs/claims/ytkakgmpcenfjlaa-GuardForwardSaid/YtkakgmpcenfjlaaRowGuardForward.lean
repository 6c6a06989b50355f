/- The row of the law GuardForward: for every input the call returns true, and each argument reads afterwards as it read before. No condition. -/
import Derived.Test.YtkakgmpcenfjlaaRow
import Derived.Test.YtkakgmpcenfjlaaDoOpen
set_option linter.unusedVariables false
namespace Go.Proofs.Ytkakgmpcenfjlaa.guardForward
open Go.ChangeShapes Go.WideShapes Go.ChangeAt Go.RowKit
open Go.ChangeMaps (open_string shut_string)
set_option maxRecDepth 100000 in
theorem lifted (os : Os) (started : os.Started) (H : Type) (enc : TypeId × Value → H) :
    ReturnsInHanded {} Try.checked os 4 .any (Rows.guardForwardSpec.pre6 enc Try.prog Try.f4 Rows.guardForwardRow.domain false) (Rows.guardForwardSpec.post enc Try.prog Try.f4 false true false false) := by
  refine Row.lift os started H enc (by kernel_rfl) Try.func4 rfl rfl rfl [3, 22, 34] rfl (by kernel_rfl) ?_
    (ChangeSpec.witness6 (enc := enc) (C := Try.checked) false ⟨#[], #[.int .i64 0, .int .u64 0, .slice none 0 0], []⟩ 8 (by kernel_rfl) (by kernel_rfl) (by kernel_rfl) (by kernel_rfl)) ?_
  · intro ds hl
    match ds, hl with
    | [d0, d1, d2], _ => exact ⟨rfl, rfl, rfl⟩
  · intro W base args ds ps hval hA hsz
    obtain ⟨v0, vs0, d0, ds0, p0, q0, hargs, rfl, rfl, h0, r0⟩ := trodAll_cons hA
    obtain ⟨v1, vs1, d1, ds1, p1, q1, rfl, rfl, rfl, h1, r1⟩ := trodAll_cons r0
    obtain ⟨v2, vs2, d2, ds2, p2, q2, rfl, rfl, rfl, h2, r2⟩ := trodAll_cons r1
    obtain ⟨rfl, rfl, rfl⟩ := trodAll_nil r2
    obtain rfl : args = #[v0, v1, v2] := by cases args; simp_all
    obtain ⟨a0, rfl, rfl, rfl, w0⟩ := open_int Try.underlying3 (hval 0 3 v0 rfl rfl) h0
    obtain ⟨a1, rfl, rfl, rfl, w1⟩ := open_int Try.underlying22 (hval 1 22 v1 rfl rfl) h1
    obtain ⟨A, c, l, rfl, hlc, hC, hm, hF⟩ := Open.arg_slice (Open.reads_slice Try.underlying34 (by kernel_rfl) Handle.readsDo) (okWide_slice Try.underlying34 (hval 2 34 v2 rfl rfl)) h2
    cases hr : Handle.rightB a0 with
    | false => exact Handle.walkForwardN a0 a1 A l.length c W hr
    | true =>
      by_cases hn : 100 < l.length
      · exact Handle.walkForwardL a0 a1 A l.length c W hr hn
      · obtain ⟨ds, hds, hat, hwf⟩ := Handle.do_cells hC hF
        have b1 : 0 ≤ a1 ∧ a1 < 18446744073709551616 := by
          have := w1
          simp [Lit.wf, IntKind.min, IntKind.max, IntKind.bits, IntKind.signed] at this
          omega
        have := Handle.walkForward a0 a1 A c ds W (by omega) hat hwf hr b1.1 b1.2
        rw [hds] at this
        exact this
theorem over : Rows.guardForwardRow.holds Try.pinned (OpenSpec.ofChange Rows.guardForwardSpec) :=
  OpenClaim.holds_of_wide 4 Try.f4 rfl rfl rfl rfl rfl rfl rfl ⟨rfl, rfl, rfl, rfl, rfl⟩ rfl rfl rfl rfl rfl (by kernel_rfl) Try.func4 (by kernel_rfl)
    (of_decide_eq_true (by kernel_rfl)) (by unfold Func.isWrapper; first | (rw [if_pos (by decide +kernel)]; kernel_rfl) | (rw [if_neg (by decide +kernel)]; exact ⟨rfl, rfl⟩))
    (fun os started H enc _ => lifted os started H enc)
end Go.Proofs.Ytkakgmpcenfjlaa.guardForward
namespace Go.Proofs.Ytkakgmpcenfjlaa
theorem guardForward_holds : Rows.GuardForwardSaid := guardForward.over
#print axioms guardForward_holds
end Go.Proofs.Ytkakgmpcenfjlaa
