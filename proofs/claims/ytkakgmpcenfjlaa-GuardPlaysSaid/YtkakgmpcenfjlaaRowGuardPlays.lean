/- The row of the law GuardPlays: for every input the call returns true, and each argument reads afterwards as it read before. No condition. -/
import Derived.Test.YtkakgmpcenfjlaaRow
import Derived.Test.YtkakgmpcenfjlaaDoOpen2
import Derived.Test.YtkakgmpcenfjlaaGuardH
set_option linter.unusedVariables false
namespace Go.Proofs.Ytkakgmpcenfjlaa.guardPlays
open Go.ChangeShapes Go.WideShapes Go.ChangeAt Go.RowKit
open Go.ChangeMaps (open_string shut_string)
set_option maxRecDepth 100000 in
theorem lifted (os : Os) (started : os.Started) (H : Type) (enc : TypeId × Value → H) :
    ReturnsInHanded {} Try.checked os 6 .any (Rows.guardPlaysSpec.pre6 enc Try.prog Try.f6 Rows.guardPlaysRow.domain false) (Rows.guardPlaysSpec.post enc Try.prog Try.f6 false true false false) := by
  refine Row.lift os started H enc (by kernel_rfl) Try.func6 rfl rfl rfl [52, 22, 34] rfl (by kernel_rfl) ?_
    (ChangeSpec.witness6 (enc := enc) (C := Try.checked) false ⟨#[], #[.agg #[.int .i64 0, .bool false, .bool false, .int .u64 0, .int .i64 0, .int .i64 0, .int .i64 0], .int .u64 0, .slice none 0 0], []⟩ 8 (by kernel_rfl) (by kernel_rfl) (by kernel_rfl) (by kernel_rfl)) ?_
  · intro ds hl
    match ds, hl with
    | [d0, d1, d2], _ => exact ⟨rfl, rfl, rfl⟩
  · intro W base args ds ps hval hA hsz
    obtain ⟨v0, vs0, d0, ds0, p0, q0, hargs, rfl, rfl, h0, r0⟩ := trodAll_cons hA
    obtain ⟨v1, vs1, d1, ds1, p1, q1, rfl, rfl, rfl, h1, r1⟩ := trodAll_cons r0
    obtain ⟨v2, vs2, d2, ds2, p2, q2, rfl, rfl, rfl, h2, r2⟩ := trodAll_cons r1
    obtain ⟨rfl, rfl, rfl⟩ := trodAll_nil r2
    obtain rfl : args = #[v0, v1, v2] := by cases args; simp_all
    have hk := hval 0 52 v0 rfl rfl
    obtain ⟨cs, rfl⟩ : ∃ cs, v0 = .agg cs := by
      unfold Value.okWide at hk
      rw [Try.underlying52] at hk
      obtain ⟨cs, e, _⟩ := hk
      exact ⟨cs, e⟩
    obtain ⟨⟨y0, y1, y2, y3, y4, y5, y6⟩, hK, _⟩ := Open.arg_agg Handle.readsH h0
    obtain ⟨_, _, hcs, rfl, _, _, rfl, rfl, _, _, rfl, rfl, _, _, rfl, rfl, _, _, rfl, rfl, _, _, rfl, rfl, rfl⟩ := hK
    obtain rfl : cs = #[.int .i64 y0, .bool y1, .bool y2, .int .u64 y3, .int .i64 y4, .int .i64 y5, .int .i64 y6] := by
      apply Array.toList_inj.1
      exact hcs
    obtain ⟨a1, rfl, rfl, rfl, w1⟩ := open_int Try.underlying22 (hval 1 22 v1 rfl rfl) h1
    obtain ⟨A, c, l, rfl, hlc, hC, hm, hF⟩ := Open.arg_slice (Open.reads_slice Try.underlying34 (by kernel_rfl) Handle.readsDo2) (okWide_slice Try.underlying34 (hval 2 34 v2 rfl rfl)) h2
    cases hr : Handle.rightB y0 with
    | false =>
      cases y1 with
      | false => exact Handle.walkPlaysCN ⟨y0, false, y2, y3, y4, y5, y6⟩ a1 A l.length c W hr rfl
      | true => exact Handle.walkPlaysPN ⟨y0, true, y2, y3, y4, y5, y6⟩ a1 A l.length c W hr rfl
    | true =>
      by_cases hn : 100 < l.length
      · cases y1 with
        | false => exact Handle.walkPlaysCL ⟨y0, false, y2, y3, y4, y5, y6⟩ a1 A l.length c W hr rfl hn
        | true => exact Handle.walkPlaysPL ⟨y0, true, y2, y3, y4, y5, y6⟩ a1 A l.length c W hr rfl hn
      · obtain ⟨ds, hds, hat, hwf⟩ := Handle.do_cells2 hC hF
        have b1 : 0 ≤ a1 ∧ a1 < 18446744073709551616 := by
          have := w1
          simp [Lit.wf, IntKind.min, IntKind.max, IntKind.bits, IntKind.signed] at this
          omega
        cases y1 with
        | false =>
          have := Handle.walkPlaysC ⟨y0, false, y2, y3, y4, y5, y6⟩ a1 A c ds (Handle.Xof l) W b1.1 b1.2 hat hwf hr rfl (by omega)
          rw [hds] at this
          exact this
        | true =>
          have := Handle.walkPlaysP ⟨y0, true, y2, y3, y4, y5, y6⟩ a1 A c ds (Handle.Xof l) W b1.1 b1.2 hat hwf hr rfl (by omega)
          rw [hds] at this
          exact this
theorem over : Rows.guardPlaysRow.holds Try.pinned (OpenSpec.ofChange Rows.guardPlaysSpec) :=
  OpenClaim.holds_of_wide 6 Try.f6 rfl rfl rfl rfl rfl rfl rfl ⟨rfl, rfl, rfl, rfl, rfl⟩ rfl rfl rfl rfl rfl (by kernel_rfl) Try.func6 (by kernel_rfl)
    (of_decide_eq_true (by kernel_rfl)) (by unfold Func.isWrapper; first | (rw [if_pos (by decide +kernel)]; kernel_rfl) | (rw [if_neg (by decide +kernel)]; exact ⟨rfl, rfl⟩))
    (fun os started H enc _ => lifted os started H enc)
end Go.Proofs.Ytkakgmpcenfjlaa.guardPlays
namespace Go.Proofs.Ytkakgmpcenfjlaa
theorem guardPlays_holds : Rows.GuardPlaysSaid := guardPlays.over
#print axioms guardPlays_holds
end Go.Proofs.Ytkakgmpcenfjlaa
