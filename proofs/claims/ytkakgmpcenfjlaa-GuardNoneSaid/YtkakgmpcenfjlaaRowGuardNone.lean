/- The row of the law GuardNone: for every input the call returns true, and each argument reads afterwards as it read before. No condition. -/
import Derived.Test.YtkakgmpcenfjlaaRow
import Derived.Test.YtkakgmpcenfjlaaDoOpen
import Derived.Test.YtkakgmpcenfjlaaGuardO
set_option linter.unusedVariables false
namespace Go.Proofs.Ytkakgmpcenfjlaa.guardNone
open Go.ChangeShapes Go.WideShapes Go.ChangeAt Go.RowKit
open Go.ChangeMaps (open_string shut_string)
set_option maxRecDepth 100000 in
theorem lifted (os : Os) (started : os.Started) (H : Type) (enc : TypeId × Value → H) :
    ReturnsInHanded {} Try.checked os 7 .any (Rows.guardNoneSpec.pre6 enc Try.prog Try.f7 Rows.guardNoneRow.domain false) (Rows.guardNoneSpec.post enc Try.prog Try.f7 false true false false) := by
  refine Row.lift os started H enc (by kernel_rfl) Try.func7 rfl rfl rfl [44, 3, 4] rfl (by kernel_rfl) ?_
    (ChangeSpec.witness6 (enc := enc) (C := Try.checked) false ⟨#[], #[.agg #[.int .i64 0, .int .i64 0, .int .u64 0, .int .i64 0, .int .i64 0, .slice none 0 0], .int .i64 0, .bool false], []⟩ 8 (by kernel_rfl) (by kernel_rfl) (by kernel_rfl) (by kernel_rfl)) ?_
  · intro ds hl
    match ds, hl with
    | [d0, d1, d2], _ => exact ⟨rfl, rfl, rfl⟩
  · intro W base args ds ps hval hA hsz
    obtain ⟨v0, vs0, d0, ds0, p0, q0, hargs, rfl, rfl, h0, r0⟩ := trodAll_cons hA
    obtain ⟨v1, vs1, d1, ds1, p1, q1, rfl, rfl, rfl, h1, r1⟩ := trodAll_cons r0
    obtain ⟨v2, vs2, d2, ds2, p2, q2, rfl, rfl, rfl, h2, r2⟩ := trodAll_cons r1
    obtain ⟨rfl, rfl, rfl⟩ := trodAll_nil r2
    obtain rfl : args = #[v0, v1, v2] := by cases args; simp_all
    have hk := hval 0 44 v0 rfl rfl
    obtain ⟨cs, rfl⟩ : ∃ cs, v0 = .agg cs := by
      unfold Value.okWide at hk
      rw [Try.underlying44] at hk
      obtain ⟨cs, e, _⟩ := hk
      exact ⟨cs, e⟩
    obtain ⟨⟨y0, y1, y2, y3, y4, y5⟩, hK, _⟩ := Open.arg_agg Handle.readsDo h0
    obtain ⟨_, _, hcs, rfl, _, _, rfl, rfl, _, _, rfl, rfl, _, _, rfl, rfl, _, _, rfl, rfl, B, C, rfl, hlC, _⟩ := hK
    obtain rfl : cs = #[.int .i64 y0, .int .i64 y1, .int .u64 y2, .int .i64 y3, .int .i64 y4, .slice B y5.length C] := by
      apply Array.toList_inj.1
      exact hcs
    obtain ⟨a1, rfl, rfl, rfl, w1⟩ := open_int Try.underlying3 (hval 1 3 v1 rfl rfl) h1
    obtain ⟨a2, rfl, rfl, rfl⟩ := open_bool Try.underlying4 (hval 2 4 v2 rfl rfl) h2
    by_cases hl : 100 < y5.length
    · exact Handle.walkNoneL ⟨y0, y1, y2, y3, y4, B, y5.length, C⟩ a1 a2 W hl
    · exact Handle.walkNone ⟨y0, y1, y2, y3, y4, B, y5.length, C⟩ a1 a2 W hl
theorem over : Rows.guardNoneRow.holds Try.pinned (OpenSpec.ofChange Rows.guardNoneSpec) :=
  OpenClaim.holds_of_wide 7 Try.f7 rfl rfl rfl rfl rfl rfl rfl ⟨rfl, rfl, rfl, rfl, rfl⟩ rfl rfl rfl rfl rfl (by kernel_rfl) Try.func7 (by kernel_rfl)
    (of_decide_eq_true (by kernel_rfl)) (by unfold Func.isWrapper; first | (rw [if_pos (by decide +kernel)]; kernel_rfl) | (rw [if_neg (by decide +kernel)]; exact ⟨rfl, rfl⟩))
    (fun os started H enc _ => lifted os started H enc)
end Go.Proofs.Ytkakgmpcenfjlaa.guardNone
namespace Go.Proofs.Ytkakgmpcenfjlaa
theorem guardNone_holds : Rows.GuardNoneSaid := guardNone.over
#print axioms guardNone_holds
end Go.Proofs.Ytkakgmpcenfjlaa
