/- The row of the law ConfAlike: for every input the call returns true, and each argument reads afterwards as it read before. No condition. -/
import Derived.Test.YtkakgmpcenfjlaaRow
import Derived.Test.YtkakgmpcenfjlaaConfOpen
import Derived.Test.YtkakgmpcenfjlaaConfAlikeP
set_option linter.unusedVariables false
namespace Go.Proofs.Ytkakgmpcenfjlaa.confAlike
open Go.ChangeShapes Go.WideShapes Go.ChangeAt Go.RowKit
open Go.ChangeMaps (open_string shut_string)
set_option maxRecDepth 100000 in
theorem lifted (os : Os) (started : os.Started) (H : Type) (enc : TypeId × Value → H) :
    ReturnsInHanded {} Try.checked os 5 .any (Rows.confAlikeSpec.pre6 enc Try.prog Try.f5 Rows.confAlikeRow.domain false) (Rows.confAlikeSpec.post enc Try.prog Try.f5 false true false false) := by
  refine Row.lift os started H enc (by kernel_rfl) Try.func5 rfl rfl rfl [25, 25, 3] rfl (by kernel_rfl) ?_
    (ChangeSpec.witness6 (enc := enc) (C := Try.checked) false ⟨#[], #[.agg #[.int .i64 0, .int .i64 0, .int .i64 0, .int .i64 0, .int .u64 0, .slice none 0 0], .agg #[.int .i64 0, .int .i64 0, .int .i64 0, .int .i64 0, .int .u64 0, .slice none 0 0], .int .i64 0], []⟩ 8 (by kernel_rfl) (by kernel_rfl) (by kernel_rfl) (by kernel_rfl)) ?_
  · intro ds hl
    match ds, hl with
    | [d0, d1, d2], _ => exact ⟨rfl, rfl, rfl⟩
  · intro W base args ds ps hval hA hsz
    obtain ⟨v0, vs0, d0, ds0, p0, q0, hargs, rfl, rfl, h0, r0⟩ := trodAll_cons hA
    obtain ⟨v1, vs1, d1, ds1, p1, q1, rfl, rfl, rfl, h1, r1⟩ := trodAll_cons r0
    obtain ⟨v2, vs2, d2, ds2, p2, q2, rfl, rfl, rfl, h2, r2⟩ := trodAll_cons r1
    obtain ⟨rfl, rfl, rfl⟩ := trodAll_nil r2
    obtain rfl : args = #[v0, v1, v2] := by cases args; simp_all
    obtain ⟨a, b, c, p, s, A, C, up, rfl, hC, hlC, hs0, hs1⟩ := Graph.open_conf (Graph.agg_of Try.underlying25 (hval 0 25 v0 rfl rfl)) h0
    obtain ⟨a', b', c', p', s', A', C', up', rfl, hC', hlC', hs0', hs1'⟩ := Graph.open_conf (Graph.agg_of Try.underlying25 (hval 1 25 v1 rfl rfl)) h1
    obtain ⟨t, rfl, rfl, rfl, w1⟩ := open_int Try.underlying3 (hval 2 3 v2 rfl rfl) h2
    exact (QCf.sakialaw10_ConfAlike.calls 2000 a b c p s A C up a' b' c' p' s' A' C' up' t true W hC hlC hC' hlC' (QCf.alikes_ok a b c p s a' b' c' p' s' t up up' (Graph.i64_wf w1) hs0 hs1 hs0' hs1')).mono fun e w' h => ⟨h.1, h.2⟩
theorem over : Rows.confAlikeRow.holds Try.pinned (OpenSpec.ofChange Rows.confAlikeSpec) :=
  OpenClaim.holds_of_wide 5 Try.f5 rfl rfl rfl rfl rfl rfl rfl ⟨rfl, rfl, rfl, rfl, rfl⟩ rfl rfl rfl rfl rfl (by kernel_rfl) Try.func5 (by kernel_rfl)
    (of_decide_eq_true (by kernel_rfl)) (by unfold Func.isWrapper; first | (rw [if_pos (by decide +kernel)]; kernel_rfl) | (rw [if_neg (by decide +kernel)]; exact ⟨rfl, rfl⟩))
    (fun os started H enc _ => lifted os started H enc)
end Go.Proofs.Ytkakgmpcenfjlaa.confAlike
namespace Go.Proofs.Ytkakgmpcenfjlaa
theorem confAlike_holds : Rows.ConfAlikeSaid := confAlike.over
#print axioms confAlike_holds
end Go.Proofs.Ytkakgmpcenfjlaa
