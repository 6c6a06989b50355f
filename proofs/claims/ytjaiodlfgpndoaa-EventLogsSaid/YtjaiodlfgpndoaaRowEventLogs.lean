/- The row of the law EventLogs: for every input the call returns true, and each argument reads afterwards as it read before. No condition. -/
import Derived.Test.YtjaiodlfgpndoaaRow
import Derived.Test.YtjaiodlfgpndoaaOpen
import Derived.Test.YtjaiodlfgpndoaaLogW
set_option linter.unusedVariables false
namespace Go.Proofs.Ytjaiodlfgpndoaa.eventLogs
open Go.ChangeShapes Go.WideShapes Go.ChangeAt Go.RowKit
open Go.ChangeMaps (open_string shut_string)
open Go.Proofs.Ytjaiodlfgpndoaa.QEv Go.Proofs.YtjaiodlfgpndoaaW.PrintWords in
/-- An event, read. -/
theorem readsEvent : Open.Reads k56 56 (fun _ => True) :=
  ((Open.reads_iso (fun x : S56 => (x.f0, x.f1, x.f2, x.f3, x.f4, x.f5, x.f6)) (fun a => ⟨⟨a.1, a.2.1, a.2.2.1, a.2.2.2.1, a.2.2.2.2.1, a.2.2.2.2.2.1, a.2.2.2.2.2.2⟩, rfl⟩)
    (Open.reads_struct Try.underlying56 (by kernel_rfl) (Open.freads_cons (off' := 1) (by kernel_rfl) rfl (Open.reads_int Try.underlying3) (Open.freads_cons (off' := 2) (by kernel_rfl) rfl (Open.reads_int Try.underlying3) (Open.freads_cons (off' := 3) (by kernel_rfl) rfl (Open.reads_int Try.underlying3) (Open.freads_cons (off' := 4) (by kernel_rfl) rfl (Open.reads_int Try.underlying3) (Open.freads_cons (off' := 5) (by kernel_rfl) rfl (Open.reads_int Try.underlying22) (Open.freads_cons (off' := 6) (by kernel_rfl) rfl (Open.reads_int Try.underlying54) (Open.freads_one (by kernel_rfl) (Open.reads_slice Try.underlying50 (by kernel_rfl) (Open.reads_int Try.underlying3)))))))))))).mono (fun _ _ => trivial)
set_option maxRecDepth 100000 in
theorem lifted (os : Os) (started : os.Started) (H : Type) (enc : TypeId × Value → H) :
    ReturnsInHanded {} Try.checked os 8 .any (Rows.eventLogsSpec.pre6 enc Try.prog Try.f8 Rows.eventLogsRow.domain false) (Rows.eventLogsSpec.post enc Try.prog Try.f8 false true false false) := by
  refine Row.lift os started H enc (by kernel_rfl) Try.func8 rfl rfl rfl [49, 3, 50] rfl (by kernel_rfl) ?_
    (ChangeSpec.witness6 (enc := enc) (C := Try.checked) false ⟨#[], #[.slice none 0 0,.int .i64 0,.slice none 0 0], []⟩ 8 (by kernel_rfl) (by kernel_rfl) (by kernel_rfl) (by kernel_rfl)) ?_
  · intro ds hl
    match ds, hl with
    | [d0, d1, d2], _ => exact ⟨rfl, rfl, rfl⟩
  · intro W base args ds ps hval hA hsz
    obtain ⟨v0, vs0, d0, ds0, p0, q0, hargs, rfl, rfl, h0, r0⟩ := trodAll_cons hA
    obtain ⟨v1, vs1, d1, ds1, p1, q1, rfl, rfl, rfl, h1, r1⟩ := trodAll_cons r0
    obtain ⟨v2, vs2, d2, ds2, p2, q2, rfl, rfl, rfl, h2, r2⟩ := trodAll_cons r1
    obtain ⟨rfl, rfl, rfl⟩ := trodAll_nil r2
    obtain rfl : args = #[v0, v1, v2] := by cases args; simp_all
    obtain ⟨A, c, l, rfl, hlc, hC, hm, hF⟩ := Open.arg_slice (Open.reads_slice Try.underlying49 (by kernel_rfl) readsEvent) (okWide_slice Try.underlying49 (hval 0 49 v0 rfl rfl)) h0
    obtain ⟨n, rfl, rfl, rfl, w1⟩ := open_int Try.underlying3 (hval 1 3 v1 rfl rfl) h1
    obtain ⟨B, d, ks, rfl, hkd, hD, hkm, hKF⟩ := Open.arg_slice (Open.reads_slice Try.underlying50 (by kernel_rfl) (Open.reads_int Try.underlying3)) (okWide_slice Try.underlying50 (hval 2 50 v2 rfl rfl)) h2
    exact QEv.walkLogs A c l n B d ks W hC hlc hD hkd
theorem over : Rows.eventLogsRow.holds Try.pinned (OpenSpec.ofChange Rows.eventLogsSpec) :=
  OpenClaim.holds_of_wide 8 Try.f8 rfl rfl rfl rfl rfl rfl rfl ⟨rfl, rfl, rfl, rfl, rfl⟩ rfl rfl rfl rfl rfl (by kernel_rfl) Try.func8 (by kernel_rfl)
    (of_decide_eq_true (by kernel_rfl)) (by unfold Func.isWrapper; first | (rw [if_pos (by decide +kernel)]; kernel_rfl) | (rw [if_neg (by decide +kernel)]; exact ⟨rfl, rfl⟩))
    (fun os started H enc _ => lifted os started H enc)
end Go.Proofs.Ytjaiodlfgpndoaa.eventLogs
namespace Go.Proofs.Ytjaiodlfgpndoaa
theorem eventLogs_holds : Rows.EventLogsSaid := eventLogs.over
#print axioms eventLogs_holds
end Go.Proofs.Ytjaiodlfgpndoaa
