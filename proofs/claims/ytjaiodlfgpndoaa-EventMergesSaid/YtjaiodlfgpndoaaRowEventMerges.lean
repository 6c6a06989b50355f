/- The row of the law EventMerges: for every input the call returns true, and each argument reads afterwards as it read before. No condition. -/
import Derived.Test.YtjaiodlfgpndoaaRow
import Derived.Test.YtjaiodlfgpndoaaOpen
import Derived.Test.YtjaiodlfgpndoaaMerges
set_option linter.unusedVariables false
namespace Go.Proofs.Ytjaiodlfgpndoaa.eventMerges
open Go.ChangeShapes Go.WideShapes Go.ChangeAt Go.RowKit
open Go.ChangeMaps (open_string shut_string)
open Go.Proofs.Ytjaiodlfgpndoaa.QEv Go.Proofs.YtjaiodlfgpndoaaW.PrintWords in
/-- An event, read. -/
theorem readsEvent : Open.Reads k56 56 (fun x => (Lit.int .u64 x.f4).wf = true) :=
  ((Open.reads_iso (fun x : S56 => (x.f0, x.f1, x.f2, x.f3, x.f4, x.f5, x.f6)) (fun a => ⟨⟨a.1, a.2.1, a.2.2.1, a.2.2.2.1, a.2.2.2.2.1, a.2.2.2.2.2.1, a.2.2.2.2.2.2⟩, rfl⟩)
    (Open.reads_struct Try.underlying56 (by kernel_rfl) (Open.freads_cons (off' := 1) (by kernel_rfl) rfl (Open.reads_int Try.underlying3) (Open.freads_cons (off' := 2) (by kernel_rfl) rfl (Open.reads_int Try.underlying3) (Open.freads_cons (off' := 3) (by kernel_rfl) rfl (Open.reads_int Try.underlying3) (Open.freads_cons (off' := 4) (by kernel_rfl) rfl (Open.reads_int Try.underlying3) (Open.freads_cons (off' := 5) (by kernel_rfl) rfl (Open.reads_int Try.underlying22) (Open.freads_cons (off' := 6) (by kernel_rfl) rfl (Open.reads_int Try.underlying54) (Open.freads_one (by kernel_rfl) (Open.reads_slice Try.underlying50 (by kernel_rfl) (Open.reads_int Try.underlying3)))))))))))).mono (fun _ h => h.2.2.2.2.1)
set_option maxRecDepth 100000 in
theorem lifted (os : Os) (started : os.Started) (H : Type) (enc : TypeId × Value → H) :
    ReturnsInHanded {} Try.checked os 9 .any (Rows.eventMergesSpec.pre6 enc Try.prog Try.f9 Rows.eventMergesRow.domain false) (Rows.eventMergesSpec.post enc Try.prog Try.f9 false true false false) := by
  refine Row.lift os started H enc (by kernel_rfl) Try.func9 rfl rfl rfl [3, 49, 22] rfl (by kernel_rfl) ?_
    (ChangeSpec.witness6 (enc := enc) (C := Try.checked) false ⟨#[], #[.int .i64 0,.slice none 0 0,.int .u64 0], []⟩ 8 (by kernel_rfl) (by kernel_rfl) (by kernel_rfl) (by kernel_rfl)) ?_
  · intro ds hl
    match ds, hl with
    | [d0, d1, d2], _ => exact ⟨rfl, rfl, rfl⟩
  · intro W base args ds ps hval hA hsz
    obtain ⟨v0, vs0, d0, ds0, p0, q0, hargs, rfl, rfl, h0, r0⟩ := trodAll_cons hA
    obtain ⟨v1, vs1, d1, ds1, p1, q1, rfl, rfl, rfl, h1, r1⟩ := trodAll_cons r0
    obtain ⟨v2, vs2, d2, ds2, p2, q2, rfl, rfl, rfl, h2, r2⟩ := trodAll_cons r1
    obtain ⟨rfl, rfl, rfl⟩ := trodAll_nil r2
    obtain rfl : args = #[v0, v1, v2] := by cases args; simp_all
    obtain ⟨wd, rfl, rfl, rfl, w0⟩ := open_int Try.underlying3 (hval 0 3 v0 rfl rfl) h0
    obtain ⟨A, c, l, rfl, hlc, hC, hm, hF⟩ := Open.arg_slice (Open.reads_slice Try.underlying49 (by kernel_rfl) readsEvent) (okWide_slice Try.underlying49 (hval 1 49 v1 rfl rfl)) h1
    obtain ⟨fr, rfl, rfl, rfl, w2⟩ := open_int Try.underlying22 (hval 2 22 v2 rfl rfl) h2
    exact QEv.walkMerges wd fr A c l W hC hlc (fun x hx => (Wide.u64_bd (hF x hx)).1) (Wide.u64_bd w2).1
theorem over : Rows.eventMergesRow.holds Try.pinned (OpenSpec.ofChange Rows.eventMergesSpec) :=
  OpenClaim.holds_of_wide 9 Try.f9 rfl rfl rfl rfl rfl rfl rfl ⟨rfl, rfl, rfl, rfl, rfl⟩ rfl rfl rfl rfl rfl (by kernel_rfl) Try.func9 (by kernel_rfl)
    (of_decide_eq_true (by kernel_rfl)) (by unfold Func.isWrapper; first | (rw [if_pos (by decide +kernel)]; kernel_rfl) | (rw [if_neg (by decide +kernel)]; exact ⟨rfl, rfl⟩))
    (fun os started H enc _ => lifted os started H enc)
end Go.Proofs.Ytjaiodlfgpndoaa.eventMerges
namespace Go.Proofs.Ytjaiodlfgpndoaa
theorem eventMerges_holds : Rows.EventMergesSaid := eventMerges.over
#print axioms eventMerges_holds
end Go.Proofs.Ytjaiodlfgpndoaa
