/- An event that came in, read. -/
import Derived.Test.YtabcdcnnamflfaaDoorOpen
import Derived.Test.YtabcdcnnamflfaaDoorTlC
set_option linter.unusedVariables false
namespace Go.Proofs.YtabcdcnnamflfaaDoor.TlOpen
open Go.ChangeShapes Go.WideShapes Go.ChangeAt Go.RowKit
open Go.Proofs.YtabcdcnnamflfaaDoor.QTe Go.Proofs.YtabcdcnnamflfaaDoorW.PrintWords
theorem readsEvent : Open.Reads k76 76 (fun x => EvOk (Wd.evOf x)) :=
  ((Open.reads_iso (fun x : S76 => (x.f0, x.f1, x.f2, x.f3, x.f4, x.f5, x.f6)) (fun a => ⟨⟨a.1, a.2.1, a.2.2.1, a.2.2.2.1, a.2.2.2.2.1, a.2.2.2.2.2.1, a.2.2.2.2.2.2⟩, rfl⟩)
    (Open.reads_struct Tryd.underlying76 (by kernel_rfl) (Open.freads_cons (off' := 1) (by kernel_rfl) rfl (Open.reads_int Tryd.underlying3) (Open.freads_cons (off' := 2) (by kernel_rfl) rfl (Open.reads_int Tryd.underlying3) (Open.freads_cons (off' := 3) (by kernel_rfl) rfl (Open.reads_int Tryd.underlying3) (Open.freads_cons (off' := 4) (by kernel_rfl) rfl (Open.reads_int Tryd.underlying3) (Open.freads_cons (off' := 5) (by kernel_rfl) rfl (Open.reads_int Tryd.underlying34) (Open.freads_cons (off' := 6) (by kernel_rfl) rfl (Open.reads_int Tryd.underlying24) (Open.freads_one (by kernel_rfl) (Open.reads_slice Tryd.underlying37 (by kernel_rfl) (Open.reads_int Tryd.underlying3)))))))))))).mono (fun x h => by
    obtain ⟨h0, h1, h2, h3, h4, h5, h6⟩ := h
    exact ⟨bounds_i64 h1, bounds_i64 h2, bounds_i64 h3, by have h9 : 0 ≤ x.f4 ∧ x.f4 ≤ 18446744073709551615 := bounds_u64 h4; show 0 ≤ x.f4 ∧ x.f4 < _; omega, bounds_i64 h5, fun n hn => bounds_i64 (h6.2 n hn)⟩)
end Go.Proofs.YtabcdcnnamflfaaDoor.TlOpen
