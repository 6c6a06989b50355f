/- A configuration, and an act, that came in, read. -/
import Derived.Test.YtgibmlbdkijflaaDoorOpen
import Derived.Test.YtgibmlbdkijflaaDoorSoSeven
set_option linter.unusedVariables false
set_option maxRecDepth 100000
namespace Go.Proofs.YtgibmlbdkijflaaDoor.MoOpen
open Go.ChangeShapes Go.WideShapes Go.ChangeAt Go.RowKit
open Go.Proofs.YtgibmlbdkijflaaDoorW.PrintWords
open Mo (I64 U64)
abbrev CfT : Type := Int × Int × Int × Int × Int × List (List Int)
def kCf : Kd CfT := Kd.pair (Kd.int .i64) (Kd.pair (Kd.int .i64) (Kd.pair (Kd.int .i64) (Kd.pair (Kd.int .i64) (Kd.pair (Kd.int .u64) (Kd.slice 37 (Kd.slice 3 (Kd.int .i64)))))))
theorem u64_of {n : Int} (h : (Lit.int .u64 n).wf = true) : U64 n := by
  have h9 : 0 ≤ n ∧ n ≤ 18446744073709551615 := bounds_u64 h
  exact ⟨h9.1, by omega⟩
theorem readsConf : Open.Reads kCf 25 (fun x => U64 x.2.2.2.2.1) :=
  (Open.reads_struct Tryd.underlying25 (by kernel_rfl) (Open.freads_cons (off' := 1) (by kernel_rfl) rfl (Open.reads_int Tryd.underlying3) (Open.freads_cons (off' := 2) (by kernel_rfl) rfl (Open.reads_int Tryd.underlying3) (Open.freads_cons (off' := 3) (by kernel_rfl) rfl (Open.reads_int Tryd.underlying3) (Open.freads_cons (off' := 4) (by kernel_rfl) rfl (Open.reads_int Tryd.underlying3) (Open.freads_cons (off' := 5) (by kernel_rfl) rfl (Open.reads_int Tryd.underlying22) (Open.freads_one (by kernel_rfl) (Open.reads_slice Tryd.underlying23 (by kernel_rfl) (Open.reads_slice Tryd.underlying37 (by kernel_rfl) (Open.reads_int Tryd.underlying3)))))))))).mono (fun x h => by
    obtain ⟨h0, h1, h2, h3, h4, _⟩ := h
    exact u64_of h4)
theorem openConf {w : World} {x : CfT} {cs : List Value} (h : kCf.K w x cs) : ∃ A C, cs = [.int .i64 x.1, .int .i64 x.2.1, .int .i64 x.2.2.1, .int .i64 x.2.2.2.1, .int .u64 x.2.2.2.2.1, .slice A x.2.2.2.2.2.length C] ∧ x.2.2.2.2.2.length ≤ C ∧ Kd.C (Kd.slice 3 (Kd.int .i64)) w A x.2.2.2.2.2.length x.2.2.2.2.2 := by
  obtain ⟨_, _, rfl, rfl, _, _, rfl, rfl, _, _, rfl, rfl, _, _, rfl, rfl, _, _, rfl, rfl, A, C, rfl, l, g⟩ := h
  exact ⟨A, C, rfl, l, g⟩
theorem readsCall : Open.Reads QSo.k39 39 (fun _ => True) :=
  (Open.reads_iso (fun x : QSo.S39 => (x.f0, x.f1, x.f2)) (fun a => ⟨⟨a.1, a.2.1, a.2.2⟩, rfl⟩)
    (Open.reads_struct Tryd.underlying39 (by kernel_rfl) (Open.freads_cons (off' := 1) (by kernel_rfl) rfl (Open.reads_int Tryd.underlying3) (Open.freads_cons (off' := 2) (by kernel_rfl) rfl (Open.reads_int Tryd.underlying3) (Open.freads_one (by kernel_rfl) (Open.reads_slice Tryd.underlying37 (by kernel_rfl) (Open.reads_int Tryd.underlying3))))))).mono (fun _ _ => trivial)
theorem readsAct : Open.Reads QSo.k41 41 (fun _ => True) :=
  (Open.reads_iso (fun x : QSo.S41 => (x.f0, x.f1)) (fun a => ⟨⟨a.1, a.2⟩, rfl⟩)
    (Open.reads_struct Tryd.underlying41 (by kernel_rfl) (Open.freads_cons (off' := 1) (by kernel_rfl) rfl (Open.reads_int Tryd.underlying3) (Open.freads_one (by kernel_rfl) readsCall)))).mono (fun _ _ => trivial)
theorem openAct {w : World} {x : QSo.S41} {cs : List Value} (h : QSo.k41.K w x cs) : ∃ A C, cs = [.int .i64 x.f0, .int .i64 x.f1.f0, .int .i64 x.f1.f1, .slice A x.f1.f2.length C] ∧ x.f1.f2.length ≤ C ∧ (Kd.int .i64).C w A x.f1.f2.length x.f1.f2 := QSo.k41_open h
end Go.Proofs.YtgibmlbdkijflaaDoor.MoOpen
