/- A configuration, and an event, that came in, read. -/
import Derived.Test.YtnnfcdffnckoiaaDoorOpen
import Derived.Test.YtnnfcdffnckoiaaDoorMoNew
set_option linter.unusedVariables false
set_option maxRecDepth 100000
namespace Go.Proofs.YtnnfcdffnckoiaaDoor.MoOpen
open Go.ChangeShapes Go.WideShapes Go.ChangeAt Go.RowKit
open Go.Proofs.YtnnfcdffnckoiaaDoor.QCf Go.Proofs.YtnnfcdffnckoiaaDoorW.PrintWords
open Mo (I64 U64)
abbrev CfT : Type := Int × Int × Int × Int × Int × List (List Int)
def kCf : Kd CfT := Kd.pair (Kd.int .i64) (Kd.pair (Kd.int .i64) (Kd.pair (Kd.int .i64) (Kd.pair (Kd.int .i64) (Kd.pair (Kd.int .u64) (Kd.slice 37 (Kd.slice 3 (Kd.int .i64)))))))
theorem u64_of {n : Int} (h : (Lit.int .u64 n).wf = true) : U64 n := by
  have h9 : 0 ≤ n ∧ n ≤ 18446744073709551615 := bounds_u64 h
  exact ⟨h9.1, by omega⟩
theorem i64_of {n : Int} (h : (Lit.int .i64 n).wf = true) : I64 n := by
  have h9 : -9223372036854775808 ≤ n ∧ n ≤ 9223372036854775807 := bounds_i64 h
  exact ⟨h9.1, by omega⟩
theorem readsConf : Open.Reads kCf 25 (fun x => U64 x.2.2.2.2.1) :=
  (Open.reads_struct Tryd.underlying25 (by kernel_rfl) (Open.freads_cons (off' := 1) (by kernel_rfl) rfl (Open.reads_int Tryd.underlying3) (Open.freads_cons (off' := 2) (by kernel_rfl) rfl (Open.reads_int Tryd.underlying3) (Open.freads_cons (off' := 3) (by kernel_rfl) rfl (Open.reads_int Tryd.underlying3) (Open.freads_cons (off' := 4) (by kernel_rfl) rfl (Open.reads_int Tryd.underlying3) (Open.freads_cons (off' := 5) (by kernel_rfl) rfl (Open.reads_int Tryd.underlying22) (Open.freads_one (by kernel_rfl) (Open.reads_slice Tryd.underlying23 (by kernel_rfl) (Open.reads_slice Tryd.underlying37 (by kernel_rfl) (Open.reads_int Tryd.underlying3)))))))))).mono (fun x h => by
    obtain ⟨h0, h1, h2, h3, h4, _⟩ := h
    exact u64_of h4)
theorem openConf {w : World} {x : CfT} {cs : List Value} (h : kCf.K w x cs) : ∃ A C, cs = [.int .i64 x.1, .int .i64 x.2.1, .int .i64 x.2.2.1, .int .i64 x.2.2.2.1, .int .u64 x.2.2.2.2.1, .slice A x.2.2.2.2.2.length C] ∧ x.2.2.2.2.2.length ≤ C ∧ Kd.C (Kd.slice 3 (Kd.int .i64)) w A x.2.2.2.2.2.length x.2.2.2.2.2 := by
  obtain ⟨_, _, rfl, rfl, _, _, rfl, rfl, _, _, rfl, rfl, _, _, rfl, rfl, _, _, rfl, rfl, A, C, rfl, l, g⟩ := h
  exact ⟨A, C, rfl, l, g⟩
theorem readsEvent : Open.Reads k44 44 (fun x => I64 x.f1 ∧ I64 x.f3 ∧ U64 x.f4) :=
  ((Open.reads_iso (fun x : S44 => (x.f0, x.f1, x.f2, x.f3, x.f4, x.f5, x.f6)) (fun a => ⟨⟨a.1, a.2.1, a.2.2.1, a.2.2.2.1, a.2.2.2.2.1, a.2.2.2.2.2.1, a.2.2.2.2.2.2⟩, rfl⟩)
    (Open.reads_struct Tryd.underlying44 (by kernel_rfl) (Open.freads_cons (off' := 1) (by kernel_rfl) rfl (Open.reads_int Tryd.underlying3) (Open.freads_cons (off' := 2) (by kernel_rfl) rfl (Open.reads_int Tryd.underlying3) (Open.freads_cons (off' := 3) (by kernel_rfl) rfl (Open.reads_int Tryd.underlying3) (Open.freads_cons (off' := 4) (by kernel_rfl) rfl (Open.reads_int Tryd.underlying3) (Open.freads_cons (off' := 5) (by kernel_rfl) rfl (Open.reads_int Tryd.underlying22) (Open.freads_cons (off' := 6) (by kernel_rfl) rfl (Open.reads_int Tryd.underlying3) (Open.freads_one (by kernel_rfl) (Open.reads_slice Tryd.underlying37 (by kernel_rfl) (Open.reads_int Tryd.underlying3)))))))))))).mono (fun x h => by
    obtain ⟨h0, h1, h2, h3, h4, h5, h6⟩ := h
    exact ⟨i64_of h1, i64_of h3, u64_of h4⟩)
theorem openEvent {w : World} {x : S44} {cs : List Value} (h : k44.K w x cs) : ∃ A C, cs = [.int .i64 x.f0, .int .i64 x.f1, .int .i64 x.f2, .int .i64 x.f3, .int .u64 x.f4, .int .i64 x.f5, .slice A x.f6.length C] ∧ x.f6.length ≤ C ∧ (Kd.int .i64).C w A x.f6.length x.f6 := k44_open h
end Go.Proofs.YtnnfcdffnckoiaaDoor.MoOpen
