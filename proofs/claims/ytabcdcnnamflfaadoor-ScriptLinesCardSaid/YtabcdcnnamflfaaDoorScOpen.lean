/- A configuration and an act that came in, read. -/
import Derived.Test.YtabcdcnnamflfaaDoorOpen
import Derived.Test.YtabcdcnnamflfaaDoorScPure
import Derived.Test.YtabcdcnnamflfaaDoorQScx0
set_option linter.unusedVariables false
set_option maxRecDepth 100000
namespace Go.Proofs.YtabcdcnnamflfaaDoor.ScOpen
open Go.ChangeShapes Go.WideShapes Go.ChangeAt Go.RowKit
open Go.Proofs.YtabcdcnnamflfaaDoor.QSc Go.Proofs.YtabcdcnnamflfaaDoorW.PrintWords
abbrev CfT : Type := Int × Int × Int × Int × Int × List (List Int)
def kCf : Kd CfT := Kd.pair (Kd.int .i64) (Kd.pair (Kd.int .i64) (Kd.pair (Kd.int .i64) (Kd.pair (Kd.int .i64) (Kd.pair (Kd.int .u64) (Kd.slice 37 (Kd.slice 3 (Kd.int .i64)))))))
def CfF (x : CfT) : Prop := Wd.In8 x.1 ∧ Wd.In8 x.2.1 ∧ Wd.In8 x.2.2.1 ∧ Wd.In8 x.2.2.2.1 ∧ (0 ≤ x.2.2.2.2.1 ∧ x.2.2.2.2.1 < 18446744073709551616) ∧ ∀ l ∈ x.2.2.2.2.2, ∀ n ∈ l, Wd.In8 n
def AcF (y : S50) : Prop := Wd.In8 y.f0 ∧ Wd.In8 y.f1.f0 ∧ Wd.In8 y.f1.f1 ∧ ∀ n ∈ y.f1.f2, Wd.In8 n
theorem readsConf : Open.Reads kCf 46 CfF :=
  (Open.reads_struct Tryd.underlying46 (by kernel_rfl) (Open.freads_cons (off' := 1) (by kernel_rfl) rfl (Open.reads_int Tryd.underlying3) (Open.freads_cons (off' := 2) (by kernel_rfl) rfl (Open.reads_int Tryd.underlying3) (Open.freads_cons (off' := 3) (by kernel_rfl) rfl (Open.reads_int Tryd.underlying3) (Open.freads_cons (off' := 4) (by kernel_rfl) rfl (Open.reads_int Tryd.underlying3) (Open.freads_cons (off' := 5) (by kernel_rfl) rfl (Open.reads_int Tryd.underlying34) (Open.freads_one (by kernel_rfl) (Open.reads_slice Tryd.underlying44 (by kernel_rfl) (Open.reads_slice Tryd.underlying37 (by kernel_rfl) (Open.reads_int Tryd.underlying3)))))))))).mono (fun x h => by
    obtain ⟨h0, h1, h2, h3, h4, _, h5⟩ := h
    exact ⟨bounds_i64 h0, bounds_i64 h1, bounds_i64 h2, bounds_i64 h3, by have h9 : 0 ≤ x.2.2.2.2.1 ∧ x.2.2.2.2.1 ≤ 18446744073709551615 := bounds_u64 h4; omega, fun l hl n hn => bounds_i64 ((h5 l hl).2 n hn)⟩)
theorem openConf {w : World} {x : CfT} {cs : List Value} (h : kCf.K w x cs) : ∃ A C, cs = [.int .i64 x.1, .int .i64 x.2.1, .int .i64 x.2.2.1, .int .i64 x.2.2.2.1, .int .u64 x.2.2.2.2.1, .slice A x.2.2.2.2.2.length C] ∧ x.2.2.2.2.2.length ≤ C ∧ Kd.C (Kd.slice 3 (Kd.int .i64)) w A x.2.2.2.2.2.length x.2.2.2.2.2 := by
  obtain ⟨_, _, rfl, rfl, _, _, rfl, rfl, _, _, rfl, rfl, _, _, rfl, rfl, _, _, rfl, rfl, A, C, rfl, l, g⟩ := h
  exact ⟨A, C, rfl, l, g⟩
theorem reads48 : Open.Reads k48 48 (fun x => Wd.In8 x.f0 ∧ Wd.In8 x.f1 ∧ ∀ n ∈ x.f2, Wd.In8 n) :=
  ((Open.reads_iso (fun x : S48 => (x.f0, x.f1, x.f2)) (fun a => ⟨⟨a.1, a.2.1, a.2.2⟩, rfl⟩)
    (Open.reads_struct Tryd.underlying48 (by kernel_rfl) (Open.freads_cons (off' := 1) (by kernel_rfl) rfl (Open.reads_int Tryd.underlying3) (Open.freads_cons (off' := 2) (by kernel_rfl) rfl (Open.reads_int Tryd.underlying3) (Open.freads_one (by kernel_rfl) (Open.reads_slice Tryd.underlying37 (by kernel_rfl) (Open.reads_int Tryd.underlying3)))))))).mono (fun x h => by
    obtain ⟨h0, h1, _, h2⟩ := h
    exact ⟨bounds_i64 h0, bounds_i64 h1, fun n hn => bounds_i64 (h2 n hn)⟩)
theorem readsAct : Open.Reads k50 50 AcF :=
  ((Open.reads_iso (fun x : S50 => (x.f0, x.f1)) (fun a => ⟨⟨a.1, a.2⟩, rfl⟩)
    (Open.reads_struct Tryd.underlying50 (by kernel_rfl) (Open.freads_cons (off' := 1) (by kernel_rfl) rfl (Open.reads_int Tryd.underlying3) (Open.freads_one (by kernel_rfl) reads48))))).mono (fun x h => ⟨bounds_i64 h.1, h.2⟩)
theorem openAct {w : World} {x : S50} {cs : List Value} (h : k50.K w x cs) : ∃ A C, cs = [.int .i64 x.f0, .int .i64 x.f1.f0, .int .i64 x.f1.f1, .slice A x.f1.f2.length C] ∧ x.f1.f2.length ≤ C ∧ (Kd.int .i64).C w A x.f1.f2.length x.f1.f2 := k50_open h
end Go.Proofs.YtabcdcnnamflfaaDoor.ScOpen
