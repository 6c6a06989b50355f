/- The law ScriptLines at what came in. -/
import Derived.Test.YtabcdcnnamflfaaDoorScG
import Derived.Test.YtabcdcnnamflfaaDoorScOpen
set_option linter.unusedVariables false
set_option maxRecDepth 100000
namespace Go.Proofs.YtabcdcnnamflfaaDoor.Wd
open Go.RowKit Go.Proofs.YtabcdcnnamflfaaDoorW.PrintWords
open ScOpen (CfT CfF AcF)
theorem walkScriptLinesR (s : ByteArray) (A : Option Addr) (C : Nat) (x : CfT) (B : Option Addr) (D : Nat) (y : QSc.S50) (w : World) (h : Kd.C (Kd.slice 3 (Kd.int .i64)) w A x.2.2.2.2.2.length x.2.2.2.2.2 ∧ x.2.2.2.2.2.length ≤ C ∧ CfF x) (k : Kd.C (Kd.int .i64) w B y.f1.f2.length y.f1.f2 ∧ y.f1.f2.length ≤ D ∧ AcF y) (hw : LibW w) :
    Calls Tryd.prog 6 #[.string s, .agg #[.int .i64 x.1, .int .i64 x.2.1, .int .i64 x.2.2.1, .int .i64 x.2.2.2.1, .int .u64 x.2.2.2.2.1, .slice A x.2.2.2.2.2.length C], .agg #[.int .i64 y.f0, .int .i64 y.f1.f0, .int .i64 y.f1.f1, .slice B y.f1.f2.length D]] w fun e w' => e = .returned (.bool true) ∧ Below w.heap.size w w' := by
  obtain ⟨h1, h2, f0, f1, f2, f3, f4, f5⟩ := h
  obtain ⟨k1, k2, g0, g1, g2, g3⟩ := k
  obtain ⟨n, hn⟩ : ∃ n : Nat, x.2.2.2.2.1 = (n : Int) := ⟨x.2.2.2.2.1.toNat, by omega⟩
  rw [hn, ← data_bs s]
  exact walkScriptLines w s.data.toList A C ⟨x.1, x.2.1, x.2.2.1, x.2.2.2.1, n, x.2.2.2.2.2⟩ B D ⟨y.f0, y.f1.f0, y.f1.f1, y.f1.f2⟩ h1 h2 ⟨f1, f2, f3, show n < 18446744073709551616 by omega, f5⟩ f0 k1 k2 ⟨g0, g2, g3⟩ hw
end Go.Proofs.YtabcdcnnamflfaaDoor.Wd
