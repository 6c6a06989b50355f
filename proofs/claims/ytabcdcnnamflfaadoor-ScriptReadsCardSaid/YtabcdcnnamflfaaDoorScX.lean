/- The reference's words in the form that the printed texts of the scripts ask. -/
import Derived.Test.YtabcdcnnamflfaaDoorTlX
import Derived.Test.YtabcdcnnamflfaaDoorScPure
set_option linter.unusedVariables false
set_option linter.unusedSimpArgs false
namespace Go.Proofs.YtabcdcnnamflfaaDoor.QSc
open Go.RowKit Go.Proofs.YtabcdcnnamflfaaDoorW.PrintWords Wd
instance (n : Int) : Decidable (In8 n) := by unfold In8; infer_instance
def sakiaref15_OpWord.f (a0 : Int) : Option ByteArray := some (bs (opT a0))
def sakiaref06_Num.f (a0 : Int) : Option ByteArray := if In8 a0 then some (bs (Lib.itoa a0)) else none
def sakiaref06_Big.f (a0 : Int) : Option ByteArray := if 0 ≤ a0 ∧ a0 < 18446744073709551616 then some (bs (Lib.decDigits a0.toNat)) else none
def sakiaref06_List.f (l0 : List Int) : Option ByteArray := if (∀ n ∈ l0, In8 n) ∧ l0.length ≤ 100000 then some (bs (listTxt l0)) else none
theorem sakiaref15_OpWord.calls (a0 : Int) (r : ByteArray) (w : World) (h : sakiaref15_OpWord.f a0 = some r) :
    Calls Tryd.prog 60 #[.int .i64 a0] w fun e w' => e = .returned (.string r) ∧ Below w.heap.size w w' := by
  obtain rfl := Option.some.inj h
  exact refOpWord_ a0 w
theorem sakiaref06_Num.calls (a0 : Int) (r : ByteArray) (w : World) (h : sakiaref06_Num.f a0 = some r) :
    Calls Tryd.prog 21 #[.int .i64 a0] w fun e w' => e = .returned (.string r) ∧ Below w.heap.size w w' := by
  unfold sakiaref06_Num.f at h
  split at h
  · next h1 =>
    obtain rfl := Option.some.inj h
    exact num_ a0 h1.1 h1.2 w
  · cases h
theorem sakiaref06_Big.calls (a0 : Int) (r : ByteArray) (w : World) (h : sakiaref06_Big.f a0 = some r) :
    Calls Tryd.prog 22 #[.int .u64 a0] w fun e w' => e = .returned (.string r) ∧ Below w.heap.size w w' := by
  unfold sakiaref06_Big.f at h
  split at h
  · next h1 =>
    obtain rfl := Option.some.inj h
    obtain ⟨n, rfl⟩ : ∃ n : Nat, a0 = (n : Int) := ⟨a0.toNat, by omega⟩
    exact big_ n (by omega) w
  · cases h
theorem sakiaref06_List.calls (A0 : Option Addr) (c0 : Nat) (l0 : List Int) (r : ByteArray) (w : World) (hr0 : Kd.C (Kd.int .i64) w A0 l0.length l0) (hc0 : l0.length ≤ c0) (h : sakiaref06_List.f l0 = some r) :
    Calls Tryd.prog 23 #[.slice A0 l0.length c0] w fun e w' => e = .returned (.string r) ∧ Below w.heap.size w w' := by
  unfold sakiaref06_List.f at h
  split at h
  · next h1 =>
    obtain rfl := Option.some.inj h
    exact list_ ⟨hr0, hc0, fun n hn => h1.1 n hn⟩ h1.2
  · cases h
end Go.Proofs.YtabcdcnnamflfaaDoor.QSc
