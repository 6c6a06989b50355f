/- The reference's words, and event's, in the form that the printed texts ask. -/
import Derived.Test.YtabcdcnnamflfaaDoorWdA
import Derived.Test.YtabcdcnnamflfaaDoorTlPure
import Derived.Test.YtabcdcnnamflfaaDoorEvWords
set_option linter.unusedVariables false
set_option linter.unusedSimpArgs false
namespace Go.Proofs.YtabcdcnnamflfaaDoor.Wd
open Go.RowKit Go.Proofs.YtabcdcnnamflfaaDoorW.PrintWords
theorem bs_toList (l : List UInt8) : (bs l).toList = l := by rw [Lib.toList_data, bs_data]
theorem eqT (a : List UInt8) (s : ByteArray) : (a == s.toList) = decide (s.data.toList = a) := by
  rw [Lib.toList_data]
  by_cases h : s.data.toList = a
  · rw [h, decide_eq_true rfl]; simp
  · rw [decide_eq_false h, beq_eq_false_iff_ne]; exact fun e => h e.symm
theorem kindW_eq (n : Int) : EvWords.kindWord n = bs (kindT n) := by
  unfold EvWords.kindWord kindT
  repeat' split
  all_goals rfl
theorem opW_eq (n : Int) : EvWords.opWord n = bs (opT n) := by
  unfold EvWords.opWord opT
  repeat' split
  all_goals rfl
theorem kindOf_eq (s : ByteArray) : EvWords.kindOf s = kindOfT s.data.toList := by
  unfold EvWords.kindOf kindOfT
  simp only [eqT, decide_eq_true_eq]
theorem opOf_eq (s : ByteArray) : EvWords.opOf s = opOfT s.data.toList := by
  unfold EvWords.opOf opOfT
  simp only [eqT, decide_eq_true_eq]
theorem evWord_ (n : Int) (w : World) : Calls Tryd.prog 67 #[.int .i64 n] w fun e w' => e = .returned (.string (bs (kindT n))) ∧ Below w.heap.size w w' := by
  rw [← kindW_eq]; exact EvWords.kindWord_any n w
theorem evOpWord_ (n : Int) (w : World) : Calls Tryd.prog 88 #[.int .i64 n] w fun e w' => e = .returned (.string (bs (opT n))) ∧ Below w.heap.size w w' := by
  rw [← opW_eq]; exact EvWords.opWord_any n w
theorem evKind_ (s : List UInt8) (w : World) : Calls Tryd.prog 82 #[.string (bs s)] w fun e w' => e = .returned (.int .i64 (kindOfT s)) ∧ Below w.heap.size w w' := by
  have h := EvWords.kindOf_any (bs s) w
  rwa [kindOf_eq, bs_data] at h
theorem evOp_ (s : List UInt8) (w : World) : Calls Tryd.prog 58 #[.string (bs s)] w fun e w' => e = .returned (.int .i64 (opOfT s)) ∧ Below w.heap.size w w' := by
  have h := EvWords.opOf_any (bs s) w
  rwa [opOf_eq, bs_data] at h
theorem refWord_ (n : Int) (w : World) : Calls Tryd.prog 63 #[.int .i64 n] w fun e w' => e = .returned (.string (bs (kindT n))) ∧ Below w.heap.size w w' := by
  rw [← kindW_eq]; exact EvWords.kindRef_any n w
theorem refOpWord_ (n : Int) (w : World) : Calls Tryd.prog 60 #[.int .i64 n] w fun e w' => e = .returned (.string (bs (opT n))) ∧ Below w.heap.size w w' := by
  rw [← opW_eq]; exact EvWords.opRef_any n w
end Go.Proofs.YtabcdcnnamflfaaDoor.Wd
namespace Go.Proofs.YtabcdcnnamflfaaDoor.QTe
open Go.RowKit Go.Proofs.YtabcdcnnamflfaaDoorW.PrintWords Wd
def In64 (n : Int) : Prop := -9223372036854775808 ≤ n ∧ n ≤ 9223372036854775807
instance (n : Int) : Decidable (In64 n) := by unfold In64; infer_instance
def sakiaref15_Word.f (a0 : Int) : Option ByteArray := some (bs (kindT a0))
def sakiaref15_OpWord.f (a0 : Int) : Option ByteArray := some (bs (opT a0))
def sakiaref06_Num.f (a0 : Int) : Option ByteArray := if In64 a0 then some (bs (Lib.itoa a0)) else none
def sakiaref06_Big.f (a0 : Int) : Option ByteArray := if 0 ≤ a0 ∧ a0 < 18446744073709551616 then some (bs (Lib.decDigits a0.toNat)) else none
def sakiaref06_List.f (l0 : List Int) : Option ByteArray := if (∀ n ∈ l0, In64 n) ∧ l0.length ≤ 100000 then some (bs (listTxt l0)) else none
theorem sakiaref15_Word.calls (a0 : Int) (r : ByteArray) (w : World) (h : sakiaref15_Word.f a0 = some r) :
    Calls Tryd.prog 63 #[.int .i64 a0] w fun e w' => e = .returned (.string r) ∧ Below w.heap.size w w' := by
  obtain rfl := Option.some.inj h
  exact refWord_ a0 w
theorem sakiaref15_OpWord.calls (a0 : Int) (r : ByteArray) (w : World) (h : sakiaref15_OpWord.f a0 = some r) :
    Calls Tryd.prog 60 #[.int .i64 a0] w fun e w' => e = .returned (.string r) ∧ Below w.heap.size w w' := by
  obtain rfl := Option.some.inj h
  exact refOpWord_ a0 w
theorem sakiaref06_Num.calls (a0 : Int) (r : ByteArray) (w : World) (h : sakiaref06_Num.f a0 = some r) :
    Calls Tryd.prog 21 #[.int .i64 a0] w fun e w' => e = .returned (.string r) ∧ Below w.heap.size w w' := by
  unfold sakiaref06_Num.f at h
  split at h
  · next h1 =>
    obtain rfl := Option.some.inj h
    exact num_ a0 h1.1 h1.2 w
  · cases h
theorem sakiaref06_Big.calls (a0 : Int) (r : ByteArray) (w : World) (h : sakiaref06_Big.f a0 = some r) :
    Calls Tryd.prog 22 #[.int .u64 a0] w fun e w' => e = .returned (.string r) ∧ Below w.heap.size w w' := by
  unfold sakiaref06_Big.f at h
  split at h
  · next h1 =>
    obtain rfl := Option.some.inj h
    obtain ⟨n, rfl⟩ : ∃ n : Nat, a0 = (n : Int) := ⟨a0.toNat, by omega⟩
    exact big_ n (by omega) w
  · cases h
theorem sakiaref06_List.calls (A0 : Option Addr) (c0 : Nat) (l0 : List Int) (r : ByteArray) (w : World) (hr0 : Kd.C (Kd.int .i64) w A0 l0.length l0) (hc0 : l0.length ≤ c0) (h : sakiaref06_List.f l0 = some r) :
    Calls Tryd.prog 23 #[.slice A0 l0.length c0] w fun e w' => e = .returned (.string r) ∧ Below w.heap.size w w' := by
  unfold sakiaref06_List.f at h
  split at h
  · next h1 =>
    obtain rfl := Option.some.inj h
    exact list_ ⟨hr0, hc0, fun n hn => h1.1 n hn⟩ h1.2
  · cases h
end Go.Proofs.YtabcdcnnamflfaaDoor.QTe
