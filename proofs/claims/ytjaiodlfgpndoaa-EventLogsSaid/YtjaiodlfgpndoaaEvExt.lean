/- The words' contracts in the form that the printed texts ask. -/
import Derived.Test.YtjaiodlfgpndoaaQEvx0
import Derived.Test.YtjaiodlfgpndoaaWords
namespace Go.Proofs.Ytjaiodlfgpndoaa.QEv
open Go.RowKit Go.Proofs.Ytjaiodlfgpndoaa.Words
def event_Word.f (a0 : Int) : Option ByteArray := some (kindWord a0)
def event_OpWord.f (a0 : Int) : Option ByteArray := some (opWord a0)
def event_Kind.f (a0 : ByteArray) : Option Int := some (kindOf a0)
def event_Op.f (a0 : ByteArray) : Option Int := some (opOf a0)
theorem event_Word.calls (a0 : Int) (r : ByteArray) (w : World) (h : event_Word.f a0 = some r) :
    Calls Try.prog 31 #[.int .i64 a0] w fun e w' => e = .returned (.string r) ∧ Below w.heap.size w w' := by
  obtain rfl := Option.some.inj h
  exact kindWord_any a0 w
theorem event_OpWord.calls (a0 : Int) (r : ByteArray) (w : World) (h : event_OpWord.f a0 = some r) :
    Calls Try.prog 33 #[.int .i64 a0] w fun e w' => e = .returned (.string r) ∧ Below w.heap.size w w' := by
  obtain rfl := Option.some.inj h
  exact opWord_any a0 w
theorem event_Kind.calls (a0 : ByteArray) (r : Int) (w : World) (h : event_Kind.f a0 = some r) :
    Calls Try.prog 35 #[.string a0] w fun e w' => e = .returned (.int .i64 r) ∧ Below w.heap.size w w' := by
  obtain rfl := Option.some.inj h
  exact kindOf_any a0 w
theorem event_Op.calls (a0 : ByteArray) (r : Int) (w : World) (h : event_Op.f a0 = some r) :
    Calls Try.prog 36 #[.string a0] w fun e w' => e = .returned (.int .i64 r) ∧ Below w.heap.size w w' := by
  obtain rfl := Option.some.inj h
  exact opOf_any a0 w
end Go.Proofs.Ytjaiodlfgpndoaa.QEv
