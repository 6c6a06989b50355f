/- Texts printed by a program of the session, put together. -/
import Derived.Test.YtgibmlbdkijflaaDoorProg
import Derived.Below
import Derived.Deep.Draws
import Derived.Deep.AppendLies
import Derived.Maps.AppendAt
import Derived.OwnWalk
import Derived.Laws.BytesArg
import Derived.Laws.MakeOwn
import Derived.Laws.OwnMore
import Derived.Deep.OwnRows
import Derived.Tactics
import Derived.Lib.ConvBytes
import Derived.Laws.Slices
import Derived.WalkKit
import Derived.KernelRfl
import Derived.RowKit3
import Derived.Deep.LoopGhost
import Derived.Deep.QuietTactic
import Derived.BigQuiet
import Derived.WideLaws
import Derived.Deep.DeepCutAuto
import Derived.Deep.CutBlock
import Derived.Deep.RegionHeld3
import Derived.Laws.Rows
import Derived.Lib.AppendStr
import Derived.ArgAppend
import Derived.Laws.IdiomCopy
import Derived.OrdersHeld
import Derived.Laws.BitsLemmas
import Derived.RowKit
import Derived.Test.YtgibmlbdkijflaaDoorWWords
import Derived.Test.YtgibmlbdkijflaaDoorWLast
import Derived.Test.YtgibmlbdkijflaaDoorWTab
import Derived.Test.YtgibmlbdkijflaaDoorWFour
import Derived.Test.YtgibmlbdkijflaaDoorWQPut
import Derived.Test.YtgibmlbdkijflaaDoorWApart
import Derived.Test.YtgibmlbdkijflaaDoorWArr
import Derived.Test.YtgibmlbdkijflaaDoorWZeros
import Derived.Test.YtgibmlbdkijflaaDoorWFoot
import Derived.Test.YtgibmlbdkijflaaDoorWKept
import Derived.Test.YtgibmlbdkijflaaDoorWShare
import Derived.Test.YtgibmlbdkijflaaDoorWN
import Derived.Test.YtgibmlbdkijflaaDoorWFootNe
import Derived.Test.YtgibmlbdkijflaaDoorWAt
import Derived.Test.YtgibmlbdkijflaaDoorWEqStruct
import Derived.Test.YtgibmlbdkijflaaDoorWRepsOne
import Derived.Test.YtgibmlbdkijflaaDoorWInv
import Derived.Test.YtgibmlbdkijflaaDoorWInvWords
import Derived.Test.YtgibmlbdkijflaaDoorWGuard
import Derived.Test.YtgibmlbdkijflaaDoorWNEv
import Derived.Test.YtgibmlbdkijflaaDoorWMore

-- Written by a program of this session (wip/tools/eprint.py), which runs the printer of the kit under rules of its own. Nothing in it is trusted: Lean checks it.
namespace Go.Proofs.YtgibmlbdkijflaaDoor.QCf
open Go.RowKit Go.Proofs.YtgibmlbdkijflaaDoorW.PrintWords Go.Proofs.YtgibmlbdkijflaaDoorW.PrintLast Go.Proofs.YtgibmlbdkijflaaDoorW.PrintMore
attribute [local go_sem] max2_int min2_int max_two min_two max_three min_three max_four min_four   -- for this text's walks alone
set_option linter.unusedVariables false
set_option linter.unusedSimpArgs false



-- the values' own types
end Go.Proofs.YtgibmlbdkijflaaDoor.QCf
-- Written by a program of this session (wip/tools/eprint.py), which runs the printer of the kit under rules of its own. Nothing in it is trusted: Lean checks it.
namespace Go.Proofs.YtgibmlbdkijflaaDoor.QCf
open Go.RowKit Go.Proofs.YtgibmlbdkijflaaDoorW.PrintWords Go.Proofs.YtgibmlbdkijflaaDoorW.PrintLast Go.Proofs.YtgibmlbdkijflaaDoorW.PrintMore
attribute [local go_sem] max2_int min2_int max_two min_two max_three min_three max_four min_four   -- for this text's walks alone
set_option linter.unusedVariables false
set_option linter.unusedSimpArgs false

def sakiaref02_Right.l0 : Nat → Int → Int → Option (Bool)
  | 0, _, _ => none
  | k + 1, x0, x3 => if x3 < x0 then (if x3 < 1073741824 then (sakiaref02_Right.l0 k x0 (wrap64 (2 * x3))) else (some (x3 == x0))) else (some (x3 == x0))
def sakiaref02_Right.f (k : Nat) (a0 : Int) : Option (Bool) := sakiaref02_Right.l0 k a0 2
set_option maxHeartbeats 8000000 in
set_option maxRecDepth 100000 in
theorem sakiaref02_Right.calls (k : Nat) (a0 : Int) (r : Bool) (w : World) (h : sakiaref02_Right.f k a0 = some r) :
    Calls Tryd.prog 34 #[.int .i64 a0] w fun e w' => e = .returned (.bool r) ∧ Drawn0 w w' := by
  have H : (sakiaref02_Right.l0 k a0 2) = some r := h
  clear h
  have H' := Aside0.mk H
  clear H
  go_enter Tryd.func34, Tryd.ntmps34
  go_wp2
  go_loopg [3] k (fun kq v3 w' => ∃ (x3_1 : Int), v3 = .int .i64 x3_1 ∧ Aside0 (sakiaref02_Right.l0 kq a0 x3_1 = some r) ∧ Aside0 (kq ≤ k) ∧ Drawn0 w w')
  case atStart => exact ⟨(2), (by first | rfl | (simp; done) | (simp [*]; done)), H', ⟨Nat.le_refl _⟩, by repeat (first | exact Drawn0.refl _ | apply Drawn0.step)⟩
  case round =>
    clear H'
    obtain ⟨x3_1, rfl, HA, HK1, ⟨m1, rfl⟩⟩ := hrel
    cases gk with
    | zero => exact absurd HA.out (by simp [sakiaref02_Right.l0])
    | succ k1 =>
      have H := HA.out
      clear HA
      simp only [sakiaref02_Right.l0] at H
      by_cases c2 : x3_1 < a0
      · rw [if_pos c2] at H
        have c2b0 : decide (x3_1 < a0) = true := decide_eq_true c2
        clear c2
        by_cases c3 : x3_1 < 1073741824
        · rw [if_pos c3] at H
          have c3b0 : decide (x3_1 < 1073741824) = true := decide_eq_true c3
          clear c3
          have H' := Aside0.mk H
          clear H
          go_wp2
          go_roundg k1
          case measure => have := HK1.out; omega
          case rel => exact ⟨(wrap64 (2 * x3_1)), (by first | rfl | (simp; done) | (simp [*]; done)), H', ⟨by have := HK1.out; omega⟩, by repeat (first | exact Drawn0.refl _ | apply Drawn0.step)⟩
        · rw [if_neg c3] at H
          have c3b0 : decide (x3_1 < 1073741824) = false := decide_eq_false c3
          clear c3
          obtain rfl := Option.some.inj H
          go_wp2
          go_ret
          exact ⟨by first | rfl | (simp; done) | (simp [*]; done), by repeat (first | exact Drawn0.refl _ | apply Drawn0.step)⟩
      · rw [if_neg c2] at H
        have c2b0 : decide (x3_1 < a0) = false := decide_eq_false c2
        clear c2
        obtain rfl := Option.some.inj H
        go_wp2
        go_ret
        exact ⟨by first | rfl | (simp; done) | (simp [*]; done), by repeat (first | exact Drawn0.refl _ | apply Drawn0.step)⟩

-- NOT PRINTED: function 93 (sakiaref09_Of)

end Go.Proofs.YtgibmlbdkijflaaDoor.QCf
