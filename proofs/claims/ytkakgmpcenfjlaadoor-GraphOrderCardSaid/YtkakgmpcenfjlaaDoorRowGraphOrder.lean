/- The row of the law GraphOrder: for every input the call returns true, and each argument reads afterwards as it read before. Asked: the library's table lies as laid (the row's own condition). -/
import Derived.Test.YtkakgmpcenfjlaaDoorGRow
import Derived.Test.YtkakgmpcenfjlaaDoorCards
import Derived.Test.YtkakgmpcenfjlaaDoorTie
import Derived.Test.YtkakgmpcenfjlaaDoorOpen
import Derived.Test.YtkakgmpcenfjlaaDoorGOrder
set_option linter.unusedVariables false
namespace Go.Proofs.YtkakgmpcenfjlaaDoor.graphOrder
open Go.ChangeShapes Go.WideShapes Go.ChangeAt Go.RowKit
set_option maxRecDepth 100000 in
theorem lifted (os : Os) (started : os.Started) (H : Type) (enc : TypeId × Value → H) :
    ReturnsInHanded {} Tryd.checked os 4 .any (fun w args => (Rows.graphOrderSpec.pre enc Tryd.prog Tryd.f4 [] false w args ∧ laidMetH Tryd.prog Rows.graphOrderRow.laid w) ∧ sizedMet enc Tryd.prog Tryd.f4 (OpenSpec.ofChange Rows.graphOrderSpec) false w args) (Rows.graphOrderSpec.post enc Tryd.prog Tryd.f4 false true false false) := by
  refine Row.lift (L := Rows.graphOrderRow.laid) os started H enc (by kernel_rfl) Tryd.func4 rfl rfl rfl [22] rfl (by kernel_rfl) ?_
    (ChangeSpec.witness_shaped (enc := enc) (C := Tryd.checked) (os := os) (X := fun w _ => laidMetH Tryd.prog Rows.graphOrderRow.laid w) false (World.laidAll Tryd.prog os Rows.graphOrderRow.laid) #[.slice none 0 0] 8 (World.laidAll_os _ _ _)
      (World.shaped_of_ZipB (by kernel_rfl) (by kernel_rfl)) (by kernel_rfl) (by kernel_rfl) (by kernel_rfl)
      (by rw [MakeChecks.laidMetH_plain _ _ _ (by kernel_rfl)]; exact laidMet_laidAll _ (by kernel_rfl) (by kernel_rfl))) ?_
  · intro ds hl
    match ds, hl with
    | [d0], _ => exact ⟨rfl, rfl, rfl⟩
  · intro W base args ds ps hval hA hsz hlaid
    obtain ⟨v0, vs0, d0, ds0, p0, q0, hargs, rfl, rfl, h0, r0⟩ := trodAll_cons hA
    obtain ⟨rfl, rfl, rfl⟩ := trodAll_nil r0
    obtain rfl : args = #[v0] := by cases args; simp_all
    obtain ⟨A, C, up, rfl, hC, hr, hm, hF⟩ := Open.arg_slice (Open.reads_slice Tryd.underlying22 (by kernel_rfl) (Open.reads_slice Tryd.underlying27 (by kernel_rfl) (Open.reads_int Tryd.underlying3))) (okWide_slice Tryd.underlying22 (hval 0 22 v0 rfl rfl)) h0
    exact Graph.walkOrder A C up W hr hC (Row.tabled hlaid)
theorem over : Rows.graphOrderRow.holds Tryd.pinned (OpenSpec.ofChange Rows.graphOrderSpec) :=
  OpenClaim.holds_of_wide 4 Tryd.f4 rfl rfl rfl rfl rfl rfl rfl ⟨rfl, rfl, rfl, rfl, rfl⟩ rfl rfl rfl rfl rfl (by kernel_rfl) Tryd.func4 (by kernel_rfl)
    (of_decide_eq_true (by kernel_rfl)) (by unfold Func.isWrapper; first | (rw [if_pos (by decide +kernel)]; kernel_rfl) | (rw [if_neg (by decide +kernel)]; exact ⟨rfl, rfl⟩))
    (fun os started H enc _ => lifted os started H enc)
end Go.Proofs.YtkakgmpcenfjlaaDoor.graphOrder
namespace Go.Proofs.YtkakgmpcenfjlaaDoor
theorem graphOrder_row : Rows.GraphOrderSaid := graphOrder.over
theorem graphOrder_holds : Rows.GraphOrderCardSaid :=
  Claim7.holds_tied_plain_at .later [] [.data] true (true, "6248c900ffa7589cfaffe74427d4d589473018e6f8368f41914069c3ea6d77a1") false graphOrder_row (fun _ h => by cases h) (by kernel_rfl) (fun _ h => by cases h) graphOrder_row_tie rfl ⟨rfl, rfl⟩ (by kernel_rfl) rfl
    (fun f fn hf hfn => by
      obtain rfl : f = 4 := Option.some.inj ((show Tryd.prog.funcNamed "sakia/sakialaw09.GraphOrder" = some 4 by kernel_rfl).symm.trans hf) |>.symm
      obtain rfl : fn = Tryd.f4 := (Option.some.inj (Tryd.func4.symm.trans hfn)).symm
      exact ⟨by kernel_rfl, fun j t ht => by
        rw [Tryd.params4] at ht
        have hm : t ∈ [22] := by simpa using Array.mem_of_getElem? ht
        have hall : ([22].all fun u => !Tryd.prog.wantsStandIn u) = true := by kernel_rfl
        exact (show Tryd.prog.wantsStandIn t = false by simpa using List.all_eq_true.1 hall t hm)⟩)
    (by kernel_rfl)
#print axioms graphOrder_holds
end Go.Proofs.YtkakgmpcenfjlaaDoor
