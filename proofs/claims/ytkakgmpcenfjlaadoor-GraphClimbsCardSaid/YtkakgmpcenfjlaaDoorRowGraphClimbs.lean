/- The row of the law GraphClimbs: for every input the call returns true, and each argument reads afterwards as it read before. Asked: the library's table lies as laid (the row's own condition). -/
import Derived.Test.YtkakgmpcenfjlaaDoorGRow
import Derived.Test.YtkakgmpcenfjlaaDoorCards
import Derived.Test.YtkakgmpcenfjlaaDoorTie
import Derived.Test.YtkakgmpcenfjlaaDoorOpen
import Derived.Test.YtkakgmpcenfjlaaDoorGClimbs
set_option linter.unusedVariables false
namespace Go.Proofs.YtkakgmpcenfjlaaDoor.graphClimbs
open Go.ChangeShapes Go.WideShapes Go.ChangeAt Go.RowKit
set_option maxRecDepth 100000 in
theorem lifted (os : Os) (started : os.Started) (H : Type) (enc : TypeId × Value → H) :
    ReturnsInHanded {} Tryd.checked os 3 .any (fun w args => (Rows.graphClimbsSpec.pre enc Tryd.prog Tryd.f3 [] false w args ∧ laidMetH Tryd.prog Rows.graphClimbsRow.laid w) ∧ sizedMet enc Tryd.prog Tryd.f3 (OpenSpec.ofChange Rows.graphClimbsSpec) false w args) (Rows.graphClimbsSpec.post enc Tryd.prog Tryd.f3 false true false false) := by
  refine Row.lift (L := Rows.graphClimbsRow.laid) os started H enc (by kernel_rfl) Tryd.func3 rfl rfl rfl [22] rfl (by kernel_rfl) ?_
    (ChangeSpec.witness_shaped (enc := enc) (C := Tryd.checked) (os := os) (X := fun w _ => laidMetH Tryd.prog Rows.graphClimbsRow.laid w) false (World.laidAll Tryd.prog os Rows.graphClimbsRow.laid) #[.slice none 0 0] 8 (World.laidAll_os _ _ _)
      (World.shaped_of_ZipB (by kernel_rfl) (by kernel_rfl)) (by kernel_rfl) (by kernel_rfl) (by kernel_rfl)
      (by rw [MakeChecks.laidMetH_plain _ _ _ (by kernel_rfl)]; exact laidMet_laidAll _ (by kernel_rfl) (by kernel_rfl))) ?_
  · intro ds hl
    match ds, hl with
    | [d0], _ => exact ⟨rfl, rfl, rfl⟩
  · intro W base args ds ps hval hA hsz hlaid
    obtain ⟨v0, vs0, d0, ds0, p0, q0, hargs, rfl, rfl, h0, r0⟩ := trodAll_cons hA
    obtain ⟨rfl, rfl, rfl⟩ := trodAll_nil r0
    obtain rfl : args = #[v0] := by cases args; simp_all
    obtain ⟨A, C, up, rfl, hC, hr, hm, hF⟩ := Open.arg_slice (Open.reads_slice Tryd.underlying22 (by kernel_rfl) (Open.reads_slice Tryd.underlying27 (by kernel_rfl) (Open.reads_int Tryd.underlying3))) (okWide_slice Tryd.underlying22 (hval 0 22 v0 rfl rfl)) h0
    exact Graph.walkClimbs A C up W hr hC (Row.tabled hlaid)
theorem over : Rows.graphClimbsRow.holds Tryd.pinned (OpenSpec.ofChange Rows.graphClimbsSpec) :=
  OpenClaim.holds_of_wide 3 Tryd.f3 rfl rfl rfl rfl rfl rfl rfl ⟨rfl, rfl, rfl, rfl, rfl⟩ rfl rfl rfl rfl rfl (by kernel_rfl) Tryd.func3 (by kernel_rfl)
    (of_decide_eq_true (by kernel_rfl)) (by unfold Func.isWrapper; first | (rw [if_pos (by decide +kernel)]; kernel_rfl) | (rw [if_neg (by decide +kernel)]; exact ⟨rfl, rfl⟩))
    (fun os started H enc _ => lifted os started H enc)
end Go.Proofs.YtkakgmpcenfjlaaDoor.graphClimbs
namespace Go.Proofs.YtkakgmpcenfjlaaDoor
theorem graphClimbs_row : Rows.GraphClimbsSaid := graphClimbs.over
theorem graphClimbs_holds : Rows.GraphClimbsCardSaid :=
  Claim7.holds_tied_plain_at .later [] [.data] true (true, "6248c900ffa7589cfaffe74427d4d589473018e6f8368f41914069c3ea6d77a1") false graphClimbs_row (fun _ h => by cases h) (by kernel_rfl) (fun _ h => by cases h) graphClimbs_row_tie rfl ⟨rfl, rfl⟩ (by kernel_rfl) rfl
    (fun f fn hf hfn => by
      obtain rfl : f = 3 := Option.some.inj ((show Tryd.prog.funcNamed "sakia/sakialaw09.GraphClimbs" = some 3 by kernel_rfl).symm.trans hf) |>.symm
      obtain rfl : fn = Tryd.f3 := (Option.some.inj (Tryd.func3.symm.trans hfn)).symm
      exact ⟨by kernel_rfl, fun j t ht => by
        rw [Tryd.params3] at ht
        have hm : t ∈ [22] := by simpa using Array.mem_of_getElem? ht
        have hall : ([22].all fun u => !Tryd.prog.wantsStandIn u) = true := by kernel_rfl
        exact (show Tryd.prog.wantsStandIn t = false by simpa using List.all_eq_true.1 hall t hm)⟩)
    (by kernel_rfl)
#print axioms graphClimbs_holds
end Go.Proofs.YtkakgmpcenfjlaaDoor
