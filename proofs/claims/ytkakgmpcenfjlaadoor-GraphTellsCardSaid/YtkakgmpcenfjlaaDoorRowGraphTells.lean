/- The row of the law GraphTells: for every input the call returns true, and each argument reads afterwards as it read before. Asked: the library's table lies as laid (the row's own condition). -/
import Derived.Test.YtkakgmpcenfjlaaDoorGRow
import Derived.Test.YtkakgmpcenfjlaaDoorCards
import Derived.Test.YtkakgmpcenfjlaaDoorTie
import Derived.Test.YtkakgmpcenfjlaaDoorOpen
import Derived.Test.YtkakgmpcenfjlaaDoorGTells
set_option linter.unusedVariables false
namespace Go.Proofs.YtkakgmpcenfjlaaDoor.graphTells
open Go.ChangeShapes Go.WideShapes Go.ChangeAt Go.RowKit
set_option maxRecDepth 100000 in
theorem lifted (os : Os) (started : os.Started) (H : Type) (enc : TypeId × Value → H) :
    ReturnsInHanded {} Tryd.checked os 5 .any (fun w args => (Rows.graphTellsSpec.pre enc Tryd.prog Tryd.f5 [] false w args ∧ laidMetH Tryd.prog Rows.graphTellsRow.laid w) ∧ sizedMet enc Tryd.prog Tryd.f5 (OpenSpec.ofChange Rows.graphTellsSpec) false w args) (Rows.graphTellsSpec.post enc Tryd.prog Tryd.f5 false true false false) := by
  refine Row.lift (L := Rows.graphTellsRow.laid) os started H enc (by kernel_rfl) Tryd.func5 rfl rfl rfl [22, 3] rfl (by kernel_rfl) ?_
    (ChangeSpec.witness_shaped (enc := enc) (C := Tryd.checked) (os := os) (X := fun w _ => laidMetH Tryd.prog Rows.graphTellsRow.laid w) false (World.laidAll Tryd.prog os Rows.graphTellsRow.laid) #[.slice none 0 0, .int .i64 0] 8 (World.laidAll_os _ _ _)
      (World.shaped_of_ZipB (by kernel_rfl) (by kernel_rfl)) (by kernel_rfl) (by kernel_rfl) (by kernel_rfl)
      (by rw [MakeChecks.laidMetH_plain _ _ _ (by kernel_rfl)]; exact laidMet_laidAll _ (by kernel_rfl) (by kernel_rfl))) ?_
  · intro ds hl
    match ds, hl with
    | [d0, d1], _ => exact ⟨rfl, rfl, rfl⟩
  · intro W base args ds ps hval hA hsz hlaid
    obtain ⟨v0, vs0, d0, ds0, p0, q0, hargs, rfl, rfl, h0, r0⟩ := trodAll_cons hA
    obtain ⟨v1, vs1, d1, ds1, p1, q1, rfl, rfl, rfl, h1, r1⟩ := trodAll_cons r0
    obtain ⟨rfl, rfl, rfl⟩ := trodAll_nil r1
    obtain rfl : args = #[v0, v1] := by cases args; simp_all
    obtain ⟨A, C, up, rfl, hC, hr, hm, hF⟩ := Open.arg_slice (Open.reads_slice Tryd.underlying22 (by kernel_rfl) (Open.reads_slice Tryd.underlying27 (by kernel_rfl) (Open.reads_int Tryd.underlying3))) (okWide_slice Tryd.underlying22 (hval 0 22 v0 rfl rfl)) h0
    obtain ⟨c, rfl, rfl, rfl, w1⟩ := open_int Tryd.underlying3 (hval 1 3 v1 rfl rfl) h1
    exact Graph.walkTells A C up c W hr hC (Row.tabled hlaid)
theorem over : Rows.graphTellsRow.holds Tryd.pinned (OpenSpec.ofChange Rows.graphTellsSpec) :=
  OpenClaim.holds_of_wide 5 Tryd.f5 rfl rfl rfl rfl rfl rfl rfl ⟨rfl, rfl, rfl, rfl, rfl⟩ rfl rfl rfl rfl rfl (by kernel_rfl) Tryd.func5 (by kernel_rfl)
    (of_decide_eq_true (by kernel_rfl)) (by unfold Func.isWrapper; first | (rw [if_pos (by decide +kernel)]; kernel_rfl) | (rw [if_neg (by decide +kernel)]; exact ⟨rfl, rfl⟩))
    (fun os started H enc _ => lifted os started H enc)
end Go.Proofs.YtkakgmpcenfjlaaDoor.graphTells
namespace Go.Proofs.YtkakgmpcenfjlaaDoor
theorem graphTells_row : Rows.GraphTellsSaid := graphTells.over
theorem graphTells_holds : Rows.GraphTellsCardSaid :=
  Claim7.holds_tied_plain_at .later [] [.data] true (true, "6248c900ffa7589cfaffe74427d4d589473018e6f8368f41914069c3ea6d77a1") false graphTells_row (fun _ h => by cases h) (by kernel_rfl) (fun _ h => by cases h) graphTells_row_tie rfl ⟨rfl, rfl⟩ (by kernel_rfl) rfl
    (fun f fn hf hfn => by
      obtain rfl : f = 5 := Option.some.inj ((show Tryd.prog.funcNamed "sakia/sakialaw09.GraphTells" = some 5 by kernel_rfl).symm.trans hf) |>.symm
      obtain rfl : fn = Tryd.f5 := (Option.some.inj (Tryd.func5.symm.trans hfn)).symm
      exact ⟨by kernel_rfl, fun j t ht => by
        rw [Tryd.params5] at ht
        have hm : t ∈ [22, 3] := by simpa using Array.mem_of_getElem? ht
        have hall : ([22, 3].all fun u => !Tryd.prog.wantsStandIn u) = true := by kernel_rfl
        exact (show Tryd.prog.wantsStandIn t = false by simpa using List.all_eq_true.1 hall t hm)⟩)
    (by kernel_rfl)
#print axioms graphTells_holds
end Go.Proofs.YtkakgmpcenfjlaaDoor
