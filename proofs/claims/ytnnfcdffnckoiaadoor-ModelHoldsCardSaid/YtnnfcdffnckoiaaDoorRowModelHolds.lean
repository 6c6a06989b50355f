/- The row of the law ModelHolds: for every input the call returns true, and each argument reads afterwards as it read before. Asked: the library's table lies as laid (the row's own condition). -/
import Derived.Test.YtnnfcdffnckoiaaDoorGRow
import Derived.Test.YtnnfcdffnckoiaaDoorCards
import Derived.Test.YtnnfcdffnckoiaaDoorTie
import Derived.Test.YtnnfcdffnckoiaaDoorMoOpen
import Derived.Test.YtnnfcdffnckoiaaDoorMoHold
set_option linter.unusedVariables false
set_option maxRecDepth 100000
namespace Go.Proofs.YtnnfcdffnckoiaaDoor.modelHolds
open Go.ChangeShapes Go.WideShapes Go.ChangeAt Go.RowKit
set_option maxRecDepth 100000 in
theorem lifted (os : Os) (started : os.Started) (H : Type) (enc : TypeId × Value → H) :
    ReturnsInHanded {} Tryd.checked os 4 .any (fun w args => (Rows.modelHoldsSpec.pre enc Tryd.prog Tryd.f4 [] false w args ∧ laidMetH Tryd.prog Rows.modelHoldsRow.laid w) ∧ sizedMet enc Tryd.prog Tryd.f4 (OpenSpec.ofChange Rows.modelHoldsSpec) false w args) (Rows.modelHoldsSpec.post enc Tryd.prog Tryd.f4 false true false false) := by
  refine Row.lift (L := Rows.modelHoldsRow.laid) os started H enc (by kernel_rfl) Tryd.func4 rfl rfl rfl [25, 51] rfl (by kernel_rfl) ?_
    (ChangeSpec.witness_shaped (enc := enc) (C := Tryd.checked) (os := os) (X := fun w _ => laidMetH Tryd.prog Rows.modelHoldsRow.laid w) false (World.laidAll Tryd.prog os Rows.modelHoldsRow.laid) #[.agg #[.int .i64 0, .int .i64 0, .int .i64 0, .int .i64 0, .int .u64 0, .slice none 0 0], .slice none 0 0] 8 (World.laidAll_os _ _ _)
      (World.shaped_of_ZipB (by kernel_rfl) (by kernel_rfl)) (by kernel_rfl) (by kernel_rfl) (by kernel_rfl)
      (by rw [MakeChecks.laidMetH_plain _ _ _ (by kernel_rfl)]; exact laidMet_laidAll _ (by kernel_rfl) (by kernel_rfl))) ?_
  · intro ds hl
    match ds, hl with
    | [d0, d1], _ => exact ⟨rfl, rfl, rfl⟩
  · intro W base args ds ps hval hA hsz hlaid
    obtain ⟨v0, vs0, d0, ds0, p0, q0, hargs, rfl, rfl, h0, r0⟩ := trodAll_cons hA
    obtain ⟨v1, vs1, d1, ds1, p1, q1, rfl, rfl, rfl, h1, r1⟩ := trodAll_cons r0
    obtain ⟨rfl, rfl, rfl⟩ := trodAll_nil r1
    obtain rfl : args = #[v0, v1] := by cases args; simp_all
    have hk0 := hval 0 25 v0 rfl rfl
    obtain ⟨cs0, rfl⟩ : ∃ cs, v0 = .agg cs := by
      unfold Value.okWide at hk0
      rw [Tryd.underlying25] at hk0
      obtain ⟨cs, e, _⟩ := hk0
      exact ⟨cs, e⟩
    obtain ⟨x0, hx0, hF0⟩ := Open.arg_agg MoOpen.readsConf h0
    obtain ⟨A0, C0, e0, hC0, hr0⟩ := MoOpen.openConf hx0
    obtain rfl := Array.toList_inj.1 e0
    obtain ⟨A1, C1, l1, rfl, hC1, hr1, hm1, hF1⟩ := Open.arg_slice (Open.reads_slice Tryd.underlying51 (by kernel_rfl) MoOpen.readsEvent) (okWide_slice Tryd.underlying51 (hval 1 51 v1 rfl rfl)) h1
    exact (Mo.walkHolds W x0.1 x0.2.1 x0.2.2.1 x0.2.2.2.1 x0.2.2.2.2.1 A0 C0 x0.2.2.2.2.2 hr0 hC0 hF0 A1 C1 l1 hr1 hC1 hF1 (Row.tabled hlaid)).mono fun _ _ h => h
theorem over : Rows.modelHoldsRow.holds Tryd.pinned (OpenSpec.ofChange Rows.modelHoldsSpec) :=
  OpenClaim.holds_of_wide 4 Tryd.f4 rfl rfl rfl rfl rfl rfl rfl ⟨rfl, rfl, rfl, rfl, rfl⟩ rfl rfl rfl rfl rfl (by kernel_rfl) Tryd.func4 (by kernel_rfl)
    (of_decide_eq_true (by kernel_rfl)) (by unfold Func.isWrapper; first | (rw [if_pos (by decide +kernel)]; kernel_rfl) | (rw [if_neg (by decide +kernel)]; exact ⟨rfl, rfl⟩))
    (fun os started H enc _ => lifted os started H enc)
end Go.Proofs.YtnnfcdffnckoiaaDoor.modelHolds
namespace Go.Proofs.YtnnfcdffnckoiaaDoor
theorem modelHolds_row : Rows.ModelHoldsSaid := modelHolds.over
theorem modelHolds_holds : Rows.ModelHoldsCardSaid :=
  Claim7.holds_tied_plain_at .later [] [.data] true (true, "983452fad4ebbe56804ccc06acde90c359e59f81927d829785010bb47821954f") false modelHolds_row (fun _ h => by cases h) (by kernel_rfl) (fun _ h => by cases h) modelHolds_row_tie rfl ⟨rfl, rfl⟩ (by kernel_rfl) rfl
    (fun f fn hf hfn => by
      obtain rfl : f = 4 := Option.some.inj ((show Tryd.prog.funcNamed "sakia/sakialaw29.ModelHolds" = some 4 by kernel_rfl).symm.trans hf) |>.symm
      obtain rfl : fn = Tryd.f4 := (Option.some.inj (Tryd.func4.symm.trans hfn)).symm
      exact ⟨by kernel_rfl, fun j t ht => by
        rw [Tryd.params4] at ht
        have hm : t ∈ [25, 51] := by simpa using Array.mem_of_getElem? ht
        have hall : ([25, 51].all fun u => !Tryd.prog.wantsStandIn u) = true := by kernel_rfl
        exact (show Tryd.prog.wantsStandIn t = false by simpa using List.all_eq_true.1 hall t hm)⟩)
    (by kernel_rfl)
#print axioms modelHolds_holds
end Go.Proofs.YtnnfcdffnckoiaaDoor
