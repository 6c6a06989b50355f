/- The row of the law ModelNone: for every input the call returns true, and each argument reads afterwards as it read before. Asked: the library's table lies as laid (the row's own condition). -/
import Derived.Test.YtnnfcdffnckoiaaDoorGRow
import Derived.Test.YtnnfcdffnckoiaaDoorCards
import Derived.Test.YtnnfcdffnckoiaaDoorTie
import Derived.Test.YtnnfcdffnckoiaaDoorMoOpen
import Derived.Test.YtnnfcdffnckoiaaDoorMoNone
set_option linter.unusedVariables false
set_option maxRecDepth 100000
namespace Go.Proofs.YtnnfcdffnckoiaaDoor.modelNone
open Go.ChangeShapes Go.WideShapes Go.ChangeAt Go.RowKit
set_option maxRecDepth 100000 in
theorem lifted (os : Os) (started : os.Started) (H : Type) (enc : TypeId × Value → H) :
    ReturnsInHanded {} Tryd.checked os 7 .any (fun w args => (Rows.modelNoneSpec.pre enc Tryd.prog Tryd.f7 [] false w args ∧ laidMetH Tryd.prog Rows.modelNoneRow.laid w) ∧ sizedMet enc Tryd.prog Tryd.f7 (OpenSpec.ofChange Rows.modelNoneSpec) false w args) (Rows.modelNoneSpec.post enc Tryd.prog Tryd.f7 false true false false) := by
  refine Row.lift (L := Rows.modelNoneRow.laid) os started H enc (by kernel_rfl) Tryd.func7 rfl rfl rfl [44, 3] rfl (by kernel_rfl) ?_
    (ChangeSpec.witness_shaped (enc := enc) (C := Tryd.checked) (os := os) (X := fun w _ => laidMetH Tryd.prog Rows.modelNoneRow.laid w) false (World.laidAll Tryd.prog os Rows.modelNoneRow.laid) #[.agg #[.int .i64 0, .int .i64 0, .int .i64 0, .int .i64 0, .int .u64 0, .int .i64 0, .slice none 0 0], .int .i64 0] 8 (World.laidAll_os _ _ _)
      (World.shaped_of_ZipB (by kernel_rfl) (by kernel_rfl)) (by kernel_rfl) (by kernel_rfl) (by kernel_rfl)
      (by rw [MakeChecks.laidMetH_plain _ _ _ (by kernel_rfl)]; exact laidMet_laidAll _ (by kernel_rfl) (by kernel_rfl))) ?_
  · intro ds hl
    match ds, hl with
    | [d0, d1], _ => exact ⟨rfl, rfl, rfl⟩
  · intro W base args ds ps hval hA hsz hlaid
    obtain ⟨v0, vs0, d0, ds0, p0, q0, hargs, rfl, rfl, h0, r0⟩ := trodAll_cons hA
    obtain ⟨v1, vs1, d1, ds1, p1, q1, rfl, rfl, rfl, h1, r1⟩ := trodAll_cons r0
    obtain ⟨rfl, rfl, rfl⟩ := trodAll_nil r1
    obtain rfl : args = #[v0, v1] := by cases args; simp_all
    have hk0 := hval 0 44 v0 rfl rfl
    obtain ⟨cs0, rfl⟩ : ∃ cs, v0 = .agg cs := by
      unfold Value.okWide at hk0
      rw [Tryd.underlying44] at hk0
      obtain ⟨cs, e, _⟩ := hk0
      exact ⟨cs, e⟩
    obtain ⟨x0, hx0, hF0⟩ := Open.arg_agg MoOpen.readsEvent h0
    obtain ⟨A0, C0, e0, hC0, hr0⟩ := MoOpen.openEvent hx0
    obtain rfl := Array.toList_inj.1 e0
    obtain ⟨n1, rfl, rfl, rfl, w1⟩ := open_int Tryd.underlying3 (hval 1 3 v1 rfl rfl) h1
    exact (Mo.walkNone W A0 C0 (Mo.evOf x0) n1 (Row.tabled hlaid)).mono fun _ _ h => h
theorem over : Rows.modelNoneRow.holds Tryd.pinned (OpenSpec.ofChange Rows.modelNoneSpec) :=
  OpenClaim.holds_of_wide 7 Tryd.f7 rfl rfl rfl rfl rfl rfl rfl ⟨rfl, rfl, rfl, rfl, rfl⟩ rfl rfl rfl rfl rfl (by kernel_rfl) Tryd.func7 (by kernel_rfl)
    (of_decide_eq_true (by kernel_rfl)) (by unfold Func.isWrapper; first | (rw [if_pos (by decide +kernel)]; kernel_rfl) | (rw [if_neg (by decide +kernel)]; exact ⟨rfl, rfl⟩))
    (fun os started H enc _ => lifted os started H enc)
end Go.Proofs.YtnnfcdffnckoiaaDoor.modelNone
namespace Go.Proofs.YtnnfcdffnckoiaaDoor
theorem modelNone_row : Rows.ModelNoneSaid := modelNone.over
theorem modelNone_holds : Rows.ModelNoneCardSaid :=
  Claim7.holds_tied_plain_at .later [] [.data] true (true, "983452fad4ebbe56804ccc06acde90c359e59f81927d829785010bb47821954f") false modelNone_row (fun _ h => by cases h) (by kernel_rfl) (fun _ h => by cases h) modelNone_row_tie rfl ⟨rfl, rfl⟩ (by kernel_rfl) rfl
    (fun f fn hf hfn => by
      obtain rfl : f = 7 := Option.some.inj ((show Tryd.prog.funcNamed "sakia/sakialaw29.ModelNone" = some 7 by kernel_rfl).symm.trans hf) |>.symm
      obtain rfl : fn = Tryd.f7 := (Option.some.inj (Tryd.func7.symm.trans hfn)).symm
      exact ⟨by kernel_rfl, fun j t ht => by
        rw [Tryd.params7] at ht
        have hm : t ∈ [44, 3] := by simpa using Array.mem_of_getElem? ht
        have hall : ([44, 3].all fun u => !Tryd.prog.wantsStandIn u) = true := by kernel_rfl
        exact (show Tryd.prog.wantsStandIn t = false by simpa using List.all_eq_true.1 hall t hm)⟩)
    (by kernel_rfl)
#print axioms modelNone_holds
end Go.Proofs.YtnnfcdffnckoiaaDoor
