/- The row of the law SoloNone: for every input the call returns true, and each argument reads afterwards as it read before. Asked: the library's table lies as laid (the row's own condition). -/
import Derived.Test.YtgibmlbdkijflaaDoorGRow
import Derived.Test.YtgibmlbdkijflaaDoorCards
import Derived.Test.YtgibmlbdkijflaaDoorTie
import Derived.Test.YtgibmlbdkijflaaDoorSoOpen
import Derived.Test.YtgibmlbdkijflaaDoorSoNone
set_option linter.unusedVariables false
set_option maxRecDepth 100000
namespace Go.Proofs.YtgibmlbdkijflaaDoor.soloNone
open Go.ChangeShapes Go.WideShapes Go.ChangeAt Go.RowKit
set_option maxRecDepth 100000 in
theorem lifted (os : Os) (started : os.Started) (H : Type) (enc : TypeId × Value → H) :
    ReturnsInHanded {} Tryd.checked os 5 .any (fun w args => (Rows.soloNoneSpec.pre enc Tryd.prog Tryd.f5 [] false w args ∧ laidMetH Tryd.prog Rows.soloNoneRow.laid w) ∧ sizedMet enc Tryd.prog Tryd.f5 (OpenSpec.ofChange Rows.soloNoneSpec) false w args) (Rows.soloNoneSpec.post enc Tryd.prog Tryd.f5 false true false false) := by
  refine Row.lift (L := Rows.soloNoneRow.laid) os started H enc (by kernel_rfl) Tryd.func5 rfl rfl rfl [3, 41] rfl (by kernel_rfl) ?_
    (ChangeSpec.witness_shaped (enc := enc) (C := Tryd.checked) (os := os) (X := fun w _ => laidMetH Tryd.prog Rows.soloNoneRow.laid w) false (World.laidAll Tryd.prog os Rows.soloNoneRow.laid) #[.int .i64 0, .agg #[.int .i64 0, .int .i64 0, .int .i64 0, .slice none 0 0]] 8 (World.laidAll_os _ _ _)
      (World.shaped_of_ZipB (by kernel_rfl) (by kernel_rfl)) (by kernel_rfl) (by kernel_rfl) (by kernel_rfl)
      (by rw [MakeChecks.laidMetH_plain _ _ _ (by kernel_rfl)]; exact laidMet_laidAll _ (by kernel_rfl) (by kernel_rfl))) ?_
  · intro ds hl
    match ds, hl with
    | [d0, d1], _ => exact ⟨rfl, rfl, rfl⟩
  · intro W base args ds ps hval hA hsz hlaid
    obtain ⟨v0, vs0, d0, ds0, p0, q0, hargs, rfl, rfl, h0, r0⟩ := trodAll_cons hA
    obtain ⟨v1, vs1, d1, ds1, p1, q1, rfl, rfl, rfl, h1, r1⟩ := trodAll_cons r0
    obtain ⟨rfl, rfl, rfl⟩ := trodAll_nil r1
    obtain rfl : args = #[v0, v1] := by cases args; simp_all
    obtain ⟨n0, rfl, rfl, rfl, w0⟩ := open_int Tryd.underlying3 (hval 0 3 v0 rfl rfl) h0
    have hk1 := hval 1 41 v1 rfl rfl
    obtain ⟨cs1, rfl⟩ : ∃ cs, v1 = .agg cs := by
      unfold Value.okWide at hk1
      rw [Tryd.underlying41] at hk1
      obtain ⟨cs, e, _⟩ := hk1
      exact ⟨cs, e⟩
    obtain ⟨x1, hx1, hF1⟩ := Open.arg_agg MoOpen.readsAct h1
    obtain ⟨A1, C1, e1, hC1, hr1⟩ := MoOpen.openAct hx1
    obtain rfl := Array.toList_inj.1 e1
    exact (So.walkNone W n0 x1 A1 C1 (Row.tabled hlaid)).mono fun _ _ h => ⟨h.r, h.b⟩
theorem over : Rows.soloNoneRow.holds Tryd.pinned (OpenSpec.ofChange Rows.soloNoneSpec) :=
  OpenClaim.holds_of_wide 5 Tryd.f5 rfl rfl rfl rfl rfl rfl rfl ⟨rfl, rfl, rfl, rfl, rfl⟩ rfl rfl rfl rfl rfl (by kernel_rfl) Tryd.func5 (by kernel_rfl)
    (of_decide_eq_true (by kernel_rfl)) (by unfold Func.isWrapper; first | (rw [if_pos (by decide +kernel)]; kernel_rfl) | (rw [if_neg (by decide +kernel)]; exact ⟨rfl, rfl⟩))
    (fun os started H enc _ => lifted os started H enc)
end Go.Proofs.YtgibmlbdkijflaaDoor.soloNone
namespace Go.Proofs.YtgibmlbdkijflaaDoor
theorem soloNone_row : Rows.SoloNoneSaid := soloNone.over
theorem soloNone_holds : Rows.SoloNoneCardSaid :=
  Claim7.holds_tied_plain_at .later [] [.data] true (true, "24a306ebc8d58107a1efc0c1cd19603f082ab8220c458f9a098594e6f0268587") false soloNone_row (fun _ h => by cases h) (by kernel_rfl) (fun _ h => by cases h) soloNone_row_tie rfl ⟨rfl, rfl⟩ (by kernel_rfl) rfl
    (fun f fn hf hfn => by
      obtain rfl : f = 5 := Option.some.inj ((show Tryd.prog.funcNamed "sakia/sakialaw31.SoloNone" = some 5 by kernel_rfl).symm.trans hf) |>.symm
      obtain rfl : fn = Tryd.f5 := (Option.some.inj (Tryd.func5.symm.trans hfn)).symm
      exact ⟨by kernel_rfl, fun j t ht => by
        rw [Tryd.params5] at ht
        have hm : t ∈ [3, 41] := by simpa using Array.mem_of_getElem? ht
        have hall : ([3, 41].all fun u => !Tryd.prog.wantsStandIn u) = true := by kernel_rfl
        exact (show Tryd.prog.wantsStandIn t = false by simpa using List.all_eq_true.1 hall t hm)⟩)
    (by kernel_rfl)
#print axioms soloNone_holds
end Go.Proofs.YtgibmlbdkijflaaDoor
