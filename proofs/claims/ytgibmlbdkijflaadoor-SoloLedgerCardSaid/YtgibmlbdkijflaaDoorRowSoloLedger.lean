/- The row of the law SoloLedger: for every input the call returns true, and each argument reads afterwards as it read before. Asked: the library's table lies as laid (the row's own condition). -/
import Derived.Test.YtgibmlbdkijflaaDoorGRow
import Derived.Test.YtgibmlbdkijflaaDoorCards
import Derived.Test.YtgibmlbdkijflaaDoorTie
import Derived.Test.YtgibmlbdkijflaaDoorSoOpen
import Derived.Test.YtgibmlbdkijflaaDoorSoLaw
set_option linter.unusedVariables false
set_option maxRecDepth 100000
namespace Go.Proofs.YtgibmlbdkijflaaDoor.soloLedger
open Go.ChangeShapes Go.WideShapes Go.ChangeAt Go.RowKit
set_option maxRecDepth 100000 in
theorem lifted (os : Os) (started : os.Started) (H : Type) (enc : TypeId × Value → H) :
    ReturnsInHanded {} Tryd.checked os 3 .any (fun w args => (Rows.soloLedgerSpec.pre enc Tryd.prog Tryd.f3 [] false w args ∧ laidMetH Tryd.prog Rows.soloLedgerRow.laid w) ∧ sizedMet enc Tryd.prog Tryd.f3 (OpenSpec.ofChange Rows.soloLedgerSpec) false w args) (Rows.soloLedgerSpec.post enc Tryd.prog Tryd.f3 false true false false) := by
  refine Row.lift (L := Rows.soloLedgerRow.laid) os started H enc (by kernel_rfl) Tryd.func3 rfl rfl rfl [25, 26] rfl (by kernel_rfl) ?_
    (ChangeSpec.witness_shaped (enc := enc) (C := Tryd.checked) (os := os) (X := fun w _ => laidMetH Tryd.prog Rows.soloLedgerRow.laid w) false (World.laidAll Tryd.prog os Rows.soloLedgerRow.laid) #[.agg #[.int .i64 0, .int .i64 0, .int .i64 0, .int .i64 0, .int .u64 0, .slice none 0 0], .slice none 0 0] 8 (World.laidAll_os _ _ _)
      (World.shaped_of_ZipB (by kernel_rfl) (by kernel_rfl)) (by kernel_rfl) (by kernel_rfl) (by kernel_rfl)
      (by rw [MakeChecks.laidMetH_plain _ _ _ (by kernel_rfl)]; exact laidMet_laidAll _ (by kernel_rfl) (by kernel_rfl))) ?_
  · intro ds hl
    match ds, hl with
    | [d0, d1], _ => exact ⟨rfl, rfl, rfl⟩
  · intro W base args ds ps hval hA hsz hlaid
    obtain ⟨v0, vs0, d0, ds0, p0, q0, hargs, rfl, rfl, h0, r0⟩ := trodAll_cons hA
    obtain ⟨v1, vs1, d1, ds1, p1, q1, rfl, rfl, rfl, h1, r1⟩ := trodAll_cons r0
    obtain ⟨rfl, rfl, rfl⟩ := trodAll_nil r1
    obtain rfl : args = #[v0, v1] := by cases args; simp_all
    have hk0 := hval 0 25 v0 rfl rfl
    obtain ⟨cs0, rfl⟩ : ∃ cs, v0 = .agg cs := by
      unfold Value.okWide at hk0
      rw [Tryd.underlying25] at hk0
      obtain ⟨cs, e, _⟩ := hk0
      exact ⟨cs, e⟩
    obtain ⟨x0, hx0, hF0⟩ := Open.arg_agg MoOpen.readsConf h0
    obtain ⟨A0, C0, e0, hC0, hr0⟩ := MoOpen.openConf hx0
    obtain rfl := Array.toList_inj.1 e0
    obtain ⟨A1, C1, l1, rfl, hC1, hr1, hm1, hF1⟩ := Open.arg_slice (Open.reads_slice Tryd.underlying26 (by kernel_rfl) MoOpen.readsAct) (okWide_slice Tryd.underlying26 (hval 1 26 v1 rfl rfl)) h1
    exact (So.walkLedger W x0.1 x0.2.1 x0.2.2.1 x0.2.2.2.1 x0.2.2.2.2.1 A0 C0 x0.2.2.2.2.2 hr0 hC0 hF0 A1 C1 l1 hr1 hC1 (Row.tabled hlaid)).mono fun _ _ h => ⟨h.r, h.b⟩
theorem over : Rows.soloLedgerRow.holds Tryd.pinned (OpenSpec.ofChange Rows.soloLedgerSpec) :=
  OpenClaim.holds_of_wide 3 Tryd.f3 rfl rfl rfl rfl rfl rfl rfl ⟨rfl, rfl, rfl, rfl, rfl⟩ rfl rfl rfl rfl rfl (by kernel_rfl) Tryd.func3 (by kernel_rfl)
    (of_decide_eq_true (by kernel_rfl)) (by unfold Func.isWrapper; first | (rw [if_pos (by decide +kernel)]; kernel_rfl) | (rw [if_neg (by decide +kernel)]; exact ⟨rfl, rfl⟩))
    (fun os started H enc _ => lifted os started H enc)
end Go.Proofs.YtgibmlbdkijflaaDoor.soloLedger
namespace Go.Proofs.YtgibmlbdkijflaaDoor
theorem soloLedger_row : Rows.SoloLedgerSaid := soloLedger.over
theorem soloLedger_holds : Rows.SoloLedgerCardSaid :=
  Claim7.holds_tied_plain_at .later [] [.data] true (true, "24a306ebc8d58107a1efc0c1cd19603f082ab8220c458f9a098594e6f0268587") false soloLedger_row (fun _ h => by cases h) (by kernel_rfl) (fun _ h => by cases h) soloLedger_row_tie rfl ⟨rfl, rfl⟩ (by kernel_rfl) rfl
    (fun f fn hf hfn => by
      obtain rfl : f = 3 := Option.some.inj ((show Tryd.prog.funcNamed "sakia/sakialaw31.SoloLedger" = some 3 by kernel_rfl).symm.trans hf) |>.symm
      obtain rfl : fn = Tryd.f3 := (Option.some.inj (Tryd.func3.symm.trans hfn)).symm
      exact ⟨by kernel_rfl, fun j t ht => by
        rw [Tryd.params3] at ht
        have hm : t ∈ [25, 26] := by simpa using Array.mem_of_getElem? ht
        have hall : ([25, 26].all fun u => !Tryd.prog.wantsStandIn u) = true := by kernel_rfl
        exact (show Tryd.prog.wantsStandIn t = false by simpa using List.all_eq_true.1 hall t hm)⟩)
    (by kernel_rfl)
#print axioms soloLedger_holds
end Go.Proofs.YtgibmlbdkijflaaDoor
