/- The row of the law TellLines: for every input the call returns true, and each argument reads afterwards as it read before. Asked: the library's variables lie as laid (the row's own condition). -/
import Derived.Test.YtabcdcnnamflfaaDoorWRow
import Derived.Test.YtabcdcnnamflfaaDoorCards
import Derived.Test.YtabcdcnnamflfaaDoorTie
import Derived.Test.YtabcdcnnamflfaaDoorOpen
import Derived.Test.YtabcdcnnamflfaaDoorTlOpen
import Derived.Test.YtabcdcnnamflfaaDoorTlG
set_option linter.unusedVariables false
namespace Go.Proofs.YtabcdcnnamflfaaDoor.tellLines
open Go.ChangeMaps (open_string)
open Go.ChangeShapes Go.WideShapes Go.ChangeAt Go.RowKit
set_option maxRecDepth 100000 in
theorem lifted (os : Os) (started : os.Started) (H : Type) (enc : TypeId × Value → H) :
    ReturnsInHanded {} Tryd.checked os 9 .any (fun w args => (Rows.tellLinesSpec.pre enc Tryd.prog Tryd.f9 [] false w args ∧ laidMetH Tryd.prog Rows.tellLinesRow.laid w) ∧ sizedMet enc Tryd.prog Tryd.f9 (OpenSpec.ofChange Rows.tellLinesSpec) false w args) (Rows.tellLinesSpec.post enc Tryd.prog Tryd.f9 false true false false) := by
  refine Row.lift (L := Rows.tellLinesRow.laid) os started H enc (by kernel_rfl) Tryd.func9 rfl rfl rfl [72] rfl (by kernel_rfl) ?_
    (ChangeSpec.witness_shaped (enc := enc) (C := Tryd.checked) (os := os) (X := fun w _ => laidMetH Tryd.prog Rows.tellLinesRow.laid w) false (World.laidAll Tryd.prog os Rows.tellLinesRow.laid) #[.slice none 0 0] 8 (World.laidAll_os _ _ _)
      (World.shaped_of_ZipB (by kernel_rfl) (by kernel_rfl)) (by kernel_rfl) (by kernel_rfl) (by kernel_rfl)
      (by rw [MakeChecks.laidMetH_plain _ _ _ (by kernel_rfl)]; exact laidMet_laidAll _ (by kernel_rfl) (by kernel_rfl))) ?_
  · intro ds hl
    match ds, hl with
    | [d0], _ => exact ⟨rfl, rfl, rfl⟩
  · intro W base args ds ps hval hA hsz hlaid hsh
    obtain ⟨v0, vs0, d0, ds0, p0, q0, hargs, rfl, rfl, h0, r0⟩ := trodAll_cons hA
    obtain ⟨rfl, rfl, rfl⟩ := trodAll_nil r0
    obtain rfl : args = #[v0] := by cases args; simp_all
    obtain ⟨A0, C0, l0, rfl, hC0, hr0, hm0, hF0⟩ := Open.arg_slice (Open.reads_slice Tryd.underlying72 (by kernel_rfl) TlOpen.readsEvent) (okWide_slice Tryd.underlying72 (hval 0 72 v0 rfl rfl)) h0
    exact Wd.walkTellLines W A0 C0 l0 ⟨hr0, hC0, hF0⟩ (Row.libW hlaid hsh)
theorem over : Rows.tellLinesRow.holds Tryd.pinned (OpenSpec.ofChange Rows.tellLinesSpec) :=
  OpenClaim.holds_of_wide 9 Tryd.f9 rfl rfl rfl rfl rfl rfl rfl ⟨rfl, rfl, rfl, rfl, rfl⟩ rfl rfl rfl rfl rfl (by kernel_rfl) Tryd.func9 (by kernel_rfl)
    (of_decide_eq_true (by kernel_rfl)) (by unfold Func.isWrapper; first | (rw [if_pos (by decide +kernel)]; kernel_rfl) | (rw [if_neg (by decide +kernel)]; exact ⟨rfl, rfl⟩))
    (fun os started H enc _ => lifted os started H enc)
end Go.Proofs.YtabcdcnnamflfaaDoor.tellLines
namespace Go.Proofs.YtabcdcnnamflfaaDoor
theorem tellLines_row : Rows.TellLinesSaid := tellLines.over
theorem tellLines_holds : Rows.TellLinesCardSaid :=
  Claim7.holds_tied_plain_at .later [] [.data, .data, .data, .data, .sentinel, .sentinel, .pinned] true (true, "0baf1c9b47efb102dc25bcf21317e9b080ae15a7e2aeb0aae7e169c7996aec42") true tellLines_row (fun _ h => by cases h) (by kernel_rfl) (fun _ h => by cases h) tellLines_row_tie rfl ⟨rfl, rfl⟩ (by kernel_rfl) rfl
    (fun f fn hf hfn => by
      obtain rfl : f = 9 := Option.some.inj ((show Tryd.prog.funcNamed "sakia/sakialaw37.TellLines" = some 9 by kernel_rfl).symm.trans hf) |>.symm
      obtain rfl : fn = Tryd.f9 := (Option.some.inj (Tryd.func9.symm.trans hfn)).symm
      exact ⟨by kernel_rfl, fun j t ht => by
        rw [Tryd.params9] at ht
        have hm : t ∈ [72] := by simpa using Array.mem_of_getElem? ht
        have hall : ([72].all fun u => !Tryd.prog.wantsStandIn u) = true := by kernel_rfl
        exact (show Tryd.prog.wantsStandIn t = false by simpa using List.all_eq_true.1 hall t hm)⟩)
    (by kernel_rfl)
#print axioms tellLines_holds
end Go.Proofs.YtabcdcnnamflfaaDoor
