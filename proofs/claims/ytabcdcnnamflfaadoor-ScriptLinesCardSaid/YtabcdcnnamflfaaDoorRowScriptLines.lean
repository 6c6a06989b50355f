/- The row of the law ScriptLines: for every input the call returns true, and each argument reads afterwards as it read before. Asked: the library's variables lie as laid (the row's own condition). -/
import Derived.Test.YtabcdcnnamflfaaDoorWRow
import Derived.Test.YtabcdcnnamflfaaDoorCards
import Derived.Test.YtabcdcnnamflfaaDoorTie
import Derived.Test.YtabcdcnnamflfaaDoorOpen
import Derived.Test.YtabcdcnnamflfaaDoorScOpen
import Derived.Test.YtabcdcnnamflfaaDoorScH
set_option linter.unusedVariables false
namespace Go.Proofs.YtabcdcnnamflfaaDoor.scriptLines
open Go.ChangeMaps (open_string)
open Go.ChangeShapes Go.WideShapes Go.ChangeAt Go.RowKit
set_option maxRecDepth 100000 in
theorem lifted (os : Os) (started : os.Started) (H : Type) (enc : TypeId × Value → H) :
    ReturnsInHanded {} Tryd.checked os 6 .any (fun w args => (Rows.scriptLinesSpec.pre enc Tryd.prog Tryd.f6 [] false w args ∧ laidMetH Tryd.prog Rows.scriptLinesRow.laid w) ∧ sizedMet enc Tryd.prog Tryd.f6 (OpenSpec.ofChange Rows.scriptLinesSpec) false w args) (Rows.scriptLinesSpec.post enc Tryd.prog Tryd.f6 false true false false) := by
  refine Row.lift (L := Rows.scriptLinesRow.laid) os started H enc (by kernel_rfl) Tryd.func6 rfl rfl rfl [9, 46, 50] rfl (by kernel_rfl) ?_
    (ChangeSpec.witness_shaped (enc := enc) (C := Tryd.checked) (os := os) (X := fun w _ => laidMetH Tryd.prog Rows.scriptLinesRow.laid w) false (World.laidAll Tryd.prog os Rows.scriptLinesRow.laid) #[.string ByteArray.empty, .agg #[.int .i64 0, .int .i64 0, .int .i64 0, .int .i64 0, .int .u64 0, .slice none 0 0], .agg #[.int .i64 0, .int .i64 0, .int .i64 0, .slice none 0 0]] 8 (World.laidAll_os _ _ _)
      (World.shaped_of_ZipB (by kernel_rfl) (by kernel_rfl)) (by kernel_rfl) (by kernel_rfl) (by kernel_rfl)
      (by rw [MakeChecks.laidMetH_plain _ _ _ (by kernel_rfl)]; exact laidMet_laidAll _ (by kernel_rfl) (by kernel_rfl))) ?_
  · intro ds hl
    match ds, hl with
    | [d0, d1, d2], _ => exact ⟨rfl, rfl, rfl⟩
  · intro W base args ds ps hval hA hsz hlaid hsh
    obtain ⟨v0, vs0, d0, ds0, p0, q0, hargs, rfl, rfl, h0, r0⟩ := trodAll_cons hA
    obtain ⟨v1, vs1, d1, ds1, p1, q1, rfl, rfl, rfl, h1, r1⟩ := trodAll_cons r0
    obtain ⟨v2, vs2, d2, ds2, p2, q2, rfl, rfl, rfl, h2, r2⟩ := trodAll_cons r1
    obtain ⟨rfl, rfl, rfl⟩ := trodAll_nil r2
    obtain rfl : args = #[v0, v1, v2] := by cases args; simp_all
    obtain ⟨s0, rfl, _, _, hs0⟩ := open_string Tryd.underlying9 (hval 0 9 v0 rfl rfl) h0
    have hk1 := hval 1 46 v1 rfl rfl
    obtain ⟨cs1, rfl⟩ : ∃ cs, v1 = .agg cs := by
      unfold Value.okWide at hk1
      rw [Tryd.underlying46] at hk1
      obtain ⟨cs, e, _⟩ := hk1
      exact ⟨cs, e⟩
    obtain ⟨x1, hx1, hF1⟩ := Open.arg_agg ScOpen.readsConf h1
    obtain ⟨A1, C1, e1, hC1, hr1⟩ := ScOpen.openConf hx1
    obtain rfl := Array.toList_inj.1 e1
    have hk2 := hval 2 50 v2 rfl rfl
    obtain ⟨cs2, rfl⟩ : ∃ cs, v2 = .agg cs := by
      unfold Value.okWide at hk2
      rw [Tryd.underlying50] at hk2
      obtain ⟨cs, e, _⟩ := hk2
      exact ⟨cs, e⟩
    obtain ⟨x2, hx2, hF2⟩ := Open.arg_agg ScOpen.readsAct h2
    obtain ⟨A2, C2, e2, hC2, hr2⟩ := ScOpen.openAct hx2
    obtain rfl := Array.toList_inj.1 e2
    exact Wd.walkScriptLinesR s0 A1 C1 x1 A2 C2 x2 W ⟨hr1, hC1, hF1⟩ ⟨hr2, hC2, hF2⟩ (Row.libW hlaid hsh)
theorem over : Rows.scriptLinesRow.holds Tryd.pinned (OpenSpec.ofChange Rows.scriptLinesSpec) :=
  OpenClaim.holds_of_wide 6 Tryd.f6 rfl rfl rfl rfl rfl rfl rfl ⟨rfl, rfl, rfl, rfl, rfl⟩ rfl rfl rfl rfl rfl (by kernel_rfl) Tryd.func6 (by kernel_rfl)
    (of_decide_eq_true (by kernel_rfl)) (by unfold Func.isWrapper; first | (rw [if_pos (by decide +kernel)]; kernel_rfl) | (rw [if_neg (by decide +kernel)]; exact ⟨rfl, rfl⟩))
    (fun os started H enc _ => lifted os started H enc)
end Go.Proofs.YtabcdcnnamflfaaDoor.scriptLines
namespace Go.Proofs.YtabcdcnnamflfaaDoor
theorem scriptLines_row : Rows.ScriptLinesSaid := scriptLines.over
theorem scriptLines_holds : Rows.ScriptLinesCardSaid :=
  Claim7.holds_tied_plain_at .later [] [.data, .data, .data, .data, .sentinel, .sentinel, .pinned] true (true, "0baf1c9b47efb102dc25bcf21317e9b080ae15a7e2aeb0aae7e169c7996aec42") true scriptLines_row (fun _ h => by cases h) (by kernel_rfl) (fun _ h => by cases h) scriptLines_row_tie rfl ⟨rfl, rfl⟩ (by kernel_rfl) rfl
    (fun f fn hf hfn => by
      obtain rfl : f = 6 := Option.some.inj ((show Tryd.prog.funcNamed "sakia/sakialaw36.ScriptLines" = some 6 by kernel_rfl).symm.trans hf) |>.symm
      obtain rfl : fn = Tryd.f6 := (Option.some.inj (Tryd.func6.symm.trans hfn)).symm
      exact ⟨by kernel_rfl, fun j t ht => by
        rw [Tryd.params6] at ht
        have hm : t ∈ [9, 46, 50] := by simpa using Array.mem_of_getElem? ht
        have hall : ([9, 46, 50].all fun u => !Tryd.prog.wantsStandIn u) = true := by kernel_rfl
        exact (show Tryd.prog.wantsStandIn t = false by simpa using List.all_eq_true.1 hall t hm)⟩)
    (by kernel_rfl)
#print axioms scriptLines_holds
end Go.Proofs.YtabcdcnnamflfaaDoor
