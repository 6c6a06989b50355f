/- The row of the law WordsNumbers: for every input the call returns true, and each argument reads afterwards as it read before. Asked: the library's variables lie as laid (the row's own condition). -/
import Derived.Test.YtabcdcnnamflfaaDoorWRow
import Derived.Test.YtabcdcnnamflfaaDoorCards
import Derived.Test.YtabcdcnnamflfaaDoorTie
import Derived.Test.YtabcdcnnamflfaaDoorOpen
import Derived.Test.YtabcdcnnamflfaaDoorWdG
set_option linter.unusedVariables false
namespace Go.Proofs.YtabcdcnnamflfaaDoor.wordsNumbers
open Go.ChangeMaps (open_string)
open Go.ChangeShapes Go.WideShapes Go.ChangeAt Go.RowKit
set_option maxRecDepth 100000 in
theorem lifted (os : Os) (started : os.Started) (H : Type) (enc : TypeId × Value → H) :
    ReturnsInHanded {} Tryd.checked os 5 .any (fun w args => (Rows.wordsNumbersSpec.pre enc Tryd.prog Tryd.f5 [] false w args ∧ laidMetH Tryd.prog Rows.wordsNumbersRow.laid w) ∧ sizedMet enc Tryd.prog Tryd.f5 (OpenSpec.ofChange Rows.wordsNumbersSpec) false w args) (Rows.wordsNumbersSpec.post enc Tryd.prog Tryd.f5 false true false false) := by
  refine Row.lift (L := Rows.wordsNumbersRow.laid) os started H enc (by kernel_rfl) Tryd.func5 rfl rfl rfl [3, 34, 37] rfl (by kernel_rfl) ?_
    (ChangeSpec.witness_shaped (enc := enc) (C := Tryd.checked) (os := os) (X := fun w _ => laidMetH Tryd.prog Rows.wordsNumbersRow.laid w) false (World.laidAll Tryd.prog os Rows.wordsNumbersRow.laid) #[.int .i64 0, .int .u64 0, .slice none 0 0] 8 (World.laidAll_os _ _ _)
      (World.shaped_of_ZipB (by kernel_rfl) (by kernel_rfl)) (by kernel_rfl) (by kernel_rfl) (by kernel_rfl)
      (by rw [MakeChecks.laidMetH_plain _ _ _ (by kernel_rfl)]; exact laidMet_laidAll _ (by kernel_rfl) (by kernel_rfl))) ?_
  · intro ds hl
    match ds, hl with
    | [d0, d1, d2], _ => exact ⟨rfl, rfl, rfl⟩
  · intro W base args ds ps hval hA hsz hlaid hsh
    obtain ⟨v0, vs0, d0, ds0, p0, q0, hargs, rfl, rfl, h0, r0⟩ := trodAll_cons hA
    obtain ⟨v1, vs1, d1, ds1, p1, q1, rfl, rfl, rfl, h1, r1⟩ := trodAll_cons r0
    obtain ⟨v2, vs2, d2, ds2, p2, q2, rfl, rfl, rfl, h2, r2⟩ := trodAll_cons r1
    obtain ⟨rfl, rfl, rfl⟩ := trodAll_nil r2
    obtain rfl : args = #[v0, v1, v2] := by cases args; simp_all
    obtain ⟨n0, rfl, rfl, rfl, w0⟩ := open_int Tryd.underlying3 (hval 0 3 v0 rfl rfl) h0
    have b0 := bounds_i64 w0
    obtain ⟨n1, rfl, rfl, rfl, w1⟩ := open_int Tryd.underlying34 (hval 1 34 v1 rfl rfl) h1
    have b1 := bounds_u64 w1
    obtain ⟨m1, rfl⟩ : ∃ m : Nat, n1 = (m : Int) := ⟨n1.toNat, by omega⟩
    obtain ⟨A2, C2, l2, rfl, hC2, hr2, hm2, hF2⟩ := Open.arg_slice (Open.reads_slice Tryd.underlying37 (by kernel_rfl) (Open.reads_int Tryd.underlying3)) (okWide_slice Tryd.underlying37 (hval 2 37 v2 rfl rfl)) h2
    exact Wd.walkNumbers n0 b0.1 b0.2 m1 (by omega) A2 C2 l2 W ⟨hr2, hC2, fun n hn => bounds_i64 (hF2 n hn)⟩ (Row.libW hlaid hsh)
theorem over : Rows.wordsNumbersRow.holds Tryd.pinned (OpenSpec.ofChange Rows.wordsNumbersSpec) :=
  OpenClaim.holds_of_wide 5 Tryd.f5 rfl rfl rfl rfl rfl rfl rfl ⟨rfl, rfl, rfl, rfl, rfl⟩ rfl rfl rfl rfl rfl (by kernel_rfl) Tryd.func5 (by kernel_rfl)
    (of_decide_eq_true (by kernel_rfl)) (by unfold Func.isWrapper; first | (rw [if_pos (by decide +kernel)]; kernel_rfl) | (rw [if_neg (by decide +kernel)]; exact ⟨rfl, rfl⟩))
    (fun os started H enc _ => lifted os started H enc)
end Go.Proofs.YtabcdcnnamflfaaDoor.wordsNumbers
namespace Go.Proofs.YtabcdcnnamflfaaDoor
theorem wordsNumbers_row : Rows.WordsNumbersSaid := wordsNumbers.over
theorem wordsNumbers_holds : Rows.WordsNumbersCardSaid :=
  Claim7.holds_tied_plain_at .later [] [.data, .data, .data, .data, .sentinel, .sentinel, .pinned] true (true, "0baf1c9b47efb102dc25bcf21317e9b080ae15a7e2aeb0aae7e169c7996aec42") true wordsNumbers_row (fun _ h => by cases h) (by kernel_rfl) (fun _ h => by cases h) wordsNumbers_row_tie rfl ⟨rfl, rfl⟩ (by kernel_rfl) rfl
    (fun f fn hf hfn => by
      obtain rfl : f = 5 := Option.some.inj ((show Tryd.prog.funcNamed "sakia/sakialaw06.WordsNumbers" = some 5 by kernel_rfl).symm.trans hf) |>.symm
      obtain rfl : fn = Tryd.f5 := (Option.some.inj (Tryd.func5.symm.trans hfn)).symm
      exact ⟨by kernel_rfl, fun j t ht => by
        rw [Tryd.params5] at ht
        have hm : t ∈ [3, 34, 37] := by simpa using Array.mem_of_getElem? ht
        have hall : ([3, 34, 37].all fun u => !Tryd.prog.wantsStandIn u) = true := by kernel_rfl
        exact (show Tryd.prog.wantsStandIn t = false by simpa using List.all_eq_true.1 hall t hm)⟩)
    (by kernel_rfl)
#print axioms wordsNumbers_holds
end Go.Proofs.YtabcdcnnamflfaaDoor
