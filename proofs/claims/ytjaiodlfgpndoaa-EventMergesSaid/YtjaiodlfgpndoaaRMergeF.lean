/- sakiaref15.Merge as a function of lists. -/
import Derived.Test.YtjaiodlfgpndoaaQEvx0
import Derived.Test.YtjaiodlfgpndoaaQEvx6
namespace Go.Proofs.Ytjaiodlfgpndoaa.QEv
open Go.RowKit Go.Proofs.YtjaiodlfgpndoaaW.PrintWords Go.Proofs.YtjaiodlfgpndoaaW.PrintLast Go.Proofs.YtjaiodlfgpndoaaW.PrintMore
attribute [local go_sem] max2_int min2_int max_two min_two max_three min_three max_four min_four   -- for this text's walks alone
set_option linter.unusedVariables false
set_option linter.unusedSimpArgs false

/-! ### sakiaref15_Merge: function 47 -/
mutual
def sakiaref15_Merge.l0 : Nat → Int → List (S56) → List (S56) → Int → Option ((List (S56)))
  | 0, _, _, _, _ => none
  | k + 1, x0, x1, x5, x6 => if x6 < (x1.length : Int) then (if 0 ≤ x6 then ((some (([] : List Int) : List Int)).bind fun y151 => (if y151.length + ((rd_T56 x1 x6).f6).length < 17592186044416 then (sakiaref15_Merge.l1 k x0 x1 x5 (wrap64 (x6 + 1)) ((rd_T56 x1 x6).f0) ((rd_T56 x1 x6).f1) ((rd_T56 x1 x6).f2) ((rd_T56 x1 x6).f3) ((rd_T56 x1 x6).f4) ((rd_T56 x1 x6).f5) (y151 ++ ((rd_T56 x1 x6).f6))) else (none))) else (none)) else (some x5)
def sakiaref15_Merge.l1 : Nat → Int → List (S56) → List (S56) → Int → Int → Int → Int → Int → Int → Int → List Int → Option ((List (S56)))
  | 0, _, _, _, _, _, _, _, _, _, _, _ => none
  | k + 1, x0, x1, x5, x6, x151000, x151001, x151002, x151003, x151004, x151005, x151006 => if x6 < (x1.length : Int) then (if x151000 = 5 then (if 0 ≤ x6 then (if ((rd_T56 x1 x6).f0) = 5 then (if ((rd_T56 x1 x6).f1) = x151001 then ((sakiaref01_Plus.f x0 x151004 x151003).bind fun t161 => (if ((rd_T56 x1 x6).f4) = t161 then (if x151006.length + ((rd_T56 x1 x6).f6).length < 17592186044416 then (sakiaref15_Merge.l1 k x0 x1 x5 (wrap64 (x6 + 1)) x151000 x151001 x151002 (wrap64 (x151003 + ((rd_T56 x1 x6).f3))) x151004 x151005 (x151006 ++ ((rd_T56 x1 x6).f6))) else (none)) else (if x5.length < 1954687338268 then (sakiaref15_Merge.l0 k x0 x1 (x5 ++ [(⟨x151000, x151001, x151002, x151003, x151004, x151005, x151006⟩ : S56)]) x6) else (none)))) else (if x5.length < 1954687338268 then (sakiaref15_Merge.l0 k x0 x1 (x5 ++ [(⟨x151000, x151001, x151002, x151003, x151004, x151005, x151006⟩ : S56)]) x6) else (none))) else (if x5.length < 1954687338268 then (sakiaref15_Merge.l0 k x0 x1 (x5 ++ [(⟨x151000, x151001, x151002, x151003, x151004, x151005, x151006⟩ : S56)]) x6) else (none))) else (none)) else (if x5.length < 1954687338268 then (sakiaref15_Merge.l0 k x0 x1 (x5 ++ [(⟨x151000, x151001, x151002, x151003, x151004, x151005, x151006⟩ : S56)]) x6) else (none))) else (if x5.length < 1954687338268 then (sakiaref15_Merge.l0 k x0 x1 (x5 ++ [(⟨x151000, x151001, x151002, x151003, x151004, x151005, x151006⟩ : S56)]) x6) else (none))
end
def sakiaref15_Merge.f (k : Nat) (a0 : Int) (l1 : List (S56)) : Option ((List (S56))) := sakiaref15_Merge.l0 k a0 l1 ([] : List (S56)) 0
theorem sakiaref15_Merge.mono_l : ∀ k, (∀ y0 y1 y2 y3, LeO (sakiaref15_Merge.l0 k y0 y1 y2 y3) (sakiaref15_Merge.l0 (k + 1) y0 y1 y2 y3)) ∧ (∀ y0 y1 y2 y3 y4 y5 y6 y7 y8 y9 y10, LeO (sakiaref15_Merge.l1 k y0 y1 y2 y3 y4 y5 y6 y7 y8 y9 y10) (sakiaref15_Merge.l1 (k + 1) y0 y1 y2 y3 y4 y5 y6 y7 y8 y9 y10))
  | 0 => ⟨fun _ _ _ _ r h => by simp [sakiaref15_Merge.l0] at h, fun _ _ _ _ _ _ _ _ _ _ _ r h => by simp [sakiaref15_Merge.l1] at h⟩
  | k + 1 => by
    obtain ⟨ih0, ih1⟩ := sakiaref15_Merge.mono_l k
    refine ⟨?_, ?_⟩
    · intro y0 y1 y2 y3
      unfold sakiaref15_Merge.l0
      repeat' first
      | (with_reducible exact ih0 _ _ _ _)
      | (with_reducible exact ih1 _ _ _ _ _ _ _ _ _ _ _)
      | (with_reducible exact LeO.refl _)
      | (with_reducible exact LeO.none _)
      | (with_reducible refine LeO.ite ?_ ?_)
      | (with_reducible refine LeO.bind ?_ (fun _ => ?_))
      | exact ih0 _ _ _ _
      | exact ih1 _ _ _ _ _ _ _ _ _ _ _
      | exact LeO.none _
      | refine LeO.ite ?_ ?_
      | refine LeO.bind ?_ (fun _ => ?_)
    · intro y0 y1 y2 y3 y4 y5 y6 y7 y8 y9 y10
      unfold sakiaref15_Merge.l1
      repeat' first
      | (with_reducible exact ih0 _ _ _ _)
      | (with_reducible exact ih1 _ _ _ _ _ _ _ _ _ _ _)
      | (with_reducible exact LeO.refl _)
      | (with_reducible exact LeO.none _)
      | (with_reducible refine LeO.ite ?_ ?_)
      | (with_reducible refine LeO.bind ?_ (fun _ => ?_))
      | exact ih0 _ _ _ _
      | exact ih1 _ _ _ _ _ _ _ _ _ _ _
      | exact LeO.none _
      | refine LeO.ite ?_ ?_
      | refine LeO.bind ?_ (fun _ => ?_)
theorem sakiaref15_Merge.mono : ∀ a0 a1 k, LeO (sakiaref15_Merge.f k a0 a1) (sakiaref15_Merge.f (k + 1) a0 a1) := by
  intro a0 a1 k
  obtain ⟨ih0, ih1⟩ := sakiaref15_Merge.mono_l k
  unfold sakiaref15_Merge.f
  repeat' first
      | (with_reducible exact ih0 _ _ _ _)
      | (with_reducible exact ih1 _ _ _ _ _ _ _ _ _ _ _)
      | (with_reducible exact LeO.refl _)
      | (with_reducible exact LeO.none _)
      | (with_reducible refine LeO.ite ?_ ?_)
      | (with_reducible refine LeO.bind ?_ (fun _ => ?_))
      | exact ih0 _ _ _ _
      | exact ih1 _ _ _ _ _ _ _ _ _ _ _
      | exact LeO.none _
      | refine LeO.ite ?_ ?_
      | refine LeO.bind ?_ (fun _ => ?_)
def sakiaref15_Merge.T7 : Bool × List (List Nat × List Nat) := (true, [([], []), ([], []), ([1], [1]), ([0, 2], [0, 2]), ([3], [3]), ([4], [4]), ([5, 4], [4, 5]), ([6, 4], [4, 6]), ([4, 7], [4, 7]), ([8, 4], [8]), ([9], [9]), ([9], [9]), ([10, 11, 9], [9, 10, 11]), ([12, 9], [9, 12]), ([13, 9], [9, 13]), ([14, 9], [9, 14]), ([9, 15], [9, 15]), ([16, 9], [16]), ([17], [17]), ([17], [17]), ([18, 19, 17], [17, 18, 19]), ([20, 17], [17, 20]), ([21, 17], [17, 21]), ([17], [17]), ([23, 17], [17, 23]), ([22, 24, 17], [17, 22, 24]), ([17, 25], [17, 25]), ([26, 17], [26]), ([27], [27]), ([27], [27]), ([28, 29, 27], [27, 28, 29]), ([30, 27], [27, 30]), ([31, 27], [27, 31]), ([27], [27]), ([27], [27]), ([34, 27], [27, 34]), ([27], [27]), ([36, 27], [27, 36]), ([33, 35, 37, 27, 27], [27, 33, 35, 37]), ([32, 38, 27], [27, 32, 38]), ([27, 39], [27, 39])])
def sakiaref15_Merge.B7 : List Nat := [0, 0, 2, 7, 15, 31, 63, 127, 255, 511, 1023, 1023, 4095, 8191, 16383, 32767, 65535, 131071, 262143, 262143, 1048575, 2097151, 4194303, 262143, 8650751, 33554431, 67108863, 134217727, 268435455, 268435455, 1073741823, 2147483647, 4294967295, 268435455, 268435455, 17448304639, 268435455, 68987912191, 266556407807, 549755813887, 1099511627775]
theorem sakiaref15_Merge.tab7 : rtab .any (opsOf Try.f47 7) = sakiaref15_Merge.T7 := by kernel_rfl
theorem sakiaref15_Merge.bits7 : waitsOk sakiaref15_Merge.T7.2 sakiaref15_Merge.B7 = true := by kernel_rfl
def sakiaref15_Merge.T8 : Bool × List (List Nat × List Nat) := (true, [([], []), ([0], [0]), ([], []), ([], []), ([2, 3], [2, 3]), ([4], [4]), ([5], [5]), ([1, 6], [1, 6]), ([0, 1, 2, 3, 4, 5, 6, 7], []), ([8, 7, 0, 1, 2, 3, 4, 5, 6, 7], [7, 8])])
def sakiaref15_Merge.B8 : List Nat := [0, 1, 0, 0, 12, 28, 60, 127, 255, 511]
theorem sakiaref15_Merge.tab8 : rtab .any (opsOf Try.f47 8) = sakiaref15_Merge.T8 := by kernel_rfl
theorem sakiaref15_Merge.bits8 : waitsOk sakiaref15_Merge.T8.2 sakiaref15_Merge.B8 = true := by kernel_rfl
def sakiaref15_Merge.T9 : Bool × List (List Nat × List Nat) := (true, [([], []), ([0], [0]), ([], []), ([], []), ([2, 3], [2, 3]), ([4], [4]), ([5], [5]), ([1, 6], [1, 6]), ([0, 1, 2, 3, 4, 5, 6, 7], []), ([8, 7, 7, 0, 1, 2, 3, 4, 5, 6, 7], [7, 8])])
def sakiaref15_Merge.B9 : List Nat := [0, 1, 0, 0, 12, 28, 60, 127, 255, 511]
theorem sakiaref15_Merge.tab9 : rtab .any (opsOf Try.f47 9) = sakiaref15_Merge.T9 := by kernel_rfl
theorem sakiaref15_Merge.bits9 : waitsOk sakiaref15_Merge.T9.2 sakiaref15_Merge.B9 = true := by kernel_rfl
end Go.Proofs.Ytjaiodlfgpndoaa.QEv
