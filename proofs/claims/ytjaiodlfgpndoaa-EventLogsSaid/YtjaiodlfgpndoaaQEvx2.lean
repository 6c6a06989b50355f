/- event.Merge: what it answers, and that what was in memory stays (the append to an element's data laid in by mkmerge.py). -/
-- Written by a program of this session (wip/tools/eprint.py), which runs the printer of the kit under rules of its own. Nothing in it is trusted: Lean checks it.
import Derived.Test.YtjaiodlfgpndoaaQEvx0
import Derived.Test.YtjaiodlfgpndoaaQEvx1
import Derived.Test.YtjaiodlfgpndoaaMergeAid
import Derived.StillTailTactics
namespace Go.Proofs.Ytjaiodlfgpndoaa.QEv
open Go.RowKit Go.Proofs.YtjaiodlfgpndoaaW.PrintWords Go.Proofs.YtjaiodlfgpndoaaW.PrintLast Go.Proofs.YtjaiodlfgpndoaaW.PrintMore
attribute [local go_sem] max2_int min2_int max_two min_two max_three min_three max_four min_four   -- for this text's walks alone
set_option linter.unusedVariables false
set_option linter.unusedSimpArgs false

/-! ### event_Merge: function 45 -/
def event_Merge.l0 : Nat → Int → List (S56) → List (S56) → Int → Int → Option ((List (S56)))
  | 0, _, _, _, _, _ => none
  | k + 1, x0, x5, x12, x13, x14 => if x14 < x13 then (if 0 ≤ x14 then (if x14 < (x12.length : Int) then (if (wrap64 ((x5.length : Int) - 1)) ≥ 0 then (if 0 ≤ (wrap64 ((x5.length : Int) - 1)) then (if (wrap64 ((x5.length : Int) - 1)) < (x5.length : Int) then ((event_joins.f x0 ((rd_T56 x5 (wrap64 ((x5.length : Int) - 1))).f0) ((rd_T56 x5 (wrap64 ((x5.length : Int) - 1))).f1) ((rd_T56 x5 (wrap64 ((x5.length : Int) - 1))).f2) ((rd_T56 x5 (wrap64 ((x5.length : Int) - 1))).f3) ((rd_T56 x5 (wrap64 ((x5.length : Int) - 1))).f4) ((rd_T56 x5 (wrap64 ((x5.length : Int) - 1))).f5) ((rd_T56 x5 (wrap64 ((x5.length : Int) - 1))).f6) ((rd_T56 x12 x14).f0) ((rd_T56 x12 x14).f1) ((rd_T56 x12 x14).f2) ((rd_T56 x12 x14).f3) ((rd_T56 x12 x14).f4) ((rd_T56 x12 x14).f5) ((rd_T56 x12 x14).f6)).bind fun t120 => (if t120 = true then (if ((rd_T56 x5 (wrap64 ((x5.length : Int) - 1))).f6).length + ((rd_T56 x12 x14).f6).length < 17592186044416 then (event_Merge.l0 k x0 ((x5.set ((wrap64 ((x5.length : Int) - 1)) : Int).toNat (⟨(rd_T56 x5 (wrap64 ((x5.length : Int) - 1))).f0, (rd_T56 x5 (wrap64 ((x5.length : Int) - 1))).f1, (rd_T56 x5 (wrap64 ((x5.length : Int) - 1))).f2, wrap64 (((rd_T56 x5 (wrap64 ((x5.length : Int) - 1))).f3) + ((rd_T56 x12 x14).f3)), (rd_T56 x5 (wrap64 ((x5.length : Int) - 1))).f4, (rd_T56 x5 (wrap64 ((x5.length : Int) - 1))).f5, (rd_T56 x5 (wrap64 ((x5.length : Int) - 1))).f6⟩ : S56)).set ((wrap64 ((x5.length : Int) - 1)) : Int).toNat (⟨(rd_T56 x5 (wrap64 ((x5.length : Int) - 1))).f0, (rd_T56 x5 (wrap64 ((x5.length : Int) - 1))).f1, (rd_T56 x5 (wrap64 ((x5.length : Int) - 1))).f2, wrap64 (((rd_T56 x5 (wrap64 ((x5.length : Int) - 1))).f3) + ((rd_T56 x12 x14).f3)), (rd_T56 x5 (wrap64 ((x5.length : Int) - 1))).f4, (rd_T56 x5 (wrap64 ((x5.length : Int) - 1))).f5, (rd_T56 x5 (wrap64 ((x5.length : Int) - 1))).f6 ++ (rd_T56 x12 x14).f6⟩ : S56)) x12 x13 (wrap64 (x14 + 1))) else (none)) else ((event_copied.f ((rd_T56 x12 x14).f0) ((rd_T56 x12 x14).f1) ((rd_T56 x12 x14).f2) ((rd_T56 x12 x14).f3) ((rd_T56 x12 x14).f4) ((rd_T56 x12 x14).f5) ((rd_T56 x12 x14).f6)).bind fun bt123 => (if x5.length < 1954687338268 then (event_Merge.l0 k x0 (x5 ++ [(⟨bt123.1, bt123.2.1, bt123.2.2.1, bt123.2.2.2.1, bt123.2.2.2.2.1, bt123.2.2.2.2.2.1, bt123.2.2.2.2.2.2⟩ : S56)]) x12 x13 (wrap64 (x14 + 1))) else (none))))) else (none)) else (none)) else ((event_copied.f ((rd_T56 x12 x14).f0) ((rd_T56 x12 x14).f1) ((rd_T56 x12 x14).f2) ((rd_T56 x12 x14).f3) ((rd_T56 x12 x14).f4) ((rd_T56 x12 x14).f5) ((rd_T56 x12 x14).f6)).bind fun bt135 => (if x5.length < 1954687338268 then (event_Merge.l0 k x0 (x5 ++ [(⟨bt135.1, bt135.2.1, bt135.2.2.1, bt135.2.2.2.1, bt135.2.2.2.2.1, bt135.2.2.2.2.2.1, bt135.2.2.2.2.2.2⟩ : S56)]) x12 x13 (wrap64 (x14 + 1))) else (none)))) else (none)) else (none)) else (some x5)
def event_Merge.f (k : Nat) (a0 : Int) (l1 : List (S56)) : Option ((List (S56))) := (wide_Right.f a0).bind fun t116 => (if t116 = true then (event_Merge.l0 k a0 ([] : List (S56)) l1 (l1.length : Int) 0) else (some ([] : List (S56))))
theorem event_Merge.mono_l : ∀ k, (∀ y0 y1 y2 y3 y4, LeO (event_Merge.l0 k y0 y1 y2 y3 y4) (event_Merge.l0 (k + 1) y0 y1 y2 y3 y4))
  | 0 => fun _ _ _ _ _ r h => by simp [event_Merge.l0] at h
  | k + 1 => by
    have ih0 := event_Merge.mono_l k
    · intro y0 y1 y2 y3 y4
      unfold event_Merge.l0
      repeat' first
      | (with_reducible exact ih0 _ _ _ _ _)
      | (with_reducible exact LeO.refl _)
      | (with_reducible exact LeO.none _)
      | (with_reducible refine LeO.ite ?_ ?_)
      | (with_reducible refine LeO.bind ?_ (fun _ => ?_))
      | exact ih0 _ _ _ _ _
      | exact LeO.none _
      | refine LeO.ite ?_ ?_
      | refine LeO.bind ?_ (fun _ => ?_)
theorem event_Merge.mono : ∀ a0 a1 k, LeO (event_Merge.f k a0 a1) (event_Merge.f (k + 1) a0 a1) := by
  intro a0 a1 k
  have ih0 := event_Merge.mono_l k
  unfold event_Merge.f
  repeat' first
      | (with_reducible exact ih0 _ _ _ _ _)
      | (with_reducible exact LeO.refl _)
      | (with_reducible exact LeO.none _)
      | (with_reducible refine LeO.ite ?_ ?_)
      | (with_reducible refine LeO.bind ?_ (fun _ => ?_))
      | exact ih0 _ _ _ _ _
      | exact LeO.none _
      | refine LeO.ite ?_ ?_
      | refine LeO.bind ?_ (fun _ => ?_)
def event_Merge.T8 : Bool × List (List Nat × List Nat) := (true, [([], []), ([0], [0]), ([1], [1]), ([2], [2]), ([2], [2]), ([2], [2]), ([4, 5, 2], [2, 4, 5]), ([6, 2], [2, 6]), ([2], [2]), ([3, 7, 8, 2, 2], [2, 3, 7, 8]), ([2, 9], [2, 9])])
def event_Merge.B8 : List Nat := [0, 1, 3, 7, 7, 7, 55, 119, 7, 511, 1023]
theorem event_Merge.tab8 : rtab .any (opsOf Try.f45 8) = event_Merge.T8 := by kernel_rfl
theorem event_Merge.bits8 : waitsOk event_Merge.T8.2 event_Merge.B8 = true := by kernel_rfl
def event_Merge.T9 : Bool × List (List Nat × List Nat) := (true, [([], []), ([], []), ([0, 1], [0, 1]), ([2], [2]), ([3], [3]), ([], []), ([5], [5]), ([4, 6], [4, 6]), ([0, 1, 0, 1, 2, 3, 4, 5, 6, 7], [0, 1]), ([8, 0, 1, 2, 3, 4, 5, 6, 7], [8]), ([9, 7, 0, 1, 2, 3, 4, 5, 6, 7], [7, 9])])
def event_Merge.B9 : List Nat := [0, 0, 3, 7, 15, 0, 32, 127, 255, 511, 1023]
theorem event_Merge.tab9 : rtab .any (opsOf Try.f45 9) = event_Merge.T9 := by kernel_rfl
theorem event_Merge.bits9 : waitsOk event_Merge.T9.2 event_Merge.B9 = true := by kernel_rfl
set_option maxHeartbeats 8000000 in
set_option maxRecDepth 100000 in
theorem event_Merge.calls (k : Nat) (a0 : Int) (A1 : Option Addr) (c1 : Nat) (l1 : List (S56)) (r : List (S56)) (w : World) (hr1 : Kd.C k56 w A1 l1.length l1) (hc1 : l1.length ≤ c1) (h : event_Merge.f k a0 l1 = some r) :
    Calls Try.prog 45 #[.int .i64 a0, .slice A1 l1.length c1] w fun e w' => ∃ v0_ : Value, e = .returned (v0_) ∧ Kd.S k56 56 w' w.heap.size (fun _ => True) v0_ r ∧ Below w.heap.size w w' := by
  have hu56 := Try.underlying56
  have HR1 := Aside0.mk hr1
  have HC1 := Aside0.mk hc1
  clear hr1 hc1
  have HB := Aside0.mk (Below.refl w.heap.size w)
  have H : ((wide_Right.f a0).bind fun t116 => (if t116 = true then (event_Merge.l0 k a0 ([] : List (S56)) l1 (l1.length : Int) 0) else (some ([] : List (S56))))) = some r := h
  clear h
  replace H := Option.bind_eq_some_iff.mp H
  obtain ⟨t116, A30, H⟩ := H
  replace H : (if t116 = true then (event_Merge.l0 k a0 ([] : List (S56)) l1 (l1.length : Int) 0) else (some ([] : List (S56)))) = some r := H
  have A3 := Aside0.mk A30
  clear A30
  by_cases c4 : t116 = true
  · subst c4
    have H1 : (event_Merge.l0 k a0 ([] : List (S56)) l1 (l1.length : Int) 0) = some r := by rw [if_pos rfl] at H; exact H
    clear H
    have H := H1
    clear H1
    have H' := Aside0.mk H
    clear H
    go_enter Try.func45, Try.ntmps45
    go_wp2_with (first | ((with_reducible refine gate_callee (f := 23) rfl ?_); refine goesL_ (some 10) rfl rfl Try.func23 (by kernel_rfl) rfl #[.int .i64 a0] rfl (by (try simp only [List.map_toArray, List.map_cons, List.map_nil]); first | done | rfl | (simp only [List.length_drop, List.length_take]; rfl)) ?_; (with_reducible refine (wide_Right.calls a0 true _ A3.out).mono ?_); rintro e w' ⟨rfl, ⟨nd, rfl⟩⟩; refine ⟨_, rfl, ?_⟩))
    go_loopg [5, 14] k (fun kq v5 v14 w' => ∃ (x5_1 : List (S56)) (x14_1 : Int), v14 = .int .i64 x14_1 ∧ Aside0 (event_Merge.l0 kq a0 x5_1 l1 (l1.length : Int) x14_1 = some r) ∧ Aside0 (kq ≤ k) ∧ Aside0 (Kd.S k56 56 w' w.heap.size (fun _ => True) v5 x5_1) ∧ Aside0 (Below w.heap.size w w'))
    case atStart => exact ⟨(([] : List (S56))), (0), (by first | rfl | (simp; done) | (simp [*]; done)), H', ⟨Nat.le_refl _⟩, ⟨by first | exact Kd.S_nil _ _ _ _ _ | exact Kd.N_nil _ _ _ _ _ | exact Kd.V_nil _ _ _ _ _ | exact Kd.Q_nil _ _ _ _ _ | exact Kd.R_nil _ _ _ _ _⟩, ⟨by repeat (first | (with_reducible first | exact HB.out | apply below_alloc | apply pw_below_drewN | apply below_drew1) | exact HB.out)⟩⟩
    case round =>
      clear H'
      try clear c1
      try clear c2
      try clear p2
      try clear c4
      obtain ⟨x5_1, x14_1, rfl, HA, HK1, HO_5, HB⟩ := hrel
      cases gk with
      | zero => exact absurd HA.out (by simp [event_Merge.l0])
      | succ k1 =>
        have H := HA.out
        clear HA
        simp only [event_Merge.l0] at H
        by_cases c5 : x14_1 < (l1.length : Int)
        · rw [if_pos c5] at H
          have c5b0 : decide (x14_1 < (l1.length : Int)) = true := decide_eq_true c5
          clear c5
          by_cases c6 : 0 ≤ x14_1
          · rw [if_pos c6] at H
            have c6b0 : decide (0 ≤ x14_1) = true := decide_eq_true c6
            clear c6
            by_cases c7 : x14_1 < (l1.length : Int)
            · rw [if_pos c7] at H
              have c7b0 : decide (x14_1 < (l1.length : Int)) = true := decide_eq_true c7
              clear c7
              by_cases c8 : (wrap64 ((x5_1.length : Int) - 1)) ≥ 0
              · rw [if_pos c8] at H
                have c8b0 : decide (0 ≤ (wrap64 ((x5_1.length : Int) - 1))) = true := decide_eq_true c8
                clear c8
                obtain ⟨ji9, hji9⟩ : ∃ j_ : Int, (wrap64 ((x5_1.length : Int) - 1)) = j_ := ⟨_, rfl⟩
                replace H : (if 0 ≤ (ji9) then (if (ji9) < (x5_1.length : Int) then ((event_joins.f a0 ((rd_T56 x5_1 (ji9)).f0) ((rd_T56 x5_1 (ji9)).f1) ((rd_T56 x5_1 (ji9)).f2) ((rd_T56 x5_1 (ji9)).f3) ((rd_T56 x5_1 (ji9)).f4) ((rd_T56 x5_1 (ji9)).f5) ((rd_T56 x5_1 (ji9)).f6) ((rd_T56 l1 x14_1).f0) ((rd_T56 l1 x14_1).f1) ((rd_T56 l1 x14_1).f2) ((rd_T56 l1 x14_1).f3) ((rd_T56 l1 x14_1).f4) ((rd_T56 l1 x14_1).f5) ((rd_T56 l1 x14_1).f6)).bind fun t120 => (if t120 = true then (if ((rd_T56 x5_1 (ji9)).f6).length + ((rd_T56 l1 x14_1).f6).length < 17592186044416 then (event_Merge.l0 k1 a0 ((x5_1.set ((ji9) : Int).toNat (⟨(rd_T56 x5_1 (ji9)).f0, (rd_T56 x5_1 (ji9)).f1, (rd_T56 x5_1 (ji9)).f2, wrap64 (((rd_T56 x5_1 (ji9)).f3) + ((rd_T56 l1 x14_1).f3)), (rd_T56 x5_1 (ji9)).f4, (rd_T56 x5_1 (ji9)).f5, (rd_T56 x5_1 (ji9)).f6⟩ : S56)).set ((ji9) : Int).toNat (⟨(rd_T56 x5_1 (ji9)).f0, (rd_T56 x5_1 (ji9)).f1, (rd_T56 x5_1 (ji9)).f2, wrap64 (((rd_T56 x5_1 (ji9)).f3) + ((rd_T56 l1 x14_1).f3)), (rd_T56 x5_1 (ji9)).f4, (rd_T56 x5_1 (ji9)).f5, (rd_T56 x5_1 (ji9)).f6 ++ (rd_T56 l1 x14_1).f6⟩ : S56)) l1 (l1.length : Int) (wrap64 (x14_1 + 1))) else (none)) else ((event_copied.f ((rd_T56 l1 x14_1).f0) ((rd_T56 l1 x14_1).f1) ((rd_T56 l1 x14_1).f2) ((rd_T56 l1 x14_1).f3) ((rd_T56 l1 x14_1).f4) ((rd_T56 l1 x14_1).f5) ((rd_T56 l1 x14_1).f6)).bind fun bt123 => (if x5_1.length < 1954687338268 then (event_Merge.l0 k1 a0 (x5_1 ++ [(⟨bt123.1, bt123.2.1, bt123.2.2.1, bt123.2.2.2.1, bt123.2.2.2.2.1, bt123.2.2.2.2.2.1, bt123.2.2.2.2.2.2⟩ : S56)]) l1 (l1.length : Int) (wrap64 (x14_1 + 1))) else (none))))) else (none)) else (none)) = some r := by first | (rw [hji9] at H; exact H) | (simp only [hji9] at H ⊢; exact H)
                (try rw [hji9] at c8b0)
                have hji9w : (IntKind.i64.wrap ((x5_1.length : Int) - 1)) = ji9 := (i64_w _).trans hji9
                by_cases c10 : 0 ≤ (ji9)
                · rw [if_pos c10] at H
                  have c10b0 : decide (0 ≤ (ji9)) = true := decide_eq_true c10
                  clear c10
                  by_cases c11 : (ji9) < (x5_1.length : Int)
                  · rw [if_pos c11] at H
                    have c11b0 : decide ((ji9) < (x5_1.length : Int)) = true := decide_eq_true c11
                    clear c11
                    replace H := Option.bind_eq_some_iff.mp H
                    obtain ⟨t120, A120, H⟩ := H
                    replace H : (if t120 = true then (if ((rd_T56 x5_1 (ji9)).f6).length + ((rd_T56 l1 x14_1).f6).length < 17592186044416 then (event_Merge.l0 k1 a0 ((x5_1.set ((ji9) : Int).toNat (⟨(rd_T56 x5_1 (ji9)).f0, (rd_T56 x5_1 (ji9)).f1, (rd_T56 x5_1 (ji9)).f2, wrap64 (((rd_T56 x5_1 (ji9)).f3) + ((rd_T56 l1 x14_1).f3)), (rd_T56 x5_1 (ji9)).f4, (rd_T56 x5_1 (ji9)).f5, (rd_T56 x5_1 (ji9)).f6⟩ : S56)).set ((ji9) : Int).toNat (⟨(rd_T56 x5_1 (ji9)).f0, (rd_T56 x5_1 (ji9)).f1, (rd_T56 x5_1 (ji9)).f2, wrap64 (((rd_T56 x5_1 (ji9)).f3) + ((rd_T56 l1 x14_1).f3)), (rd_T56 x5_1 (ji9)).f4, (rd_T56 x5_1 (ji9)).f5, (rd_T56 x5_1 (ji9)).f6 ++ (rd_T56 l1 x14_1).f6⟩ : S56)) l1 (l1.length : Int) (wrap64 (x14_1 + 1))) else (none)) else ((event_copied.f ((rd_T56 l1 x14_1).f0) ((rd_T56 l1 x14_1).f1) ((rd_T56 l1 x14_1).f2) ((rd_T56 l1 x14_1).f3) ((rd_T56 l1 x14_1).f4) ((rd_T56 l1 x14_1).f5) ((rd_T56 l1 x14_1).f6)).bind fun bt123 => (if x5_1.length < 1954687338268 then (event_Merge.l0 k1 a0 (x5_1 ++ [(⟨bt123.1, bt123.2.1, bt123.2.2.1, bt123.2.2.2.1, bt123.2.2.2.2.1, bt123.2.2.2.2.2.1, bt123.2.2.2.2.2.2⟩ : S56)]) l1 (l1.length : Int) (wrap64 (x14_1 + 1))) else (none)))) = some r := H
                    have A12 := Aside0.mk A120
                    clear A120
                    by_cases c13 : t120 = true
                    · subst c13
                      have H1 : (if ((rd_T56 x5_1 (ji9)).f6).length + ((rd_T56 l1 x14_1).f6).length < 17592186044416 then (event_Merge.l0 k1 a0 ((x5_1.set ((ji9) : Int).toNat (⟨(rd_T56 x5_1 (ji9)).f0, (rd_T56 x5_1 (ji9)).f1, (rd_T56 x5_1 (ji9)).f2, wrap64 (((rd_T56 x5_1 (ji9)).f3) + ((rd_T56 l1 x14_1).f3)), (rd_T56 x5_1 (ji9)).f4, (rd_T56 x5_1 (ji9)).f5, (rd_T56 x5_1 (ji9)).f6⟩ : S56)).set ((ji9) : Int).toNat (⟨(rd_T56 x5_1 (ji9)).f0, (rd_T56 x5_1 (ji9)).f1, (rd_T56 x5_1 (ji9)).f2, wrap64 (((rd_T56 x5_1 (ji9)).f3) + ((rd_T56 l1 x14_1).f3)), (rd_T56 x5_1 (ji9)).f4, (rd_T56 x5_1 (ji9)).f5, (rd_T56 x5_1 (ji9)).f6 ++ (rd_T56 l1 x14_1).f6⟩ : S56)) l1 (l1.length : Int) (wrap64 (x14_1 + 1))) else (none)) = some r := by rw [if_pos rfl] at H; exact H
                      clear H
                      have H := H1
                      clear H1
                      by_cases c99 : ((rd_T56 x5_1 (ji9)).f6).length + ((rd_T56 l1 x14_1).f6).length < 17592186044416
                      rotate_left
                      · rw [if_neg c99] at H
                        exact absurd H (by simp)
                      rw [if_pos c99] at H
                      have LMc99 := Aside0.mk c99
                      clear c99
                      obtain ⟨y122, hy122⟩ : ∃ y_ : List (S56), y_ = (x5_1.set ((ji9) : Int).toNat (⟨(rd_T56 x5_1 (ji9)).f0, (rd_T56 x5_1 (ji9)).f1, (rd_T56 x5_1 (ji9)).f2, wrap64 (((rd_T56 x5_1 (ji9)).f3) + ((rd_T56 l1 x14_1).f3)), (rd_T56 x5_1 (ji9)).f4, (rd_T56 x5_1 (ji9)).f5, (rd_T56 x5_1 (ji9)).f6⟩ : S56)) := ⟨_, rfl⟩
                      obtain ⟨y199, hy199⟩ : ∃ y_ : List (S56), y_ = (y122.set ((ji9) : Int).toNat (⟨(rd_T56 x5_1 (ji9)).f0, (rd_T56 x5_1 (ji9)).f1, (rd_T56 x5_1 (ji9)).f2, wrap64 (((rd_T56 x5_1 (ji9)).f3) + ((rd_T56 l1 x14_1).f3)), (rd_T56 x5_1 (ji9)).f4, (rd_T56 x5_1 (ji9)).f5, (rd_T56 x5_1 (ji9)).f6 ++ (rd_T56 l1 x14_1).f6⟩ : S56)) := ⟨_, rfl⟩
                      replace H : (event_Merge.l0 k1 a0 y199 l1 (l1.length : Int) (wrap64 (x14_1 + 1))) = some r := by rw [hy199, hy122]; exact H
                      have Ny199 := Aside0.mk hy199
                      clear hy199
                      have Ny122 := Aside0.mk hy122
                      clear hy122
                      have H' := Aside0.mk H
                      clear H
                      have p117 : 0 ≤ (x14_1 : Int) := of_decide_eq_true (by first | (with_reducible assumption) | assumption)
                      have q117 : x14_1 < (l1.length : Int) := of_decide_eq_true (by first | (with_reducible assumption) | assumption)
                      obtain ⟨ad117, A117_6, c117_6, e117, hx117_0, hx117_1, hx117_2, hx117_3, hx117_4, hx117_5, hx117_6, hl117_6, hi117_6⟩ := at_T56 HR1.out x14_1 p117 q117
                      cases e117
                      replace hx117_0 := (HB.out.cell (World.block_lt_of_cell? w _ hx117_0)).trans hx117_0
                      replace hx117_1 := (HB.out.cell (World.block_lt_of_cell? w _ hx117_1)).trans hx117_1
                      replace hx117_2 := (HB.out.cell (World.block_lt_of_cell? w _ hx117_2)).trans hx117_2
                      replace hx117_3 := (HB.out.cell (World.block_lt_of_cell? w _ hx117_3)).trans hx117_3
                      replace hx117_4 := (HB.out.cell (World.block_lt_of_cell? w _ hx117_4)).trans hx117_4
                      replace hx117_5 := (HB.out.cell (World.block_lt_of_cell? w _ hx117_5)).trans hx117_5
                      replace hx117_6 := (HB.out.cell (World.block_lt_of_cell? w _ hx117_6)).trans hx117_6
                      have HR117_6 := Aside0.mk hi117_6
                      have HC117_6 := Aside0.mk hl117_6
                      clear hi117_6 hl117_6
                      replace p117 := eq_true p117
                      replace q117 := eq_true q117
                      try go_wp2_with (first | ((with_reducible refine gate_dst (N := 7) rfl ?_); refine box_event ?hg (N := 7) ?hd (cs := #[.int .i64 0, .int .i64 0, .int .i64 0, .int .i64 0, .int .u64 0, .int .i64 0, .slice none 0 0]) (t := 56) ?hr ?_; (case hd => rfl); (case hg => rfl); (case hr => first | (go_simp; done) | (go_simp; rfl)); intro gb118 hg w15 hbox hb; have n0_ := Aside0.mk (Kd.S_below (Kd.S_elderB (by (with_reducible repeat (first | apply Kd.S_alloc | apply Kd.S_drewN | apply Kd.S_drew)); exact HO_5.out) gb118 (Nat.le_of_eq hg.symm)) hb); have n1_ := Aside0.mk (below_step (by repeat (first | (with_reducible first | exact HB.out | apply below_alloc | apply pw_below_drewN | apply below_drew1) | exact HB.out)) hb); have n2_ := Aside0.mk (hbox); have n3_ := Aside0.mk ((by rw [hg]; exact (below_size (by repeat (first | (with_reducible first | exact HB.out | apply below_alloc | apply pw_below_drewN | apply below_drew1) | exact HB.out))) : w.heap.size ≤ gb118)); have n4_ := Aside0.mk ((by rw [hg]; exact (below_size (by repeat (first | (with_reducible first | exact HB.out | apply below_alloc | apply pw_below_drewN | apply below_drew1) | exact HB.out))) : w.heap.size ≤ gb118)); clear HO_5; clear HB; have HO_5 := n0_; have HB := n1_; have BK118 := n2_; have GW118 := n3_; have GE118 := n4_; clear n0_ n1_ n2_ n3_ n4_; clear hb hbox hg; have hcz16_0 : w15.cell? ⟨gb118, 0, none⟩ = some (.int .i64 0) := (blk_cell BK118.out 0).trans rfl; have hcz16_1 : w15.cell? ⟨gb118, 1, none⟩ = some (.int .i64 0) := (blk_cell BK118.out 1).trans rfl; have hcz16_2 : w15.cell? ⟨gb118, 2, none⟩ = some (.int .i64 0) := (blk_cell BK118.out 2).trans rfl; have hcz16_3 : w15.cell? ⟨gb118, 3, none⟩ = some (.int .i64 0) := (blk_cell BK118.out 3).trans rfl; have hcz16_4 : w15.cell? ⟨gb118, 4, none⟩ = some (.int .u64 0) := (blk_cell BK118.out 4).trans rfl; have hcz16_5 : w15.cell? ⟨gb118, 5, none⟩ = some (.int .i64 0) := (blk_cell BK118.out 5).trans rfl; have hcz16_6 : w15.cell? ⟨gb118, 6, none⟩ = some (.slice none 0 0) := (blk_cell BK118.out 6).trans rfl; have hfz16_0 := blk_frozen BK118.out 0; have hfz16_1 := blk_frozen BK118.out 1; have hfz16_2 := blk_frozen BK118.out 2; have hfz16_3 := blk_frozen BK118.out 3; have hfz16_4 := blk_frozen BK118.out 4; have hfz16_5 := blk_frozen BK118.out 5; have hfz16_6 := blk_frozen BK118.out 6; obtain ⟨Ao17, co17, eo17⟩ := Kd.S_slice HO_5.out; subst eo17))
                      have n0_ : Aside0 (Kd.S k56 56 (((((((w15.setCell ⟨gb118, 0, none⟩ (.int .i64 ((rd_T56 l1 x14_1).f0))).setCell ⟨gb118, 1, none⟩ (.int .i64 ((rd_T56 l1 x14_1).f1))).setCell ⟨gb118, 2, none⟩ (.int .i64 ((rd_T56 l1 x14_1).f2))).setCell ⟨gb118, 3, none⟩ (.int .i64 ((rd_T56 l1 x14_1).f3))).setCell ⟨gb118, 4, none⟩ (.int .u64 ((rd_T56 l1 x14_1).f4))).setCell ⟨gb118, 5, none⟩ (.int .i64 ((rd_T56 l1 x14_1).f5))).setCell ⟨gb118, 6, none⟩ (.slice A117_6 ((rd_T56 l1 x14_1).f6).length c117_6)) w.heap.size (fun k_ => k_ ≠ gb118) (.slice Ao17 x5_1.length co17) x5_1) := ⟨by (with_reducible repeat (first | apply Kd.S_alloc | apply Kd.S_drewN | apply Kd.S_drew)); exact Kd.S_mono (Kd.S_far (p := ⟨gb118, 6, none⟩) (Kd.S_far (p := ⟨gb118, 5, none⟩) (Kd.S_far (p := ⟨gb118, 4, none⟩) (Kd.S_far (p := ⟨gb118, 3, none⟩) (Kd.S_far (p := ⟨gb118, 2, none⟩) (Kd.S_far (p := ⟨gb118, 1, none⟩) (Kd.S_far (p := ⟨gb118, 0, none⟩) (Kd.S_mono HO_5.out (fun k_ hk => (⟨hk, hk.2⟩ : _ ∧ k_ ≠ gb118))) (fun _ hk => hk.2) (.int .i64 ((rd_T56 l1 x14_1).f0))) (fun _ hk => hk.2) (.int .i64 ((rd_T56 l1 x14_1).f1))) (fun _ hk => hk.2) (.int .i64 ((rd_T56 l1 x14_1).f2))) (fun _ hk => hk.2) (.int .i64 ((rd_T56 l1 x14_1).f3))) (fun _ hk => hk.2) (.int .u64 ((rd_T56 l1 x14_1).f4))) (fun _ hk => hk.2) (.int .i64 ((rd_T56 l1 x14_1).f5))) (fun _ hk => hk.2) (.slice A117_6 ((rd_T56 l1 x14_1).f6).length c117_6)) (fun _ hk => hk.1.2)⟩
                      have n1_ : Aside0 ((((((((w15.setCell ⟨gb118, 0, none⟩ (.int .i64 ((rd_T56 l1 x14_1).f0))).setCell ⟨gb118, 1, none⟩ (.int .i64 ((rd_T56 l1 x14_1).f1))).setCell ⟨gb118, 2, none⟩ (.int .i64 ((rd_T56 l1 x14_1).f2))).setCell ⟨gb118, 3, none⟩ (.int .i64 ((rd_T56 l1 x14_1).f3))).setCell ⟨gb118, 4, none⟩ (.int .u64 ((rd_T56 l1 x14_1).f4))).setCell ⟨gb118, 5, none⟩ (.int .i64 ((rd_T56 l1 x14_1).f5))).setCell ⟨gb118, 6, none⟩ (.slice A117_6 ((rd_T56 l1 x14_1).f6).length c117_6)).heap[gb118]? = some (.cells #[.int .i64 ((rd_T56 l1 x14_1).f0), .int .i64 ((rd_T56 l1 x14_1).f1), .int .i64 ((rd_T56 l1 x14_1).f2), .int .i64 ((rd_T56 l1 x14_1).f3), .int .u64 ((rd_T56 l1 x14_1).f4), .int .i64 ((rd_T56 l1 x14_1).f5), .slice A117_6 ((rd_T56 l1 x14_1).f6).length c117_6] 56 (0, 0))) := ⟨by (with_reducible repeat (first | refine blk_drewN ?_ _ | refine blk_drew ?_ | refine blk_alloc ?_ _)); refine blk_put (cs := #[.int .i64 ((rd_T56 l1 x14_1).f0), .int .i64 ((rd_T56 l1 x14_1).f1), .int .i64 ((rd_T56 l1 x14_1).f2), .int .i64 ((rd_T56 l1 x14_1).f3), .int .u64 ((rd_T56 l1 x14_1).f4), .int .i64 ((rd_T56 l1 x14_1).f5), .slice none 0 0]) ?_ 6 _ rfl; (with_reducible repeat (first | refine blk_drewN ?_ _ | refine blk_drew ?_ | refine blk_alloc ?_ _)); refine blk_put (cs := #[.int .i64 ((rd_T56 l1 x14_1).f0), .int .i64 ((rd_T56 l1 x14_1).f1), .int .i64 ((rd_T56 l1 x14_1).f2), .int .i64 ((rd_T56 l1 x14_1).f3), .int .u64 ((rd_T56 l1 x14_1).f4), .int .i64 0, .slice none 0 0]) ?_ 5 _ rfl; (with_reducible repeat (first | refine blk_drewN ?_ _ | refine blk_drew ?_ | refine blk_alloc ?_ _)); refine blk_put (cs := #[.int .i64 ((rd_T56 l1 x14_1).f0), .int .i64 ((rd_T56 l1 x14_1).f1), .int .i64 ((rd_T56 l1 x14_1).f2), .int .i64 ((rd_T56 l1 x14_1).f3), .int .u64 0, .int .i64 0, .slice none 0 0]) ?_ 4 _ rfl; (with_reducible repeat (first | refine blk_drewN ?_ _ | refine blk_drew ?_ | refine blk_alloc ?_ _)); refine blk_put (cs := #[.int .i64 ((rd_T56 l1 x14_1).f0), .int .i64 ((rd_T56 l1 x14_1).f1), .int .i64 ((rd_T56 l1 x14_1).f2), .int .i64 0, .int .u64 0, .int .i64 0, .slice none 0 0]) ?_ 3 _ rfl; (with_reducible repeat (first | refine blk_drewN ?_ _ | refine blk_drew ?_ | refine blk_alloc ?_ _)); refine blk_put (cs := #[.int .i64 ((rd_T56 l1 x14_1).f0), .int .i64 ((rd_T56 l1 x14_1).f1), .int .i64 0, .int .i64 0, .int .u64 0, .int .i64 0, .slice none 0 0]) ?_ 2 _ rfl; (with_reducible repeat (first | refine blk_drewN ?_ _ | refine blk_drew ?_ | refine blk_alloc ?_ _)); refine blk_put (cs := #[.int .i64 ((rd_T56 l1 x14_1).f0), .int .i64 0, .int .i64 0, .int .i64 0, .int .u64 0, .int .i64 0, .slice none 0 0]) ?_ 1 _ rfl; (with_reducible repeat (first | refine blk_drewN ?_ _ | refine blk_drew ?_ | refine blk_alloc ?_ _)); refine blk_put (cs := #[.int .i64 0, .int .i64 0, .int .i64 0, .int .i64 0, .int .u64 0, .int .i64 0, .slice none 0 0]) ?_ 0 _ rfl; (with_reducible repeat (first | refine blk_drewN ?_ _ | refine blk_drew ?_ | refine blk_alloc ?_ _)); exact BK118.out⟩
                      have n2_ : Aside0 (Below w.heap.size w (((((((w15.setCell ⟨gb118, 0, none⟩ (.int .i64 ((rd_T56 l1 x14_1).f0))).setCell ⟨gb118, 1, none⟩ (.int .i64 ((rd_T56 l1 x14_1).f1))).setCell ⟨gb118, 2, none⟩ (.int .i64 ((rd_T56 l1 x14_1).f2))).setCell ⟨gb118, 3, none⟩ (.int .i64 ((rd_T56 l1 x14_1).f3))).setCell ⟨gb118, 4, none⟩ (.int .u64 ((rd_T56 l1 x14_1).f4))).setCell ⟨gb118, 5, none⟩ (.int .i64 ((rd_T56 l1 x14_1).f5))).setCell ⟨gb118, 6, none⟩ (.slice A117_6 ((rd_T56 l1 x14_1).f6).length c117_6))) := ⟨by repeat (first | (with_reducible first | exact HB.out | apply below_alloc | apply pw_below_drewN | apply below_drew1 | refine below_set ?_ GE118.out) | exact HB.out)⟩
                      (try clear HO_5)
                      (try clear BK118)
                      (try clear HB)
                      generalize (((((((w15.setCell ⟨gb118, 0, none⟩ (.int .i64 ((rd_T56 l1 x14_1).f0))).setCell ⟨gb118, 1, none⟩ (.int .i64 ((rd_T56 l1 x14_1).f1))).setCell ⟨gb118, 2, none⟩ (.int .i64 ((rd_T56 l1 x14_1).f2))).setCell ⟨gb118, 3, none⟩ (.int .i64 ((rd_T56 l1 x14_1).f3))).setCell ⟨gb118, 4, none⟩ (.int .u64 ((rd_T56 l1 x14_1).f4))).setCell ⟨gb118, 5, none⟩ (.int .i64 ((rd_T56 l1 x14_1).f5))).setCell ⟨gb118, 6, none⟩ (.slice A117_6 ((rd_T56 l1 x14_1).f6).length c117_6)) = w18 at n0_ n1_ n2_ ⊢
                      have HO_5 := n0_
                      have BK118 := n1_
                      have HB := n2_
                      clear n0_ n1_ n2_
                      have n0_ := Aside0.mk (Kd.S_drew HO_5.out)
                      have n1_ := Aside0.mk (blk_drew BK118.out)
                      have n2_ := Aside0.mk (below_drew1 HB.out)
                      clear HO_5
                      clear BK118
                      clear HB
                      have HO_5 := n0_
                      have BK118 := n1_
                      have HB := n2_
                      clear n0_ n1_ n2_
                      have p119 : 0 ≤ ((ji9) : Int) := of_decide_eq_true (by first | (with_reducible assumption) | assumption)
                      have q119 : (ji9) < (x5_1.length : Int) := of_decide_eq_true (by first | (with_reducible assumption) | assumption)
                      obtain ⟨ad119, A119_6, c119_6, e119, hx119_0, hx119_1, hx119_2, hx119_3, hx119_4, hx119_5, hx119_6, hl119_6, hi119_6⟩ := at_T56 (Kd.S_reads' HO_5.out).2.2 (ji9) p119 q119
                      cases e119
                      obtain ⟨ce119, hce119, hMe119, hcc119⟩ := Kd.S_get HO_5.out z56 (ji9) p119 (by first | exact q119 | exact of_decide_eq_true (by first | (with_reducible assumption) | assumption) | (have e_ := (Kd.S_reads' HO_5.out).1; omega))
                      obtain ⟨ve119_6, rfl, ge119_6⟩ := k56_openM hMe119
                      have hv119_6 := hcc119 6 _ rfl
                      rw [add_field _ _ 6 (by omega)] at hv119_6
                      replace hv119_6 := Option.some.inj (hv119_6.symm.trans hx119_6)
                      rw [hv119_6] at ge119_6
                      have HL119_6 := Aside0.mk (show Kd.R (Kd.int .i64) 3 _ _ _ _ ((rd_T56 x5_1 (ji9)).f6) from ge119_6)
                      clear hv119_6 ge119_6
                      clear hcc119 hce119
                      have HR119_6 := Aside0.mk hi119_6
                      have HC119_6 := Aside0.mk hl119_6
                      clear hi119_6 hl119_6
                      replace p119 := eq_true p119
                      replace q119 := eq_true q119
                      refine start_ (n := 11) (S := fun w' => w'.cell? ⟨gb118, 0, none⟩ = some (.int .i64 ((rd_T56 l1 x14_1).f0)) ∧ w'.cell? ⟨gb118, 1, none⟩ = some (.int .i64 ((rd_T56 l1 x14_1).f1)) ∧ w'.cell? ⟨gb118, 2, none⟩ = some (.int .i64 ((rd_T56 l1 x14_1).f2)) ∧ w'.cell? ⟨gb118, 3, none⟩ = some (.int .i64 ((rd_T56 l1 x14_1).f3)) ∧ w'.cell? ⟨gb118, 4, none⟩ = some (.int .u64 ((rd_T56 l1 x14_1).f4)) ∧ w'.cell? ⟨gb118, 5, none⟩ = some (.int .i64 ((rd_T56 l1 x14_1).f5)) ∧ w'.cell? ⟨gb118, 6, none⟩ = some (.slice A117_6 ((rd_T56 l1 x14_1).f6).length c117_6) ∧ w'.cell? (ad119.add (((ji9)).toNat * 7)) = some (.int .i64 ((rd_T56 x5_1 (ji9)).f0)) ∧ w'.cell? ⟨(ad119.add (((ji9)).toNat * 7)).block, (ad119.add (((ji9)).toNat * 7)).off + 1, none⟩ = some (.int .i64 ((rd_T56 x5_1 (ji9)).f1)) ∧ w'.cell? ⟨(ad119.add (((ji9)).toNat * 7)).block, (ad119.add (((ji9)).toNat * 7)).off + 2, none⟩ = some (.int .i64 ((rd_T56 x5_1 (ji9)).f2)) ∧ w'.cell? ⟨(ad119.add (((ji9)).toNat * 7)).block, (ad119.add (((ji9)).toNat * 7)).off + 3, none⟩ = some (.int .i64 ((rd_T56 x5_1 (ji9)).f3)) ∧ w'.cell? ⟨(ad119.add (((ji9)).toNat * 7)).block, (ad119.add (((ji9)).toNat * 7)).off + 4, none⟩ = some (.int .u64 ((rd_T56 x5_1 (ji9)).f4)) ∧ w'.cell? ⟨(ad119.add (((ji9)).toNat * 7)).block, (ad119.add (((ji9)).toNat * 7)).off + 5, none⟩ = some (.int .i64 ((rd_T56 x5_1 (ji9)).f5)) ∧ w'.cell? ⟨(ad119.add (((ji9)).toNat * 7)).block, (ad119.add (((ji9)).toNat * 7)).off + 6, none⟩ = some (.slice A119_6 ((rd_T56 x5_1 (ji9)).f6).length c119_6)) (ds := []) #[false, false, false, false, false, false, false, false, false, false, false] (by kernel_rfl) rfl rfl ⟨(blk_cell BK118.out 0).trans rfl, (blk_cell BK118.out 1).trans rfl, (blk_cell BK118.out 2).trans rfl, (blk_cell BK118.out 3).trans rfl, (blk_cell BK118.out 4).trans rfl, (blk_cell BK118.out 5).trans rfl, (blk_cell BK118.out 6).trans rfl, hx119_0, hx119_1, hx119_2, hx119_3, hx119_4, hx119_5, hx119_6⟩ (fun hHeld => ?_); refine with_tabW event_Merge.tab8 event_Merge.bits8 (fun HT_ HW_ => ?_)
                      generalize w18.drew = w19 at HO_5 BK118 HB HL119_6 HR119_6 hx119_0 hx119_1 hx119_2 hx119_3 hx119_4 hx119_5 hx119_6 hHeld ⊢
                      refine pure_ (i := 0) (N := some 21) (v := ?_) (a' := ?_) #[true, false, false, false, false, false, false, false, false, false, false] rfl rfl (any_of HT_.out (by kernel_rfl)) (fun _ _ _ h => h) (Or.inl ⟨by rfl, ?_⟩) ?_ ?_
                      rotate_left
                      · intro w'
                        go_simp
                        with_reducible rfl
                      rotate_left
                      · simp only [Act.put, List.setIfInBounds_toArray, List.set_cons_zero, List.set_cons_succ, i64_w, i32_w]
                        rfl
                      refine pure_ (i := 1) (N := some 22) (v := ?_) (a' := ?_) #[true, true, false, false, false, false, false, false, false, false, false] rfl rfl (any_of HT_.out (by kernel_rfl)) (fun _ _ _ h => h) (Or.inl ⟨by rfl, ?_⟩) ?_ ?_
                      rotate_left
                      · intro w'
                        go_simp
                        with_reducible rfl
                      rotate_left
                      · simp only [Act.put, List.setIfInBounds_toArray, List.set_cons_zero, List.set_cons_succ, i64_w, i32_w]
                        rfl
                      refine pure_ (i := 2) (N := some 23) (v := ?_) (a' := ?_) #[true, true, true, false, false, false, false, false, false, false, false] rfl rfl (any_of HT_.out (by kernel_rfl)) (fun _ _ _ h => h) (Or.inl ⟨by rfl, ?_⟩) ?_ ?_
                      rotate_left
                      · intro w'
                        go_simp
                        with_reducible rfl
                      rotate_left
                      · simp only [Act.put, List.setIfInBounds_toArray, List.set_cons_zero, List.set_cons_succ, i64_w, i32_w]
                        rfl
                      refine pure_ (i := 3) (N := some 24) (v := ?_) (a' := ?_) #[true, true, true, true, false, false, false, false, false, false, false] rfl rfl (any_of HT_.out (by kernel_rfl)) (fun _ _ _ h => h) (Or.inl ⟨by rfl, ?_⟩) ?_ ?_
                      rotate_left
                      · intro w'
                        go_simp
                        with_reducible rfl
                      rotate_left
                      · simp only [Act.put, List.setIfInBounds_toArray, List.set_cons_zero, List.set_cons_succ, i64_w, i32_w]
                        rfl
                      refine pure_ (i := 4) (N := some 25) (v := ?_) (a' := ?_) #[true, true, true, true, true, false, false, false, false, false, false] rfl rfl (any_of HT_.out (by kernel_rfl)) (fun _ _ _ h => h) (Or.inl ⟨by rfl, ?_⟩) ?_ ?_
                      rotate_left
                      · intro w'
                        go_simp
                        with_reducible rfl
                      rotate_left
                      · simp only [Act.put, List.setIfInBounds_toArray, List.set_cons_zero, List.set_cons_succ, i64_w, i32_w]
                        rfl
                      refine pure_ (i := 5) (N := some 26) (v := ?_) (a' := ?_) #[true, true, true, true, true, true, false, false, false, false, false] rfl rfl (any_of HT_.out (by kernel_rfl)) (fun _ _ _ h => h) (Or.inl ⟨by rfl, ?_⟩) ?_ ?_
                      rotate_left
                      · intro w'
                        go_simp
                        with_reducible rfl
                      rotate_left
                      · simp only [Act.put, List.setIfInBounds_toArray, List.set_cons_zero, List.set_cons_succ, i64_w, i32_w]
                        rfl
                      refine pure_ (i := 6) (N := some 27) (v := ?_) (a' := ?_) #[true, true, true, true, true, true, true, false, false, false, false] rfl rfl (any_of HT_.out (by kernel_rfl)) (fun _ _ _ h => h) (Or.inl ⟨by rfl, ?_⟩) ?_ ?_
                      rotate_left
                      · intro w'
                        go_simp
                        with_reducible rfl
                      rotate_left
                      · simp only [Act.put, List.setIfInBounds_toArray, List.set_cons_zero, List.set_cons_succ, i64_w, i32_w]
                        rfl
                      refine take_ (i := 7) (N := some 28) (v := ?_) (a' := ?_) #[true, true, true, true, true, true, true, true, false, false, false] rfl rfl (take_ofW HT_.out HW_.out (by kernel_rfl)) (fun _ _ _ h => h) (Or.inl ⟨by rfl, ?_⟩) hHeld ?_ ?_
                      rotate_left
                      · rintro w' ⟨s0, s1, s2, s3, s4, s5, s6, s7, s8, s9, s10, s11, s12, s13⟩
                        go_simp
                        with_reducible rfl
                      rotate_left
                      · simp only [Act.put, List.setIfInBounds_toArray, List.set_cons_zero, List.set_cons_succ, i64_w, i32_w]
                        rfl
                      refine take_ (i := 8) (N := some 29) (v := ?_) (a' := ?_) #[true, true, true, true, true, true, true, true, true, false, false] rfl rfl (take_ofW HT_.out HW_.out (by kernel_rfl)) (fun _ _ _ h => h) (Or.inl ⟨by rfl, ?_⟩) hHeld ?_ ?_
                      rotate_left
                      · rintro w' ⟨s0, s1, s2, s3, s4, s5, s6, s7, s8, s9, s10, s11, s12, s13⟩
                        go_simp
                        with_reducible rfl
                      rotate_left
                      · simp only [Act.put, List.setIfInBounds_toArray, List.set_cons_zero, List.set_cons_succ, i64_w, i32_w]
                        rfl
                      refine one_ (i := 9) (N := some 30) #[true, true, true, true, true, true, true, true, true, true, false] rfl rfl (one_of HT_.out (by kernel_rfl)) (by decide) (fun K hK => ?_)
                      refine goes_ Try.func71 (by kernel_rfl) rfl #[.int .i64 a0, .agg #[.int .i64 ((rd_T56 x5_1 (ji9)).f0), .int .i64 ((rd_T56 x5_1 (ji9)).f1), .int .i64 ((rd_T56 x5_1 (ji9)).f2), .int .i64 ((rd_T56 x5_1 (ji9)).f3), .int .u64 ((rd_T56 x5_1 (ji9)).f4), .int .i64 ((rd_T56 x5_1 (ji9)).f5), .slice A119_6 ((rd_T56 x5_1 (ji9)).f6).length c119_6], .agg #[.int .i64 ((rd_T56 l1 x14_1).f0), .int .i64 ((rd_T56 l1 x14_1).f1), .int .i64 ((rd_T56 l1 x14_1).f2), .int .i64 ((rd_T56 l1 x14_1).f3), .int .u64 ((rd_T56 l1 x14_1).f4), .int .i64 ((rd_T56 l1 x14_1).f5), .slice A117_6 ((rd_T56 l1 x14_1).f6).length c117_6]] (by rfl) rfl rfl (by (try simp only [List.map_toArray, List.map_cons, List.map_nil]); first | done | (simp only [hji9]; rfl) | rfl | (simp only [List.length_drop, List.length_take]; rfl)) ?_
                      with_reducible refine (event_joins.calls a0 ((rd_T56 x5_1 (ji9)).f0) ((rd_T56 x5_1 (ji9)).f1) ((rd_T56 x5_1 (ji9)).f2) ((rd_T56 x5_1 (ji9)).f3) ((rd_T56 x5_1 (ji9)).f4) ((rd_T56 x5_1 (ji9)).f5) _ _ ((rd_T56 x5_1 (ji9)).f6) ((rd_T56 l1 x14_1).f0) ((rd_T56 l1 x14_1).f1) ((rd_T56 l1 x14_1).f2) ((rd_T56 l1 x14_1).f3) ((rd_T56 l1 x14_1).f4) ((rd_T56 l1 x14_1).f5) _ _ ((rd_T56 l1 x14_1).f6) true _ ?side1 ?side2 ?side3 ?side4 A12.out).mono ?_
                      (case side1 => repeat (first | exact (by repeat (first | (with_reducible exact HR119_6.out) | (with_reducible refine Kd.C_alloc ?_ _) | (with_reducible refine Kd.C_drewN ?_ _) | (with_reducible refine Kd.C_drew ?_) | exact HR119_6.out)) | (with_reducible refine Kd.C_alloc ?_ _) | (with_reducible refine Kd.C_drewN ?_ _) | (with_reducible refine Kd.C_drew ?_)))
                      (case side2 => exact HC119_6.out)
                      (case side3 => repeat (first | exact (Kd.C_below HR117_6.out HB.out) | (with_reducible refine Kd.C_alloc ?_ _) | (with_reducible refine Kd.C_drewN ?_ _) | (with_reducible refine Kd.C_drew ?_)))
                      (case side4 => exact HC117_6.out)
                      rintro e w20 ⟨rfl, hb⟩
                      have HS7_ := (hb.cell (World.block_lt_of_cell? _ _ (hHeld.2.2.2.2.2.2.2.1))).trans (hHeld.2.2.2.2.2.2.2.1)
                      have HS8_ := (hb.cell (World.block_lt_of_cell? _ _ (hHeld.2.2.2.2.2.2.2.2.1))).trans (hHeld.2.2.2.2.2.2.2.2.1)
                      have HS9_ := (hb.cell (World.block_lt_of_cell? _ _ (hHeld.2.2.2.2.2.2.2.2.2.1))).trans (hHeld.2.2.2.2.2.2.2.2.2.1)
                      have HS10_ := (hb.cell (World.block_lt_of_cell? _ _ (hHeld.2.2.2.2.2.2.2.2.2.2.1))).trans (hHeld.2.2.2.2.2.2.2.2.2.2.1)
                      have HS11_ := (hb.cell (World.block_lt_of_cell? _ _ (hHeld.2.2.2.2.2.2.2.2.2.2.2.1))).trans (hHeld.2.2.2.2.2.2.2.2.2.2.2.1)
                      have HS12_ := (hb.cell (World.block_lt_of_cell? _ _ (hHeld.2.2.2.2.2.2.2.2.2.2.2.2.1))).trans (hHeld.2.2.2.2.2.2.2.2.2.2.2.2.1)
                      have HS13_ := (hb.cell (World.block_lt_of_cell? _ _ (hHeld.2.2.2.2.2.2.2.2.2.2.2.2.2))).trans (hHeld.2.2.2.2.2.2.2.2.2.2.2.2.2)
                      refine ⟨_, rfl, ?_⟩
                      have n0_ := Aside0.mk (Kd.S_below (by (with_reducible repeat (first | apply Kd.S_alloc | apply Kd.S_drewN | apply Kd.S_drew)); exact HO_5.out) hb)
                      have n1_ := Aside0.mk (Kd.R_below (by (with_reducible repeat (first | apply Kd.R_alloc | apply Kd.R_drewN | apply Kd.R_drew)); exact HL119_6.out) hb)
                      have n2_ := Aside0.mk (blk_below (g := gb118) (o := .cells #[.int .i64 ((rd_T56 l1 x14_1).f0), .int .i64 ((rd_T56 l1 x14_1).f1), .int .i64 ((rd_T56 l1 x14_1).f2), .int .i64 ((rd_T56 l1 x14_1).f3), .int .u64 ((rd_T56 l1 x14_1).f4), .int .i64 ((rd_T56 l1 x14_1).f5), .slice A117_6 ((rd_T56 l1 x14_1).f6).length c117_6] 56 (0, 0)) (by (with_reducible repeat (first | refine blk_drewN ?_ _ | refine blk_drew ?_ | refine blk_alloc ?_ _)); exact BK118.out) hb)
                      have n3_ := Aside0.mk (Kd.C_below (by repeat (first | (with_reducible exact HR119_6.out) | (with_reducible refine Kd.C_alloc ?_ _) | (with_reducible refine Kd.C_drewN ?_ _) | (with_reducible refine Kd.C_drew ?_) | exact HR119_6.out)) hb)
                      have n4_ := Aside0.mk (below_step (by repeat (first | (with_reducible first | exact HB.out | apply below_alloc | apply pw_below_drewN | apply below_drew1 | refine below_set ?_ GE118.out) | exact HB.out)) hb)
                      clear HO_5
                      clear HL119_6
                      clear BK118
                      clear HR119_6
                      clear HB
                      have HO_5 := n0_
                      have HL119_6 := n1_
                      have BK118 := n2_
                      have HR119_6 := n3_
                      have HB := n4_
                      clear n0_ n1_ n2_ n3_ n4_
                      (try clear hb)
                      (try clear hb2)
                      (try clear hk)
                      (try clear hi)
                      refine hK.out _ _ ⟨(blk_cell BK118.out 0).trans rfl, (blk_cell BK118.out 1).trans rfl, (blk_cell BK118.out 2).trans rfl, (blk_cell BK118.out 3).trans rfl, (blk_cell BK118.out 4).trans rfl, (blk_cell BK118.out 5).trans rfl, (blk_cell BK118.out 6).trans rfl, HS7_, HS8_, HS9_, HS10_, HS11_, HS12_, HS13_⟩ (fun hHeld => ?_)
                      clear hK K
                      refine norm_ (a' := ?_) ?_ ?_
                      rotate_left
                      · show Act.put _ (some 30) _ = _
                        simp only [Act.put, List.setIfInBounds_toArray, List.set_cons_zero, List.set_cons_succ, i64_w, i32_w]
                        rfl
                      refine pure_ (i := 10) (N := some 31) (v := ?_) (a' := ?_) #[true, true, true, true, true, true, true, true, true, true, true] rfl rfl (any_of HT_.out (by kernel_rfl)) (fun _ _ _ h => h) (Or.inl ⟨by rfl, ?_⟩) ?_ ?_
                      rotate_left
                      · intro w'
                        go_simp
                        with_reducible rfl
                      rotate_left
                      · simp only [Act.put, List.setIfInBounds_toArray, List.set_cons_zero, List.set_cons_succ, i64_w, i32_w]
                        rfl
                      refine done_ (done_of HT_.out (by kernel_rfl)) ?_
                      try go_wp2
                      have p14 : 0 ≤ ((ji9) : Int) := of_decide_eq_true (by first | (with_reducible assumption) | assumption)
                      have q14 : ((ji9) : Int) < ((x5_1.length : Int) : Int) := of_decide_eq_true (by first | (with_reducible assumption) | assumption)
                      obtain ⟨go14, co14, eo14, gb14, gl14, cl14, HG14⟩ := Kd.S_form HO_5.out (by omega)
                      have had : ad119 = ⟨go14, 0, none⟩ := by
                        injection eo14 with e1
                        injection e1
                      subst had
                      clear eo14 cl14 HG14 HL119_6 HR119_6 hx119_0 hx119_1 hx119_2 hx119_3 hx119_4 hx119_5 hx119_6 hx117_0 hx117_1 hx117_2 hx117_3 hx117_4 hx117_5 hx117_6
                      have n0_ := Aside0.mk (Kd.S_drew HO_5.out)
                      have n1_ := Aside0.mk (blk_drew BK118.out)
                      have n2_ := Aside0.mk (below_drew1 HB.out)
                      clear HO_5 BK118 HB
                      have HO_5 := n0_
                      have BK118 := n1_
                      have HB := n2_
                      clear n0_ n1_ n2_
                      have hlt14 := Aside0.mk (blk_lt BK118.out)
                      obtain ⟨hc9, hf9, hs9⟩ := put_num HO_5.out ji9 p14 q14
                      have HS9 := Aside0.mk (hs9 (wrap64 ((rd_T56 x5_1 (ji9)).f3 + (rd_T56 l1 x14_1).f3)))
                      have he9 := (blk_cell BK118.out 3).trans rfl
                      clear hs9
                      replace p14 := eq_true p14
                      replace q14 := eq_true q14
                      have hne14 : go14 ≠ gb118 := (Kd.S_R HO_5.out).1 go14 (by simp [Value.ownBlock])
                      have HNE := Aside0.mk hne14
                      clear hne14
                      go_still_tail 10, (by kernel_rfl)
                      change wpList _ _ _ _ _ w20.drew
                      generalize w20.drew = w21 at HO_5 BK118 HB hlt14 hc9 hf9 HS9 he9 ⊢
                      go_wp2_with fail
                      have n0_ := Aside0.mk (Kd.S_drew HS9.out)
                      have n1_ := Aside0.mk (blk_drew ((Below.heap_setCell w21 ⟨go14, (ji9).toNat * 7 + 3, none⟩ (.int .i64 (wrap64 ((rd_T56 x5_1 (ji9)).f3 + (rd_T56 l1 x14_1).f3))) gb118 (fun e => HNE.out e.symm)).trans BK118.out))
                      have n2_ := Aside0.mk (below_drew1 (below_set (j := (ji9).toNat * 7 + 3) (v := .int .i64 (wrap64 ((rd_T56 x5_1 (ji9)).f3 + (rd_T56 l1 x14_1).f3))) HB.out gb14))
                      clear HO_5 BK118 HB hlt14 hc9 hf9 HS9 he9
                      have HO_5 := n0_
                      have BK118 := n1_
                      have HB := n2_
                      clear n0_ n1_ n2_
                      generalize hw22 : (w21.setCell ⟨go14, (ji9).toNat * 7 + 3, none⟩ (.int .i64 (wrap64 ((rd_T56 x5_1 (ji9)).f3 + (rd_T56 l1 x14_1).f3)))) = w22 at HO_5 BK118 HB ⊢
                      clear hw22
                      have HO5_ := HO_5.out
                      rw [← Ny122.out] at HO5_
                      obtain ⟨oki, v6, hc10, hR10, hfr10, hK10⟩ := put_data HO5_ ji9 (of_eq_true p14) (of_eq_true q14) (fun k hk e => by have := blk_lt BK118.out; rw [e] at hk; omega)
                      have er10 : (rd_T56 y122 (ji9)) = ⟨(rd_T56 x5_1 (ji9)).f0, (rd_T56 x5_1 (ji9)).f1, (rd_T56 x5_1 (ji9)).f2, wrap64 ((rd_T56 x5_1 (ji9)).f3 + (rd_T56 l1 x14_1).f3), (rd_T56 x5_1 (ji9)).f4, (rd_T56 x5_1 (ji9)).f5, (rd_T56 x5_1 (ji9)).f6⟩ := by
                        rw [Ny122.out]
                        unfold rd_T56
                        have h1 := of_eq_true q14
                        have h0 := of_eq_true p14
                        rw [List.getD_eq_getElem?_getD, List.getElem?_set_self (by omega)]
                        rfl
                      rw [er10] at hR10 hK10
                      have HR10 := Aside0.mk hR10
                      have HF10 := Aside0.mk hfr10
                      have HK10 := Aside0.mk hK10
                      clear hR10 hfr10 hK10 HO5_
                      have HC10 := Aside0.mk (Kd.C_below HR117_6.out HB.out)
                      have he10 := (blk_cell BK118.out 6).trans rfl
                      refine start_ (n := 13) (S := fun w' => w'.cell? ⟨go14, (ji9).toNat * 7 + 6, none⟩ = some v6 ∧ w'.cell? ⟨gb118, 6, none⟩ = some (.slice A117_6 ((rd_T56 l1 x14_1).f6).length c117_6)) (ds := [9, 12]) #[false, false, false, false, false, false, false, false, false, false, false, false, false] (by kernel_rfl) rfl rfl ⟨hc10, he10⟩ (fun hHeld => ?_)
                      generalize w22.drew = w23 at HO_5 BK118 HB hc10 HR10 HF10 HK10 HC10 he10 hHeld ⊢
                      refine pure_ (i := 0) (N := some 42) (v := ?_) (a' := ?_) #[true, false, false, false, false, false, false, false, false, false, false, false, false] rfl rfl (by kernel_rfl) (fun _ _ _ h => h) (Or.inl ⟨by rfl, ?_⟩) ?_ ?_
                      rotate_left
                      · intro w'
                        go_simp
                        with_reducible rfl
                      rotate_left
                      · simp only [Act.put, List.setIfInBounds_toArray, List.set_cons_zero, List.set_cons_succ, i64_w, i32_w]
                        rfl
                      refine pure_ (i := 1) (N := some 43) (v := ?_) (a' := ?_) #[true, true, false, false, false, false, false, false, false, false, false, false, false] rfl rfl (by kernel_rfl) (fun _ _ _ h => h) (Or.inl ⟨by rfl, ?_⟩) ?_ ?_
                      rotate_left
                      · intro w'
                        go_simp
                        with_reducible rfl
                      rotate_left
                      · simp only [Act.put, List.setIfInBounds_toArray, List.set_cons_zero, List.set_cons_succ, i64_w, i32_w]
                        rfl
                      refine pure_ (i := 2) (N := some 44) (v := ?_) (a' := ?_) #[true, true, true, false, false, false, false, false, false, false, false, false, false] rfl rfl (by kernel_rfl) (fun _ _ _ h => h) (Or.inl ⟨by rfl, ?_⟩) ?_ ?_
                      rotate_left
                      · intro w'
                        go_simp
                        with_reducible rfl
                      rotate_left
                      · simp only [Act.put, List.setIfInBounds_toArray, List.set_cons_zero, List.set_cons_succ, i64_w, i32_w]
                        rfl
                      refine pure_ (i := 3) (N := some 45) (v := ?_) (a' := ?_) #[true, true, true, true, false, false, false, false, false, false, false, false, false] rfl rfl (by kernel_rfl) (fun _ _ _ h => h) (Or.inl ⟨by rfl, ?_⟩) ?_ ?_
                      rotate_left
                      · intro w'
                        go_simp
                        with_reducible rfl
                      rotate_left
                      · simp only [Act.put, List.setIfInBounds_toArray, List.set_cons_zero, List.set_cons_succ, i64_w, i32_w]
                        rfl
                      refine pure_ (i := 4) (N := some 46) (v := ?_) (a' := ?_) #[true, true, true, true, true, false, false, false, false, false, false, false, false] rfl rfl (by kernel_rfl) (fun _ _ _ h => h) (Or.inl ⟨by rfl, ?_⟩) ?_ ?_
                      rotate_left
                      · intro w'
                        go_simp
                        with_reducible rfl
                      rotate_left
                      · simp only [Act.put, List.setIfInBounds_toArray, List.set_cons_zero, List.set_cons_succ, i64_w, i32_w]
                        rfl
                      refine pure_ (i := 5) (N := some 47) (v := ?_) (a' := ?_) #[true, true, true, true, true, true, false, false, false, false, false, false, false] rfl rfl (by kernel_rfl) (fun _ _ _ h => h) (Or.inl ⟨by rfl, ?_⟩) ?_ ?_
                      rotate_left
                      · intro w'
                        go_simp
                        with_reducible rfl
                      rotate_left
                      · simp only [Act.put, List.setIfInBounds_toArray, List.set_cons_zero, List.set_cons_succ, i64_w, i32_w]
                        rfl
                      refine pure_ (i := 7) (N := some 49) (v := ?_) (a' := ?_) #[true, true, true, true, true, true, false, true, false, false, false, false, false] rfl rfl (by kernel_rfl) (fun _ _ _ h => h) (Or.inl ⟨by rfl, ?_⟩) ?_ ?_
                      rotate_left
                      · intro w'
                        go_simp
                        with_reducible rfl
                      rotate_left
                      · simp only [Act.put, List.setIfInBounds_toArray, List.set_cons_zero, List.set_cons_succ, i64_w, i32_w]
                        rfl
                      refine take_ (i := 6) (N := some 48) (v := ?_) (a' := ?_) #[true, true, true, true, true, true, true, true, false, false, false, false, false] rfl rfl (by kernel_rfl) (fun _ _ _ h => h) (Or.inl ⟨by rfl, ?_⟩) hHeld ?_ ?_
                      rotate_left
                      · rintro w' ⟨s0, s1⟩
                        go_simp
                        with_reducible rfl
                      rotate_left
                      · simp only [Act.put, List.setIfInBounds_toArray, List.set_cons_zero, List.set_cons_succ, i64_w, i32_w]
                        rfl
                      refine take_ (i := 8) (N := some 50) (v := ?_) (a' := ?_) #[true, true, true, true, true, true, true, true, true, false, false, false, false] rfl rfl (by kernel_rfl) (fun _ _ _ h => h) (Or.inl ⟨by rfl, ?_⟩) hHeld ?_ ?_
                      rotate_left
                      · rintro w' ⟨s0, s1⟩
                        go_simp
                        with_reducible rfl
                      rotate_left
                      · simp only [Act.put, List.setIfInBounds_toArray, List.set_cons_zero, List.set_cons_succ, i64_w, i32_w]
                        rfl
                      refine last_ (i := 9) (N := some 51) #[true, true, true, true, true, true, true, true, true, true, false, false, false] rfl rfl (by kernel_rfl) (by decide) (fun K hK => ?_)
                      refine Kd.R_append_rows_step (Kd.int .i64) (Rr := (Kd.int .i64).K w23) (w0 := w) w.heap.size (by rfl) (.tmp 48) (.tmp 50) 50 3 (.int .i64 0) 8 rfl Try.underlying50 info3 rfl (by decide) (by omega) v6 (rd_T56 x5_1 (ji9)).f6 (rd_T56 l1 x14_1).f6 A117_6 _ c117_6 oki (fun _ => False) rfl rfl HR10.out HC10.out (fun _ _ h => h) (fun _ h => h.elim) HF10.out HB.out (Below.size HB.out) (by have := LMc99.out; omega) ?_
                      intro v1 w24 hv1 hb1 hg1 _
                      obtain ⟨Av1, cv1, ev1⟩ := Kd.R_slice hv1
                      subst ev1
                      obtain ⟨hc11, hf11, hs11⟩ := HK10.out w24 _ _ hv1 hg1
                      rw [List.length_append] at hs11
                      have HS11 := Aside0.mk hs11
                      have HB1 := Aside0.mk hb1
                      clear hs11 hb1 hv1 hg1
                      refine hK.out _ _ ?_
                      clear hK K
                      refine norm_ (a' := ?_) ?_ ?_
                      rotate_left
                      · show Act.put _ (some 51) _ = _
                        simp only [Act.put, List.setIfInBounds_toArray, List.set_cons_zero, List.set_cons_succ, i64_w, i32_w]
                        rfl
                      refine pure_ (i := 10) (N := some 52) (v := ?_) (a' := ?_) #[true, true, true, true, true, true, true, true, true, true, true, false, false] rfl rfl (by kernel_rfl) (fun _ _ _ h => h) (Or.inl ⟨by rfl, ?_⟩) ?_ ?_
                      rotate_left
                      · intro w'
                        go_simp
                        with_reducible rfl
                      rotate_left
                      · simp only [Act.put, List.setIfInBounds_toArray, List.set_cons_zero, List.set_cons_succ, i64_w, i32_w]
                        rfl
                      refine pure_ (i := 11) (N := some 53) (v := ?_) (a' := ?_) #[true, true, true, true, true, true, true, true, true, true, true, true, false] rfl rfl (by kernel_rfl) (fun _ _ _ h => h) (Or.inl ⟨by rfl, ?_⟩) ?_ ?_
                      rotate_left
                      · intro w'
                        go_simp
                        with_reducible rfl
                      rotate_left
                      · simp only [Act.put, List.setIfInBounds_toArray, List.set_cons_zero, List.set_cons_succ, i64_w, i32_w]
                        rfl
                      refine last_ (i := 12) (N := none) #[true, true, true, true, true, true, true, true, true, true, true, true, true] rfl rfl (by kernel_rfl) (by decide) (fun K hK => ?_)
                      refine skip_ (w1 := ?_) (by rfl) rfl ?_ ?_
                      rotate_left
                      · go_simp
                        rfl
                      refine hK.out _ _ ?_
                      clear hK K
                      refine done_ (by kernel_rfl) ?_
                      try go_wp2
                      go_roundg k1
                      case measure => have := HK1.out; omega
                      case rel => exact ⟨(y199), (wrap64 (x14_1 + 1)), (by first | rfl | (simp; done) | (simp [*]; done)), H', ⟨by have := HK1.out; omega⟩, ⟨by rw [Ny199.out]; exact Kd.S_mono HS11.out (fun _ hk => trivial)⟩, ⟨below_set HB1.out gb14⟩⟩
                    · replace c13 := Bool.eq_false_iff.mpr c13
                      subst c13
                      have H1 : ((event_copied.f ((rd_T56 l1 x14_1).f0) ((rd_T56 l1 x14_1).f1) ((rd_T56 l1 x14_1).f2) ((rd_T56 l1 x14_1).f3) ((rd_T56 l1 x14_1).f4) ((rd_T56 l1 x14_1).f5) ((rd_T56 l1 x14_1).f6)).bind fun bt123 => (if x5_1.length < 1954687338268 then (event_Merge.l0 k1 a0 (x5_1 ++ [(⟨bt123.1, bt123.2.1, bt123.2.2.1, bt123.2.2.2.1, bt123.2.2.2.2.1, bt123.2.2.2.2.2.1, bt123.2.2.2.2.2.2⟩ : S56)]) l1 (l1.length : Int) (wrap64 (x14_1 + 1))) else (none))) = some r := by rw [if_neg (show ¬ (false = true) by decide)] at H; exact H
                      clear H
                      have H := H1
                      clear H1
                      replace H := Option.bind_eq_some_iff.mp H
                      obtain ⟨⟨t123, t124, t125, t126, t127, t128, t129⟩, A230, H⟩ := H
                      replace H : (if x5_1.length < 1954687338268 then (event_Merge.l0 k1 a0 (x5_1 ++ [(⟨t123, t124, t125, t126, t127, t128, t129⟩ : S56)]) l1 (l1.length : Int) (wrap64 (x14_1 + 1))) else (none)) = some r := H
                      have A23 := Aside0.mk A230
                      clear A230
                      by_cases c24 : x5_1.length < 1954687338268
                      · rw [if_pos c24] at H
                        have LMc24 := Aside0.mk c24
                        clear c24
                        obtain ⟨y132, hy132⟩ : ∃ y_ : List (S56), y_ = (x5_1 ++ [(⟨t123, t124, t125, t126, t127, t128, t129⟩ : S56)]) := ⟨_, rfl⟩
                        replace H : (event_Merge.l0 k1 a0 y132 l1 (l1.length : Int) (wrap64 (x14_1 + 1))) = some r := by first | (rw [hy132]; with_reducible exact H) | (have H2_ := (Option.bind_some _ _).symm.trans H; rw [hy132]; with_reducible exact H2_) | (have H2_ := (Option.bind_some _ _).symm.trans H; with_reducible exact H2_) | with_reducible exact H | (rw [hy132]; exact H) | exact H
                        have Ny132 := Aside0.mk hy132
                        clear hy132
                        have H' := Aside0.mk H
                        clear H
                        have p117 : 0 ≤ (x14_1 : Int) := of_decide_eq_true (by first | (with_reducible assumption) | assumption)
                        have q117 : x14_1 < (l1.length : Int) := of_decide_eq_true (by first | (with_reducible assumption) | assumption)
                        obtain ⟨ad117, A117_6, c117_6, e117, hx117_0, hx117_1, hx117_2, hx117_3, hx117_4, hx117_5, hx117_6, hl117_6, hi117_6⟩ := at_T56 HR1.out x14_1 p117 q117
                        cases e117
                        replace hx117_0 := (HB.out.cell (World.block_lt_of_cell? w _ hx117_0)).trans hx117_0
                        replace hx117_1 := (HB.out.cell (World.block_lt_of_cell? w _ hx117_1)).trans hx117_1
                        replace hx117_2 := (HB.out.cell (World.block_lt_of_cell? w _ hx117_2)).trans hx117_2
                        replace hx117_3 := (HB.out.cell (World.block_lt_of_cell? w _ hx117_3)).trans hx117_3
                        replace hx117_4 := (HB.out.cell (World.block_lt_of_cell? w _ hx117_4)).trans hx117_4
                        replace hx117_5 := (HB.out.cell (World.block_lt_of_cell? w _ hx117_5)).trans hx117_5
                        replace hx117_6 := (HB.out.cell (World.block_lt_of_cell? w _ hx117_6)).trans hx117_6
                        have HR117_6 := Aside0.mk hi117_6
                        have HC117_6 := Aside0.mk hl117_6
                        clear hi117_6 hl117_6
                        replace p117 := eq_true p117
                        replace q117 := eq_true q117
                        try go_wp2_with (first | ((with_reducible refine gate_dst (N := 7) rfl ?_); refine box_event ?hg (N := 7) ?hd (cs := #[.int .i64 0, .int .i64 0, .int .i64 0, .int .i64 0, .int .u64 0, .int .i64 0, .slice none 0 0]) (t := 56) ?hr ?_; (case hd => rfl); (case hg => rfl); (case hr => first | (go_simp; done) | (go_simp; rfl)); intro gb118 hg w25 hbox hb; have n0_ := Aside0.mk (Kd.S_below (Kd.S_elderB (by (with_reducible repeat (first | apply Kd.S_alloc | apply Kd.S_drewN | apply Kd.S_drew)); exact HO_5.out) gb118 (Nat.le_of_eq hg.symm)) hb); have n1_ := Aside0.mk (below_step (by repeat (first | (with_reducible first | exact HB.out | apply below_alloc | apply pw_below_drewN | apply below_drew1) | exact HB.out)) hb); have n2_ := Aside0.mk (hbox); have n3_ := Aside0.mk ((by rw [hg]; exact (below_size (by repeat (first | (with_reducible first | exact HB.out | apply below_alloc | apply pw_below_drewN | apply below_drew1) | exact HB.out))) : w.heap.size ≤ gb118)); have n4_ := Aside0.mk ((by rw [hg]; exact (below_size (by repeat (first | (with_reducible first | exact HB.out | apply below_alloc | apply pw_below_drewN | apply below_drew1) | exact HB.out))) : w.heap.size ≤ gb118)); clear HO_5; clear HB; have HO_5 := n0_; have HB := n1_; have BK118 := n2_; have GW118 := n3_; have GE118 := n4_; clear n0_ n1_ n2_ n3_ n4_; clear hb hbox hg; have hcz26_0 : w25.cell? ⟨gb118, 0, none⟩ = some (.int .i64 0) := (blk_cell BK118.out 0).trans rfl; have hcz26_1 : w25.cell? ⟨gb118, 1, none⟩ = some (.int .i64 0) := (blk_cell BK118.out 1).trans rfl; have hcz26_2 : w25.cell? ⟨gb118, 2, none⟩ = some (.int .i64 0) := (blk_cell BK118.out 2).trans rfl; have hcz26_3 : w25.cell? ⟨gb118, 3, none⟩ = some (.int .i64 0) := (blk_cell BK118.out 3).trans rfl; have hcz26_4 : w25.cell? ⟨gb118, 4, none⟩ = some (.int .u64 0) := (blk_cell BK118.out 4).trans rfl; have hcz26_5 : w25.cell? ⟨gb118, 5, none⟩ = some (.int .i64 0) := (blk_cell BK118.out 5).trans rfl; have hcz26_6 : w25.cell? ⟨gb118, 6, none⟩ = some (.slice none 0 0) := (blk_cell BK118.out 6).trans rfl; have hfz26_0 := blk_frozen BK118.out 0; have hfz26_1 := blk_frozen BK118.out 1; have hfz26_2 := blk_frozen BK118.out 2; have hfz26_3 := blk_frozen BK118.out 3; have hfz26_4 := blk_frozen BK118.out 4; have hfz26_5 := blk_frozen BK118.out 5; have hfz26_6 := blk_frozen BK118.out 6; obtain ⟨Ao27, co27, eo27⟩ := Kd.S_slice HO_5.out; subst eo27))
                        have n0_ : Aside0 (Kd.S k56 56 (((((((w25.setCell ⟨gb118, 0, none⟩ (.int .i64 ((rd_T56 l1 x14_1).f0))).setCell ⟨gb118, 1, none⟩ (.int .i64 ((rd_T56 l1 x14_1).f1))).setCell ⟨gb118, 2, none⟩ (.int .i64 ((rd_T56 l1 x14_1).f2))).setCell ⟨gb118, 3, none⟩ (.int .i64 ((rd_T56 l1 x14_1).f3))).setCell ⟨gb118, 4, none⟩ (.int .u64 ((rd_T56 l1 x14_1).f4))).setCell ⟨gb118, 5, none⟩ (.int .i64 ((rd_T56 l1 x14_1).f5))).setCell ⟨gb118, 6, none⟩ (.slice A117_6 ((rd_T56 l1 x14_1).f6).length c117_6)) w.heap.size (fun k_ => k_ ≠ gb118) (.slice Ao27 x5_1.length co27) x5_1) := ⟨by (with_reducible repeat (first | apply Kd.S_alloc | apply Kd.S_drewN | apply Kd.S_drew)); exact Kd.S_mono (Kd.S_far (p := ⟨gb118, 6, none⟩) (Kd.S_far (p := ⟨gb118, 5, none⟩) (Kd.S_far (p := ⟨gb118, 4, none⟩) (Kd.S_far (p := ⟨gb118, 3, none⟩) (Kd.S_far (p := ⟨gb118, 2, none⟩) (Kd.S_far (p := ⟨gb118, 1, none⟩) (Kd.S_far (p := ⟨gb118, 0, none⟩) (Kd.S_mono HO_5.out (fun k_ hk => (⟨hk, hk.2⟩ : _ ∧ k_ ≠ gb118))) (fun _ hk => hk.2) (.int .i64 ((rd_T56 l1 x14_1).f0))) (fun _ hk => hk.2) (.int .i64 ((rd_T56 l1 x14_1).f1))) (fun _ hk => hk.2) (.int .i64 ((rd_T56 l1 x14_1).f2))) (fun _ hk => hk.2) (.int .i64 ((rd_T56 l1 x14_1).f3))) (fun _ hk => hk.2) (.int .u64 ((rd_T56 l1 x14_1).f4))) (fun _ hk => hk.2) (.int .i64 ((rd_T56 l1 x14_1).f5))) (fun _ hk => hk.2) (.slice A117_6 ((rd_T56 l1 x14_1).f6).length c117_6)) (fun _ hk => hk.1.2)⟩
                        have n1_ : Aside0 ((((((((w25.setCell ⟨gb118, 0, none⟩ (.int .i64 ((rd_T56 l1 x14_1).f0))).setCell ⟨gb118, 1, none⟩ (.int .i64 ((rd_T56 l1 x14_1).f1))).setCell ⟨gb118, 2, none⟩ (.int .i64 ((rd_T56 l1 x14_1).f2))).setCell ⟨gb118, 3, none⟩ (.int .i64 ((rd_T56 l1 x14_1).f3))).setCell ⟨gb118, 4, none⟩ (.int .u64 ((rd_T56 l1 x14_1).f4))).setCell ⟨gb118, 5, none⟩ (.int .i64 ((rd_T56 l1 x14_1).f5))).setCell ⟨gb118, 6, none⟩ (.slice A117_6 ((rd_T56 l1 x14_1).f6).length c117_6)).heap[gb118]? = some (.cells #[.int .i64 ((rd_T56 l1 x14_1).f0), .int .i64 ((rd_T56 l1 x14_1).f1), .int .i64 ((rd_T56 l1 x14_1).f2), .int .i64 ((rd_T56 l1 x14_1).f3), .int .u64 ((rd_T56 l1 x14_1).f4), .int .i64 ((rd_T56 l1 x14_1).f5), .slice A117_6 ((rd_T56 l1 x14_1).f6).length c117_6] 56 (0, 0))) := ⟨by (with_reducible repeat (first | refine blk_drewN ?_ _ | refine blk_drew ?_ | refine blk_alloc ?_ _)); refine blk_put (cs := #[.int .i64 ((rd_T56 l1 x14_1).f0), .int .i64 ((rd_T56 l1 x14_1).f1), .int .i64 ((rd_T56 l1 x14_1).f2), .int .i64 ((rd_T56 l1 x14_1).f3), .int .u64 ((rd_T56 l1 x14_1).f4), .int .i64 ((rd_T56 l1 x14_1).f5), .slice none 0 0]) ?_ 6 _ rfl; (with_reducible repeat (first | refine blk_drewN ?_ _ | refine blk_drew ?_ | refine blk_alloc ?_ _)); refine blk_put (cs := #[.int .i64 ((rd_T56 l1 x14_1).f0), .int .i64 ((rd_T56 l1 x14_1).f1), .int .i64 ((rd_T56 l1 x14_1).f2), .int .i64 ((rd_T56 l1 x14_1).f3), .int .u64 ((rd_T56 l1 x14_1).f4), .int .i64 0, .slice none 0 0]) ?_ 5 _ rfl; (with_reducible repeat (first | refine blk_drewN ?_ _ | refine blk_drew ?_ | refine blk_alloc ?_ _)); refine blk_put (cs := #[.int .i64 ((rd_T56 l1 x14_1).f0), .int .i64 ((rd_T56 l1 x14_1).f1), .int .i64 ((rd_T56 l1 x14_1).f2), .int .i64 ((rd_T56 l1 x14_1).f3), .int .u64 0, .int .i64 0, .slice none 0 0]) ?_ 4 _ rfl; (with_reducible repeat (first | refine blk_drewN ?_ _ | refine blk_drew ?_ | refine blk_alloc ?_ _)); refine blk_put (cs := #[.int .i64 ((rd_T56 l1 x14_1).f0), .int .i64 ((rd_T56 l1 x14_1).f1), .int .i64 ((rd_T56 l1 x14_1).f2), .int .i64 0, .int .u64 0, .int .i64 0, .slice none 0 0]) ?_ 3 _ rfl; (with_reducible repeat (first | refine blk_drewN ?_ _ | refine blk_drew ?_ | refine blk_alloc ?_ _)); refine blk_put (cs := #[.int .i64 ((rd_T56 l1 x14_1).f0), .int .i64 ((rd_T56 l1 x14_1).f1), .int .i64 0, .int .i64 0, .int .u64 0, .int .i64 0, .slice none 0 0]) ?_ 2 _ rfl; (with_reducible repeat (first | refine blk_drewN ?_ _ | refine blk_drew ?_ | refine blk_alloc ?_ _)); refine blk_put (cs := #[.int .i64 ((rd_T56 l1 x14_1).f0), .int .i64 0, .int .i64 0, .int .i64 0, .int .u64 0, .int .i64 0, .slice none 0 0]) ?_ 1 _ rfl; (with_reducible repeat (first | refine blk_drewN ?_ _ | refine blk_drew ?_ | refine blk_alloc ?_ _)); refine blk_put (cs := #[.int .i64 0, .int .i64 0, .int .i64 0, .int .i64 0, .int .u64 0, .int .i64 0, .slice none 0 0]) ?_ 0 _ rfl; (with_reducible repeat (first | refine blk_drewN ?_ _ | refine blk_drew ?_ | refine blk_alloc ?_ _)); exact BK118.out⟩
                        have n2_ : Aside0 (Below w.heap.size w (((((((w25.setCell ⟨gb118, 0, none⟩ (.int .i64 ((rd_T56 l1 x14_1).f0))).setCell ⟨gb118, 1, none⟩ (.int .i64 ((rd_T56 l1 x14_1).f1))).setCell ⟨gb118, 2, none⟩ (.int .i64 ((rd_T56 l1 x14_1).f2))).setCell ⟨gb118, 3, none⟩ (.int .i64 ((rd_T56 l1 x14_1).f3))).setCell ⟨gb118, 4, none⟩ (.int .u64 ((rd_T56 l1 x14_1).f4))).setCell ⟨gb118, 5, none⟩ (.int .i64 ((rd_T56 l1 x14_1).f5))).setCell ⟨gb118, 6, none⟩ (.slice A117_6 ((rd_T56 l1 x14_1).f6).length c117_6))) := ⟨by repeat (first | (with_reducible first | exact HB.out | apply below_alloc | apply pw_below_drewN | apply below_drew1 | refine below_set ?_ GE118.out) | exact HB.out)⟩
                        (try clear HO_5)
                        (try clear BK118)
                        (try clear HB)
                        generalize (((((((w25.setCell ⟨gb118, 0, none⟩ (.int .i64 ((rd_T56 l1 x14_1).f0))).setCell ⟨gb118, 1, none⟩ (.int .i64 ((rd_T56 l1 x14_1).f1))).setCell ⟨gb118, 2, none⟩ (.int .i64 ((rd_T56 l1 x14_1).f2))).setCell ⟨gb118, 3, none⟩ (.int .i64 ((rd_T56 l1 x14_1).f3))).setCell ⟨gb118, 4, none⟩ (.int .u64 ((rd_T56 l1 x14_1).f4))).setCell ⟨gb118, 5, none⟩ (.int .i64 ((rd_T56 l1 x14_1).f5))).setCell ⟨gb118, 6, none⟩ (.slice A117_6 ((rd_T56 l1 x14_1).f6).length c117_6)) = w28 at n0_ n1_ n2_ ⊢
                        have HO_5 := n0_
                        have BK118 := n1_
                        have HB := n2_
                        clear n0_ n1_ n2_
                        have n0_ := Aside0.mk (Kd.S_drew HO_5.out)
                        have n1_ := Aside0.mk (blk_drew BK118.out)
                        have n2_ := Aside0.mk (below_drew1 HB.out)
                        clear HO_5
                        clear BK118
                        clear HB
                        have HO_5 := n0_
                        have BK118 := n1_
                        have HB := n2_
                        clear n0_ n1_ n2_
                        have p119 : 0 ≤ ((ji9) : Int) := of_decide_eq_true (by first | (with_reducible assumption) | assumption)
                        have q119 : (ji9) < (x5_1.length : Int) := of_decide_eq_true (by first | (with_reducible assumption) | assumption)
                        obtain ⟨ad119, A119_6, c119_6, e119, hx119_0, hx119_1, hx119_2, hx119_3, hx119_4, hx119_5, hx119_6, hl119_6, hi119_6⟩ := at_T56 (Kd.S_reads' HO_5.out).2.2 (ji9) p119 q119
                        cases e119
                        obtain ⟨ce119, hce119, hMe119, hcc119⟩ := Kd.S_get HO_5.out z56 (ji9) p119 (by first | exact q119 | exact of_decide_eq_true (by first | (with_reducible assumption) | assumption) | (have e_ := (Kd.S_reads' HO_5.out).1; omega))
                        obtain ⟨ve119_6, rfl, ge119_6⟩ := k56_openM hMe119
                        have hv119_6 := hcc119 6 _ rfl
                        rw [add_field _ _ 6 (by omega)] at hv119_6
                        replace hv119_6 := Option.some.inj (hv119_6.symm.trans hx119_6)
                        rw [hv119_6] at ge119_6
                        have HL119_6 := Aside0.mk (show Kd.R (Kd.int .i64) 3 _ _ _ _ ((rd_T56 x5_1 (ji9)).f6) from ge119_6)
                        clear hv119_6 ge119_6
                        clear hcc119 hce119
                        have HR119_6 := Aside0.mk hi119_6
                        have HC119_6 := Aside0.mk hl119_6
                        clear hi119_6 hl119_6
                        replace p119 := eq_true p119
                        replace q119 := eq_true q119
                        refine start_ (n := 11) (S := fun w' => w'.cell? ⟨gb118, 0, none⟩ = some (.int .i64 ((rd_T56 l1 x14_1).f0)) ∧ w'.cell? ⟨gb118, 1, none⟩ = some (.int .i64 ((rd_T56 l1 x14_1).f1)) ∧ w'.cell? ⟨gb118, 2, none⟩ = some (.int .i64 ((rd_T56 l1 x14_1).f2)) ∧ w'.cell? ⟨gb118, 3, none⟩ = some (.int .i64 ((rd_T56 l1 x14_1).f3)) ∧ w'.cell? ⟨gb118, 4, none⟩ = some (.int .u64 ((rd_T56 l1 x14_1).f4)) ∧ w'.cell? ⟨gb118, 5, none⟩ = some (.int .i64 ((rd_T56 l1 x14_1).f5)) ∧ w'.cell? ⟨gb118, 6, none⟩ = some (.slice A117_6 ((rd_T56 l1 x14_1).f6).length c117_6) ∧ w'.cell? (ad119.add (((ji9)).toNat * 7)) = some (.int .i64 ((rd_T56 x5_1 (ji9)).f0)) ∧ w'.cell? ⟨(ad119.add (((ji9)).toNat * 7)).block, (ad119.add (((ji9)).toNat * 7)).off + 1, none⟩ = some (.int .i64 ((rd_T56 x5_1 (ji9)).f1)) ∧ w'.cell? ⟨(ad119.add (((ji9)).toNat * 7)).block, (ad119.add (((ji9)).toNat * 7)).off + 2, none⟩ = some (.int .i64 ((rd_T56 x5_1 (ji9)).f2)) ∧ w'.cell? ⟨(ad119.add (((ji9)).toNat * 7)).block, (ad119.add (((ji9)).toNat * 7)).off + 3, none⟩ = some (.int .i64 ((rd_T56 x5_1 (ji9)).f3)) ∧ w'.cell? ⟨(ad119.add (((ji9)).toNat * 7)).block, (ad119.add (((ji9)).toNat * 7)).off + 4, none⟩ = some (.int .u64 ((rd_T56 x5_1 (ji9)).f4)) ∧ w'.cell? ⟨(ad119.add (((ji9)).toNat * 7)).block, (ad119.add (((ji9)).toNat * 7)).off + 5, none⟩ = some (.int .i64 ((rd_T56 x5_1 (ji9)).f5)) ∧ w'.cell? ⟨(ad119.add (((ji9)).toNat * 7)).block, (ad119.add (((ji9)).toNat * 7)).off + 6, none⟩ = some (.slice A119_6 ((rd_T56 x5_1 (ji9)).f6).length c119_6)) (ds := []) #[false, false, false, false, false, false, false, false, false, false, false] (by kernel_rfl) rfl rfl ⟨(blk_cell BK118.out 0).trans rfl, (blk_cell BK118.out 1).trans rfl, (blk_cell BK118.out 2).trans rfl, (blk_cell BK118.out 3).trans rfl, (blk_cell BK118.out 4).trans rfl, (blk_cell BK118.out 5).trans rfl, (blk_cell BK118.out 6).trans rfl, hx119_0, hx119_1, hx119_2, hx119_3, hx119_4, hx119_5, hx119_6⟩ (fun hHeld => ?_); refine with_tabW event_Merge.tab8 event_Merge.bits8 (fun HT_ HW_ => ?_)
                        generalize w28.drew = w29 at HO_5 BK118 HB HL119_6 HR119_6 hx119_0 hx119_1 hx119_2 hx119_3 hx119_4 hx119_5 hx119_6 hHeld ⊢
                        refine pure_ (i := 0) (N := some 21) (v := ?_) (a' := ?_) #[true, false, false, false, false, false, false, false, false, false, false] rfl rfl (any_of HT_.out (by kernel_rfl)) (fun _ _ _ h => h) (Or.inl ⟨by rfl, ?_⟩) ?_ ?_
                        rotate_left
                        · intro w'
                          go_simp
                          with_reducible rfl
                        rotate_left
                        · simp only [Act.put, List.setIfInBounds_toArray, List.set_cons_zero, List.set_cons_succ, i64_w, i32_w]
                          rfl
                        refine pure_ (i := 1) (N := some 22) (v := ?_) (a' := ?_) #[true, true, false, false, false, false, false, false, false, false, false] rfl rfl (any_of HT_.out (by kernel_rfl)) (fun _ _ _ h => h) (Or.inl ⟨by rfl, ?_⟩) ?_ ?_
                        rotate_left
                        · intro w'
                          go_simp
                          with_reducible rfl
                        rotate_left
                        · simp only [Act.put, List.setIfInBounds_toArray, List.set_cons_zero, List.set_cons_succ, i64_w, i32_w]
                          rfl
                        refine pure_ (i := 2) (N := some 23) (v := ?_) (a' := ?_) #[true, true, true, false, false, false, false, false, false, false, false] rfl rfl (any_of HT_.out (by kernel_rfl)) (fun _ _ _ h => h) (Or.inl ⟨by rfl, ?_⟩) ?_ ?_
                        rotate_left
                        · intro w'
                          go_simp
                          with_reducible rfl
                        rotate_left
                        · simp only [Act.put, List.setIfInBounds_toArray, List.set_cons_zero, List.set_cons_succ, i64_w, i32_w]
                          rfl
                        refine pure_ (i := 3) (N := some 24) (v := ?_) (a' := ?_) #[true, true, true, true, false, false, false, false, false, false, false] rfl rfl (any_of HT_.out (by kernel_rfl)) (fun _ _ _ h => h) (Or.inl ⟨by rfl, ?_⟩) ?_ ?_
                        rotate_left
                        · intro w'
                          go_simp
                          with_reducible rfl
                        rotate_left
                        · simp only [Act.put, List.setIfInBounds_toArray, List.set_cons_zero, List.set_cons_succ, i64_w, i32_w]
                          rfl
                        refine pure_ (i := 4) (N := some 25) (v := ?_) (a' := ?_) #[true, true, true, true, true, false, false, false, false, false, false] rfl rfl (any_of HT_.out (by kernel_rfl)) (fun _ _ _ h => h) (Or.inl ⟨by rfl, ?_⟩) ?_ ?_
                        rotate_left
                        · intro w'
                          go_simp
                          with_reducible rfl
                        rotate_left
                        · simp only [Act.put, List.setIfInBounds_toArray, List.set_cons_zero, List.set_cons_succ, i64_w, i32_w]
                          rfl
                        refine pure_ (i := 5) (N := some 26) (v := ?_) (a' := ?_) #[true, true, true, true, true, true, false, false, false, false, false] rfl rfl (any_of HT_.out (by kernel_rfl)) (fun _ _ _ h => h) (Or.inl ⟨by rfl, ?_⟩) ?_ ?_
                        rotate_left
                        · intro w'
                          go_simp
                          with_reducible rfl
                        rotate_left
                        · simp only [Act.put, List.setIfInBounds_toArray, List.set_cons_zero, List.set_cons_succ, i64_w, i32_w]
                          rfl
                        refine pure_ (i := 6) (N := some 27) (v := ?_) (a' := ?_) #[true, true, true, true, true, true, true, false, false, false, false] rfl rfl (any_of HT_.out (by kernel_rfl)) (fun _ _ _ h => h) (Or.inl ⟨by rfl, ?_⟩) ?_ ?_
                        rotate_left
                        · intro w'
                          go_simp
                          with_reducible rfl
                        rotate_left
                        · simp only [Act.put, List.setIfInBounds_toArray, List.set_cons_zero, List.set_cons_succ, i64_w, i32_w]
                          rfl
                        refine take_ (i := 7) (N := some 28) (v := ?_) (a' := ?_) #[true, true, true, true, true, true, true, true, false, false, false] rfl rfl (take_ofW HT_.out HW_.out (by kernel_rfl)) (fun _ _ _ h => h) (Or.inl ⟨by rfl, ?_⟩) hHeld ?_ ?_
                        rotate_left
                        · rintro w' ⟨s0, s1, s2, s3, s4, s5, s6, s7, s8, s9, s10, s11, s12, s13⟩
                          go_simp
                          with_reducible rfl
                        rotate_left
                        · simp only [Act.put, List.setIfInBounds_toArray, List.set_cons_zero, List.set_cons_succ, i64_w, i32_w]
                          rfl
                        refine take_ (i := 8) (N := some 29) (v := ?_) (a' := ?_) #[true, true, true, true, true, true, true, true, true, false, false] rfl rfl (take_ofW HT_.out HW_.out (by kernel_rfl)) (fun _ _ _ h => h) (Or.inl ⟨by rfl, ?_⟩) hHeld ?_ ?_
                        rotate_left
                        · rintro w' ⟨s0, s1, s2, s3, s4, s5, s6, s7, s8, s9, s10, s11, s12, s13⟩
                          go_simp
                          with_reducible rfl
                        rotate_left
                        · simp only [Act.put, List.setIfInBounds_toArray, List.set_cons_zero, List.set_cons_succ, i64_w, i32_w]
                          rfl
                        refine one_ (i := 9) (N := some 30) #[true, true, true, true, true, true, true, true, true, true, false] rfl rfl (one_of HT_.out (by kernel_rfl)) (by decide) (fun K hK => ?_)
                        refine goes_ Try.func71 (by kernel_rfl) rfl #[.int .i64 a0, .agg #[.int .i64 ((rd_T56 x5_1 (ji9)).f0), .int .i64 ((rd_T56 x5_1 (ji9)).f1), .int .i64 ((rd_T56 x5_1 (ji9)).f2), .int .i64 ((rd_T56 x5_1 (ji9)).f3), .int .u64 ((rd_T56 x5_1 (ji9)).f4), .int .i64 ((rd_T56 x5_1 (ji9)).f5), .slice A119_6 ((rd_T56 x5_1 (ji9)).f6).length c119_6], .agg #[.int .i64 ((rd_T56 l1 x14_1).f0), .int .i64 ((rd_T56 l1 x14_1).f1), .int .i64 ((rd_T56 l1 x14_1).f2), .int .i64 ((rd_T56 l1 x14_1).f3), .int .u64 ((rd_T56 l1 x14_1).f4), .int .i64 ((rd_T56 l1 x14_1).f5), .slice A117_6 ((rd_T56 l1 x14_1).f6).length c117_6]] (by rfl) rfl rfl (by (try simp only [List.map_toArray, List.map_cons, List.map_nil]); first | done | (simp only [hji9]; rfl) | rfl | (simp only [List.length_drop, List.length_take]; rfl)) ?_
                        with_reducible refine (event_joins.calls a0 ((rd_T56 x5_1 (ji9)).f0) ((rd_T56 x5_1 (ji9)).f1) ((rd_T56 x5_1 (ji9)).f2) ((rd_T56 x5_1 (ji9)).f3) ((rd_T56 x5_1 (ji9)).f4) ((rd_T56 x5_1 (ji9)).f5) _ _ ((rd_T56 x5_1 (ji9)).f6) ((rd_T56 l1 x14_1).f0) ((rd_T56 l1 x14_1).f1) ((rd_T56 l1 x14_1).f2) ((rd_T56 l1 x14_1).f3) ((rd_T56 l1 x14_1).f4) ((rd_T56 l1 x14_1).f5) _ _ ((rd_T56 l1 x14_1).f6) false _ ?side1 ?side2 ?side3 ?side4 A12.out).mono ?_
                        (case side1 => repeat (first | exact (by repeat (first | (with_reducible exact HR119_6.out) | (with_reducible refine Kd.C_alloc ?_ _) | (with_reducible refine Kd.C_drewN ?_ _) | (with_reducible refine Kd.C_drew ?_) | exact HR119_6.out)) | (with_reducible refine Kd.C_alloc ?_ _) | (with_reducible refine Kd.C_drewN ?_ _) | (with_reducible refine Kd.C_drew ?_)))
                        (case side2 => exact HC119_6.out)
                        (case side3 => repeat (first | exact (Kd.C_below HR117_6.out HB.out) | (with_reducible refine Kd.C_alloc ?_ _) | (with_reducible refine Kd.C_drewN ?_ _) | (with_reducible refine Kd.C_drew ?_)))
                        (case side4 => exact HC117_6.out)
                        rintro e w30 ⟨rfl, hb⟩
                        have HS7_ := (hb.cell (World.block_lt_of_cell? _ _ (hHeld.2.2.2.2.2.2.2.1))).trans (hHeld.2.2.2.2.2.2.2.1)
                        have HS8_ := (hb.cell (World.block_lt_of_cell? _ _ (hHeld.2.2.2.2.2.2.2.2.1))).trans (hHeld.2.2.2.2.2.2.2.2.1)
                        have HS9_ := (hb.cell (World.block_lt_of_cell? _ _ (hHeld.2.2.2.2.2.2.2.2.2.1))).trans (hHeld.2.2.2.2.2.2.2.2.2.1)
                        have HS10_ := (hb.cell (World.block_lt_of_cell? _ _ (hHeld.2.2.2.2.2.2.2.2.2.2.1))).trans (hHeld.2.2.2.2.2.2.2.2.2.2.1)
                        have HS11_ := (hb.cell (World.block_lt_of_cell? _ _ (hHeld.2.2.2.2.2.2.2.2.2.2.2.1))).trans (hHeld.2.2.2.2.2.2.2.2.2.2.2.1)
                        have HS12_ := (hb.cell (World.block_lt_of_cell? _ _ (hHeld.2.2.2.2.2.2.2.2.2.2.2.2.1))).trans (hHeld.2.2.2.2.2.2.2.2.2.2.2.2.1)
                        have HS13_ := (hb.cell (World.block_lt_of_cell? _ _ (hHeld.2.2.2.2.2.2.2.2.2.2.2.2.2))).trans (hHeld.2.2.2.2.2.2.2.2.2.2.2.2.2)
                        refine ⟨_, rfl, ?_⟩
                        have n0_ := Aside0.mk (Kd.S_below (by (with_reducible repeat (first | apply Kd.S_alloc | apply Kd.S_drewN | apply Kd.S_drew)); exact HO_5.out) hb)
                        have n1_ := Aside0.mk (Kd.R_below (by (with_reducible repeat (first | apply Kd.R_alloc | apply Kd.R_drewN | apply Kd.R_drew)); exact HL119_6.out) hb)
                        have n2_ := Aside0.mk (blk_below (g := gb118) (o := .cells #[.int .i64 ((rd_T56 l1 x14_1).f0), .int .i64 ((rd_T56 l1 x14_1).f1), .int .i64 ((rd_T56 l1 x14_1).f2), .int .i64 ((rd_T56 l1 x14_1).f3), .int .u64 ((rd_T56 l1 x14_1).f4), .int .i64 ((rd_T56 l1 x14_1).f5), .slice A117_6 ((rd_T56 l1 x14_1).f6).length c117_6] 56 (0, 0)) (by (with_reducible repeat (first | refine blk_drewN ?_ _ | refine blk_drew ?_ | refine blk_alloc ?_ _)); exact BK118.out) hb)
                        have n3_ := Aside0.mk (Kd.C_below (by repeat (first | (with_reducible exact HR119_6.out) | (with_reducible refine Kd.C_alloc ?_ _) | (with_reducible refine Kd.C_drewN ?_ _) | (with_reducible refine Kd.C_drew ?_) | exact HR119_6.out)) hb)
                        have n4_ := Aside0.mk (below_step (by repeat (first | (with_reducible first | exact HB.out | apply below_alloc | apply pw_below_drewN | apply below_drew1 | refine below_set ?_ GE118.out) | exact HB.out)) hb)
                        clear HO_5
                        clear HL119_6
                        clear BK118
                        clear HR119_6
                        clear HB
                        have HO_5 := n0_
                        have HL119_6 := n1_
                        have BK118 := n2_
                        have HR119_6 := n3_
                        have HB := n4_
                        clear n0_ n1_ n2_ n3_ n4_
                        (try clear hb)
                        (try clear hb2)
                        (try clear hk)
                        (try clear hi)
                        refine hK.out _ _ ⟨(blk_cell BK118.out 0).trans rfl, (blk_cell BK118.out 1).trans rfl, (blk_cell BK118.out 2).trans rfl, (blk_cell BK118.out 3).trans rfl, (blk_cell BK118.out 4).trans rfl, (blk_cell BK118.out 5).trans rfl, (blk_cell BK118.out 6).trans rfl, HS7_, HS8_, HS9_, HS10_, HS11_, HS12_, HS13_⟩ (fun hHeld => ?_)
                        clear hK K
                        refine norm_ (a' := ?_) ?_ ?_
                        rotate_left
                        · show Act.put _ (some 30) _ = _
                          simp only [Act.put, List.setIfInBounds_toArray, List.set_cons_zero, List.set_cons_succ, i64_w, i32_w]
                          rfl
                        refine pure_ (i := 10) (N := some 31) (v := ?_) (a' := ?_) #[true, true, true, true, true, true, true, true, true, true, true] rfl rfl (any_of HT_.out (by kernel_rfl)) (fun _ _ _ h => h) (Or.inl ⟨by rfl, ?_⟩) ?_ ?_
                        rotate_left
                        · intro w'
                          go_simp
                          with_reducible rfl
                        rotate_left
                        · simp only [Act.put, List.setIfInBounds_toArray, List.set_cons_zero, List.set_cons_succ, i64_w, i32_w]
                          rfl
                        refine done_ (done_of HT_.out (by kernel_rfl)) ?_
                        have hcz31_0 : w30.cell? ⟨gb118, 0, none⟩ = some (.int .i64 ((rd_T56 l1 x14_1).f0)) := (blk_cell BK118.out 0).trans rfl
                        have hcz31_1 : w30.cell? ⟨gb118, 1, none⟩ = some (.int .i64 ((rd_T56 l1 x14_1).f1)) := (blk_cell BK118.out 1).trans rfl
                        have hcz31_2 : w30.cell? ⟨gb118, 2, none⟩ = some (.int .i64 ((rd_T56 l1 x14_1).f2)) := (blk_cell BK118.out 2).trans rfl
                        have hcz31_3 : w30.cell? ⟨gb118, 3, none⟩ = some (.int .i64 ((rd_T56 l1 x14_1).f3)) := (blk_cell BK118.out 3).trans rfl
                        have hcz31_4 : w30.cell? ⟨gb118, 4, none⟩ = some (.int .u64 ((rd_T56 l1 x14_1).f4)) := (blk_cell BK118.out 4).trans rfl
                        have hcz31_5 : w30.cell? ⟨gb118, 5, none⟩ = some (.int .i64 ((rd_T56 l1 x14_1).f5)) := (blk_cell BK118.out 5).trans rfl
                        have hcz31_6 : w30.cell? ⟨gb118, 6, none⟩ = some (.slice A117_6 ((rd_T56 l1 x14_1).f6).length c117_6) := (blk_cell BK118.out 6).trans rfl
                        have hfz31_0 := blk_frozen BK118.out 0
                        have hfz31_1 := blk_frozen BK118.out 1
                        have hfz31_2 := blk_frozen BK118.out 2
                        have hfz31_3 := blk_frozen BK118.out 3
                        have hfz31_4 := blk_frozen BK118.out 4
                        have hfz31_5 := blk_frozen BK118.out 5
                        have hfz31_6 := blk_frozen BK118.out 6
                        try go_wp2_with (first | ((with_reducible refine gate_callee (f := 69) rfl ?_); refine goesL_ (some 56) rfl rfl Try.func69 (by kernel_rfl) rfl #[.agg #[.int .i64 ((rd_T56 l1 x14_1).f0), .int .i64 ((rd_T56 l1 x14_1).f1), .int .i64 ((rd_T56 l1 x14_1).f2), .int .i64 ((rd_T56 l1 x14_1).f3), .int .u64 ((rd_T56 l1 x14_1).f4), .int .i64 ((rd_T56 l1 x14_1).f5), .slice A117_6 ((rd_T56 l1 x14_1).f6).length c117_6]] rfl (by (try simp only [List.map_toArray, List.map_cons, List.map_nil]); first | done | rfl | (simp only [List.length_drop, List.length_take]; rfl)) ?_; (with_reducible refine (event_copied.calls ((rd_T56 l1 x14_1).f0) ((rd_T56 l1 x14_1).f1) ((rd_T56 l1 x14_1).f2) ((rd_T56 l1 x14_1).f3) ((rd_T56 l1 x14_1).f4) ((rd_T56 l1 x14_1).f5) _ _ ((rd_T56 l1 x14_1).f6) t123 t124 t125 t126 t127 t128 t129 _ ?side1 ?side2 A23.out).mono ?_); (case side1 => repeat (first | exact (Kd.C_below HR117_6.out HB.out) | (with_reducible refine Kd.C_alloc ?_ _) | (with_reducible refine Kd.C_drewN ?_ _) | (with_reducible refine Kd.C_drew ?_))); (case side2 => exact HC117_6.out); rintro e w32 ⟨v130, rfl, ho0, hb⟩; refine ⟨_, rfl, ?_⟩; have n0_ := Aside0.mk (Kd.S_elder' (by (with_reducible repeat (first | apply Kd.S_alloc | apply Kd.S_drewN | apply Kd.S_drew)); exact HO_5.out) (Kd.R_base ho0) hb); have n1_ := Aside0.mk (Kd.R_elder' (by (with_reducible repeat (first | apply Kd.R_alloc | apply Kd.R_drewN | apply Kd.R_drew)); exact HL119_6.out) (Kd.R_base ho0) hb); have n2_ := Aside0.mk (Kd.R_lower (Kd.R_new' ho0 (Kd.R_lt (by (with_reducible repeat (first | apply Kd.R_alloc | apply Kd.R_drewN | apply Kd.R_drew)); exact HL119_6.out))) (below_size (by repeat (first | (with_reducible first | exact HB.out | apply below_alloc | apply pw_below_drewN | apply below_drew1 | refine below_set ?_ GE118.out) | exact HB.out)))); have n3_ := Aside0.mk (blk_below (g := gb118) (o := .cells #[.int .i64 ((rd_T56 l1 x14_1).f0), .int .i64 ((rd_T56 l1 x14_1).f1), .int .i64 ((rd_T56 l1 x14_1).f2), .int .i64 ((rd_T56 l1 x14_1).f3), .int .u64 ((rd_T56 l1 x14_1).f4), .int .i64 ((rd_T56 l1 x14_1).f5), .slice A117_6 ((rd_T56 l1 x14_1).f6).length c117_6] 56 (0, 0)) (by (with_reducible repeat (first | refine blk_drewN ?_ _ | refine blk_drew ?_ | refine blk_alloc ?_ _)); exact BK118.out) hb); have n4_ := Aside0.mk (Kd.C_below (by repeat (first | (with_reducible exact HR119_6.out) | (with_reducible refine Kd.C_alloc ?_ _) | (with_reducible refine Kd.C_drewN ?_ _) | (with_reducible refine Kd.C_drew ?_) | exact HR119_6.out)) hb); have n5_ := Aside0.mk (below_step (by repeat (first | (with_reducible first | exact HB.out | apply below_alloc | apply pw_below_drewN | apply below_drew1 | refine below_set ?_ GE118.out) | exact HB.out)) hb); clear HO_5; clear HL119_6; clear BK118; clear HR119_6; clear HB; have HO_5 := n0_; have HL119_6 := n1_; have HO131 := n2_; have BK118 := n3_; have HR119_6 := n4_; have HB := n5_; clear n0_ n1_ n2_ n3_ n4_ n5_; (try clear hb); (try clear hb2); (try clear hk); (try clear hi); (try clear ho0); obtain ⟨Ao34, co34, eo34⟩ := Kd.R_slice HO131.out; subst eo34) | ((with_reducible refine gate_builtin (b := .append) (xs := #[.tmp 54, .tmp 57]) rfl ?_); at_builtin; refine Kd.S_append k56 (w0 := w) w.heap.size rfl (.tmp 54) (.tmp 57) 49 56 (.agg #[(.int .i64 0), (.int .i64 0), (.int .i64 0), (.int .i64 0), (.int .u64 0), (.int .i64 0), (.slice none 0 0)]) 72 rfl Try.underlying49 info56 rfl (by decide) (by omega) (.slice (some ad119) x5_1.length co27) x5_1 (⟨t123, t124, t125, t126, t127, t128, t129⟩ : S56) [.int .i64 t123, .int .i64 t124, .int .i64 t125, .int .i64 t126, .int .u64 t127, .int .i64 t128, .slice Ao34 t129.length co34] (fun k_ => k_ ≠ gb118) (fun k_ => some k_ = (.slice Ao34 t129.length co34 : Value).ownBlock) rfl rfl ?aP (fun k_ hk_ => ((Kd.R_mono (ok' := fun k_ => ((fun k_ => k_ ≠ gb118)) k_ ∧ some k_ ≠ (.slice (some ad119) x5_1.length co27 : Value).ownBlock) (Kd.R_types (Kd.R_apart' (HO131.out) (Kd.S_typed HO_5.out) (by decide)) BK118.out (by decide)) (fun k_ hk => ⟨hk.2, hk.1.2⟩))).1 k_ hk_.symm) ?aF ?aO ?aB ?aS ?aL ?_; (case aP => exact k56_mkM _ _ _ (⟨t123, t124, t125, t126, t127, t128, t129⟩ : S56) (Kd.R_mono (Kd.R_tight rfl (Kd.R_mono (ok' := fun k_ => ((fun k_ => k_ ≠ gb118)) k_ ∧ some k_ ≠ (.slice (some ad119) x5_1.length co27 : Value).ownBlock) (Kd.R_types (Kd.R_apart' (HO131.out) (Kd.S_typed HO_5.out) (by decide)) BK118.out (by decide)) (fun k_ hk => ⟨hk.2, hk.1.2⟩))) (fun _ h_ => h_))); (case aB => exact (by repeat (first | (with_reducible first | exact HB.out | apply below_alloc | apply pw_below_drewN | apply below_drew1 | refine below_set ?_ GE118.out) | exact HB.out))); (case aF => exact (fun k_ hk => Kd.freshB (g := gb118) (o := .cells #[.int .i64 ((rd_T56 l1 x14_1).f0), .int .i64 ((rd_T56 l1 x14_1).f1), .int .i64 ((rd_T56 l1 x14_1).f2), .int .i64 ((rd_T56 l1 x14_1).f3), .int .u64 ((rd_T56 l1 x14_1).f4), .int .i64 ((rd_T56 l1 x14_1).f5), .slice A117_6 ((rd_T56 l1 x14_1).f6).length c117_6] 56 (0, 0)) (by (with_reducible repeat (first | refine blk_drewN ?_ _ | refine blk_drew ?_ | refine blk_alloc ?_ _)); exact BK118.out) k_ hk)); (case aO => exact (by (with_reducible repeat (first | apply Kd.S_alloc | apply Kd.S_drewN | apply Kd.S_drew)); exact Kd.S_mono HO_5.out (fun k_ hk => ⟨hk.1, fun e_ => hk.2 e_⟩))); (case aS => exact (below_size (by repeat (first | (with_reducible first | exact HB.out | apply below_alloc | apply pw_below_drewN | apply below_drew1 | refine below_set ?_ GE118.out) | exact HB.out)))); (case aL => have := LMc24.out; omega); intro v133 w33 ho hb hg hat; rw [← Ny132.out] at ho; have n0_ := Aside0.mk (blk_grown (g := gb118) (o := .cells #[.int .i64 ((rd_T56 l1 x14_1).f0), .int .i64 ((rd_T56 l1 x14_1).f1), .int .i64 ((rd_T56 l1 x14_1).f2), .int .i64 ((rd_T56 l1 x14_1).f3), .int .u64 ((rd_T56 l1 x14_1).f4), .int .i64 ((rd_T56 l1 x14_1).f5), .slice A117_6 ((rd_T56 l1 x14_1).f6).length c117_6] 56 (0, 0)) (by (with_reducible repeat (first | refine blk_drewN ?_ _ | refine blk_drew ?_ | refine blk_alloc ?_ _)); exact BK118.out) hg (Kd.S_away HO_5.out (fun _ hk => hk.1))); have n1_ := Aside0.mk (Kd.R_after (ok := (fun k_ => some k_ ≠ (.slice Ao34 t129.length co34 : Value).ownBlock ∧ k_ ≠ gb118)) (by (with_reducible repeat (first | apply Kd.R_alloc | apply Kd.R_drewN | apply Kd.R_drew)); exact Kd.R_mono HL119_6.out (fun _ hk => ⟨⟨hk.2, hk.1.1⟩, hk.1.2⟩)) hg hat); have n2_ := Aside0.mk (hb); have n3_ := Aside0.mk (ho); clear BK118; clear HL119_6; clear HB; clear HO_5; clear HO131; have BK118 := n0_; have HL119_6 := n1_; have HB := n2_; have HO134 := n3_; clear n0_ n1_ n2_ n3_; clear ho hb hg hat))
                        go_roundg k1
                        case measure => have := HK1.out; omega
                        case rel => exact ⟨(y132), (wrap64 (x14_1 + 1)), (by first | rfl | (simp; done) | (simp [*]; done)), H', ⟨by have := HK1.out; omega⟩, ⟨by (with_reducible repeat (first | apply Kd.S_alloc | apply Kd.S_drewN | apply Kd.S_drew)); exact Kd.S_mono HO134.out (fun _ hk => trivial)⟩, ⟨by repeat (first | (with_reducible first | exact HB.out | apply below_alloc | apply pw_below_drewN | apply below_drew1 | refine below_set ?_ GE118.out) | exact HB.out)⟩⟩
                      · rw [if_neg c24] at H
                        exact absurd H (by simp)
                  · rw [if_neg c11] at H
                    exact absurd H (by simp)
                · rw [if_neg c10] at H
                  exact absurd H (by simp)
              · rw [if_neg c8] at H
                have c8b0 : decide (0 ≤ (wrap64 ((x5_1.length : Int) - 1))) = false := decide_eq_false c8
                clear c8
                replace H := Option.bind_eq_some_iff.mp H
                obtain ⟨⟨t135, t136, t137, t138, t139, t140, t141⟩, A350, H⟩ := H
                replace H : (if x5_1.length < 1954687338268 then (event_Merge.l0 k1 a0 (x5_1 ++ [(⟨t135, t136, t137, t138, t139, t140, t141⟩ : S56)]) l1 (l1.length : Int) (wrap64 (x14_1 + 1))) else (none)) = some r := H
                have A35 := Aside0.mk A350
                clear A350
                by_cases c36 : x5_1.length < 1954687338268
                · rw [if_pos c36] at H
                  have LMc36 := Aside0.mk c36
                  clear c36
                  obtain ⟨y144, hy144⟩ : ∃ y_ : List (S56), y_ = (x5_1 ++ [(⟨t135, t136, t137, t138, t139, t140, t141⟩ : S56)]) := ⟨_, rfl⟩
                  replace H : (event_Merge.l0 k1 a0 y144 l1 (l1.length : Int) (wrap64 (x14_1 + 1))) = some r := by first | (rw [hy144]; with_reducible exact H) | (have H2_ := (Option.bind_some _ _).symm.trans H; rw [hy144]; with_reducible exact H2_) | (have H2_ := (Option.bind_some _ _).symm.trans H; with_reducible exact H2_) | with_reducible exact H | (rw [hy144]; exact H) | exact H
                  have Ny144 := Aside0.mk hy144
                  clear hy144
                  have H' := Aside0.mk H
                  clear H
                  have p117 : 0 ≤ (x14_1 : Int) := of_decide_eq_true (by first | (with_reducible assumption) | assumption)
                  have q117 : x14_1 < (l1.length : Int) := of_decide_eq_true (by first | (with_reducible assumption) | assumption)
                  obtain ⟨ad117, A117_6, c117_6, e117, hx117_0, hx117_1, hx117_2, hx117_3, hx117_4, hx117_5, hx117_6, hl117_6, hi117_6⟩ := at_T56 HR1.out x14_1 p117 q117
                  cases e117
                  replace hx117_0 := (HB.out.cell (World.block_lt_of_cell? w _ hx117_0)).trans hx117_0
                  replace hx117_1 := (HB.out.cell (World.block_lt_of_cell? w _ hx117_1)).trans hx117_1
                  replace hx117_2 := (HB.out.cell (World.block_lt_of_cell? w _ hx117_2)).trans hx117_2
                  replace hx117_3 := (HB.out.cell (World.block_lt_of_cell? w _ hx117_3)).trans hx117_3
                  replace hx117_4 := (HB.out.cell (World.block_lt_of_cell? w _ hx117_4)).trans hx117_4
                  replace hx117_5 := (HB.out.cell (World.block_lt_of_cell? w _ hx117_5)).trans hx117_5
                  replace hx117_6 := (HB.out.cell (World.block_lt_of_cell? w _ hx117_6)).trans hx117_6
                  have HR117_6 := Aside0.mk hi117_6
                  have HC117_6 := Aside0.mk hl117_6
                  clear hi117_6 hl117_6
                  replace p117 := eq_true p117
                  replace q117 := eq_true q117
                  try go_wp2_with (first | ((with_reducible refine gate_dst (N := 7) rfl ?_); refine box_event ?hg (N := 7) ?hd (cs := #[.int .i64 0, .int .i64 0, .int .i64 0, .int .i64 0, .int .u64 0, .int .i64 0, .slice none 0 0]) (t := 56) ?hr ?_; (case hd => rfl); (case hg => rfl); (case hr => first | (go_simp; done) | (go_simp; rfl)); intro gb118 hg w37 hbox hb; have n0_ := Aside0.mk (Kd.S_below (Kd.S_elderB (by (with_reducible repeat (first | apply Kd.S_alloc | apply Kd.S_drewN | apply Kd.S_drew)); exact HO_5.out) gb118 (Nat.le_of_eq hg.symm)) hb); have n1_ := Aside0.mk (below_step (by repeat (first | (with_reducible first | exact HB.out | apply below_alloc | apply pw_below_drewN | apply below_drew1) | exact HB.out)) hb); have n2_ := Aside0.mk (hbox); have n3_ := Aside0.mk ((by rw [hg]; exact (below_size (by repeat (first | (with_reducible first | exact HB.out | apply below_alloc | apply pw_below_drewN | apply below_drew1) | exact HB.out))) : w.heap.size ≤ gb118)); have n4_ := Aside0.mk ((by rw [hg]; exact (below_size (by repeat (first | (with_reducible first | exact HB.out | apply below_alloc | apply pw_below_drewN | apply below_drew1) | exact HB.out))) : w.heap.size ≤ gb118)); clear HO_5; clear HB; have HO_5 := n0_; have HB := n1_; have BK118 := n2_; have GW118 := n3_; have GE118 := n4_; clear n0_ n1_ n2_ n3_ n4_; clear hb hbox hg; have hcz38_0 : w37.cell? ⟨gb118, 0, none⟩ = some (.int .i64 0) := (blk_cell BK118.out 0).trans rfl; have hcz38_1 : w37.cell? ⟨gb118, 1, none⟩ = some (.int .i64 0) := (blk_cell BK118.out 1).trans rfl; have hcz38_2 : w37.cell? ⟨gb118, 2, none⟩ = some (.int .i64 0) := (blk_cell BK118.out 2).trans rfl; have hcz38_3 : w37.cell? ⟨gb118, 3, none⟩ = some (.int .i64 0) := (blk_cell BK118.out 3).trans rfl; have hcz38_4 : w37.cell? ⟨gb118, 4, none⟩ = some (.int .u64 0) := (blk_cell BK118.out 4).trans rfl; have hcz38_5 : w37.cell? ⟨gb118, 5, none⟩ = some (.int .i64 0) := (blk_cell BK118.out 5).trans rfl; have hcz38_6 : w37.cell? ⟨gb118, 6, none⟩ = some (.slice none 0 0) := (blk_cell BK118.out 6).trans rfl; have hfz38_0 := blk_frozen BK118.out 0; have hfz38_1 := blk_frozen BK118.out 1; have hfz38_2 := blk_frozen BK118.out 2; have hfz38_3 := blk_frozen BK118.out 3; have hfz38_4 := blk_frozen BK118.out 4; have hfz38_5 := blk_frozen BK118.out 5; have hfz38_6 := blk_frozen BK118.out 6; obtain ⟨Ao39, co39, eo39⟩ := Kd.S_slice HO_5.out; subst eo39))
                  have n0_ : Aside0 (Kd.S k56 56 (((((((w37.setCell ⟨gb118, 0, none⟩ (.int .i64 ((rd_T56 l1 x14_1).f0))).setCell ⟨gb118, 1, none⟩ (.int .i64 ((rd_T56 l1 x14_1).f1))).setCell ⟨gb118, 2, none⟩ (.int .i64 ((rd_T56 l1 x14_1).f2))).setCell ⟨gb118, 3, none⟩ (.int .i64 ((rd_T56 l1 x14_1).f3))).setCell ⟨gb118, 4, none⟩ (.int .u64 ((rd_T56 l1 x14_1).f4))).setCell ⟨gb118, 5, none⟩ (.int .i64 ((rd_T56 l1 x14_1).f5))).setCell ⟨gb118, 6, none⟩ (.slice A117_6 ((rd_T56 l1 x14_1).f6).length c117_6)) w.heap.size (fun k_ => k_ ≠ gb118) (.slice Ao39 x5_1.length co39) x5_1) := ⟨by (with_reducible repeat (first | apply Kd.S_alloc | apply Kd.S_drewN | apply Kd.S_drew)); exact Kd.S_mono (Kd.S_far (p := ⟨gb118, 6, none⟩) (Kd.S_far (p := ⟨gb118, 5, none⟩) (Kd.S_far (p := ⟨gb118, 4, none⟩) (Kd.S_far (p := ⟨gb118, 3, none⟩) (Kd.S_far (p := ⟨gb118, 2, none⟩) (Kd.S_far (p := ⟨gb118, 1, none⟩) (Kd.S_far (p := ⟨gb118, 0, none⟩) (Kd.S_mono HO_5.out (fun k_ hk => (⟨hk, hk.2⟩ : _ ∧ k_ ≠ gb118))) (fun _ hk => hk.2) (.int .i64 ((rd_T56 l1 x14_1).f0))) (fun _ hk => hk.2) (.int .i64 ((rd_T56 l1 x14_1).f1))) (fun _ hk => hk.2) (.int .i64 ((rd_T56 l1 x14_1).f2))) (fun _ hk => hk.2) (.int .i64 ((rd_T56 l1 x14_1).f3))) (fun _ hk => hk.2) (.int .u64 ((rd_T56 l1 x14_1).f4))) (fun _ hk => hk.2) (.int .i64 ((rd_T56 l1 x14_1).f5))) (fun _ hk => hk.2) (.slice A117_6 ((rd_T56 l1 x14_1).f6).length c117_6)) (fun _ hk => hk.1.2)⟩
                  have n1_ : Aside0 ((((((((w37.setCell ⟨gb118, 0, none⟩ (.int .i64 ((rd_T56 l1 x14_1).f0))).setCell ⟨gb118, 1, none⟩ (.int .i64 ((rd_T56 l1 x14_1).f1))).setCell ⟨gb118, 2, none⟩ (.int .i64 ((rd_T56 l1 x14_1).f2))).setCell ⟨gb118, 3, none⟩ (.int .i64 ((rd_T56 l1 x14_1).f3))).setCell ⟨gb118, 4, none⟩ (.int .u64 ((rd_T56 l1 x14_1).f4))).setCell ⟨gb118, 5, none⟩ (.int .i64 ((rd_T56 l1 x14_1).f5))).setCell ⟨gb118, 6, none⟩ (.slice A117_6 ((rd_T56 l1 x14_1).f6).length c117_6)).heap[gb118]? = some (.cells #[.int .i64 ((rd_T56 l1 x14_1).f0), .int .i64 ((rd_T56 l1 x14_1).f1), .int .i64 ((rd_T56 l1 x14_1).f2), .int .i64 ((rd_T56 l1 x14_1).f3), .int .u64 ((rd_T56 l1 x14_1).f4), .int .i64 ((rd_T56 l1 x14_1).f5), .slice A117_6 ((rd_T56 l1 x14_1).f6).length c117_6] 56 (0, 0))) := ⟨by (with_reducible repeat (first | refine blk_drewN ?_ _ | refine blk_drew ?_ | refine blk_alloc ?_ _)); refine blk_put (cs := #[.int .i64 ((rd_T56 l1 x14_1).f0), .int .i64 ((rd_T56 l1 x14_1).f1), .int .i64 ((rd_T56 l1 x14_1).f2), .int .i64 ((rd_T56 l1 x14_1).f3), .int .u64 ((rd_T56 l1 x14_1).f4), .int .i64 ((rd_T56 l1 x14_1).f5), .slice none 0 0]) ?_ 6 _ rfl; (with_reducible repeat (first | refine blk_drewN ?_ _ | refine blk_drew ?_ | refine blk_alloc ?_ _)); refine blk_put (cs := #[.int .i64 ((rd_T56 l1 x14_1).f0), .int .i64 ((rd_T56 l1 x14_1).f1), .int .i64 ((rd_T56 l1 x14_1).f2), .int .i64 ((rd_T56 l1 x14_1).f3), .int .u64 ((rd_T56 l1 x14_1).f4), .int .i64 0, .slice none 0 0]) ?_ 5 _ rfl; (with_reducible repeat (first | refine blk_drewN ?_ _ | refine blk_drew ?_ | refine blk_alloc ?_ _)); refine blk_put (cs := #[.int .i64 ((rd_T56 l1 x14_1).f0), .int .i64 ((rd_T56 l1 x14_1).f1), .int .i64 ((rd_T56 l1 x14_1).f2), .int .i64 ((rd_T56 l1 x14_1).f3), .int .u64 0, .int .i64 0, .slice none 0 0]) ?_ 4 _ rfl; (with_reducible repeat (first | refine blk_drewN ?_ _ | refine blk_drew ?_ | refine blk_alloc ?_ _)); refine blk_put (cs := #[.int .i64 ((rd_T56 l1 x14_1).f0), .int .i64 ((rd_T56 l1 x14_1).f1), .int .i64 ((rd_T56 l1 x14_1).f2), .int .i64 0, .int .u64 0, .int .i64 0, .slice none 0 0]) ?_ 3 _ rfl; (with_reducible repeat (first | refine blk_drewN ?_ _ | refine blk_drew ?_ | refine blk_alloc ?_ _)); refine blk_put (cs := #[.int .i64 ((rd_T56 l1 x14_1).f0), .int .i64 ((rd_T56 l1 x14_1).f1), .int .i64 0, .int .i64 0, .int .u64 0, .int .i64 0, .slice none 0 0]) ?_ 2 _ rfl; (with_reducible repeat (first | refine blk_drewN ?_ _ | refine blk_drew ?_ | refine blk_alloc ?_ _)); refine blk_put (cs := #[.int .i64 ((rd_T56 l1 x14_1).f0), .int .i64 0, .int .i64 0, .int .i64 0, .int .u64 0, .int .i64 0, .slice none 0 0]) ?_ 1 _ rfl; (with_reducible repeat (first | refine blk_drewN ?_ _ | refine blk_drew ?_ | refine blk_alloc ?_ _)); refine blk_put (cs := #[.int .i64 0, .int .i64 0, .int .i64 0, .int .i64 0, .int .u64 0, .int .i64 0, .slice none 0 0]) ?_ 0 _ rfl; (with_reducible repeat (first | refine blk_drewN ?_ _ | refine blk_drew ?_ | refine blk_alloc ?_ _)); exact BK118.out⟩
                  have n2_ : Aside0 (Below w.heap.size w (((((((w37.setCell ⟨gb118, 0, none⟩ (.int .i64 ((rd_T56 l1 x14_1).f0))).setCell ⟨gb118, 1, none⟩ (.int .i64 ((rd_T56 l1 x14_1).f1))).setCell ⟨gb118, 2, none⟩ (.int .i64 ((rd_T56 l1 x14_1).f2))).setCell ⟨gb118, 3, none⟩ (.int .i64 ((rd_T56 l1 x14_1).f3))).setCell ⟨gb118, 4, none⟩ (.int .u64 ((rd_T56 l1 x14_1).f4))).setCell ⟨gb118, 5, none⟩ (.int .i64 ((rd_T56 l1 x14_1).f5))).setCell ⟨gb118, 6, none⟩ (.slice A117_6 ((rd_T56 l1 x14_1).f6).length c117_6))) := ⟨by repeat (first | (with_reducible first | exact HB.out | apply below_alloc | apply pw_below_drewN | apply below_drew1 | refine below_set ?_ GE118.out) | exact HB.out)⟩
                  (try clear HO_5)
                  (try clear BK118)
                  (try clear HB)
                  generalize (((((((w37.setCell ⟨gb118, 0, none⟩ (.int .i64 ((rd_T56 l1 x14_1).f0))).setCell ⟨gb118, 1, none⟩ (.int .i64 ((rd_T56 l1 x14_1).f1))).setCell ⟨gb118, 2, none⟩ (.int .i64 ((rd_T56 l1 x14_1).f2))).setCell ⟨gb118, 3, none⟩ (.int .i64 ((rd_T56 l1 x14_1).f3))).setCell ⟨gb118, 4, none⟩ (.int .u64 ((rd_T56 l1 x14_1).f4))).setCell ⟨gb118, 5, none⟩ (.int .i64 ((rd_T56 l1 x14_1).f5))).setCell ⟨gb118, 6, none⟩ (.slice A117_6 ((rd_T56 l1 x14_1).f6).length c117_6)) = w40 at n0_ n1_ n2_ ⊢
                  have HO_5 := n0_
                  have BK118 := n1_
                  have HB := n2_
                  clear n0_ n1_ n2_
                  have n0_ := Aside0.mk (Kd.S_drew HO_5.out)
                  have n1_ := Aside0.mk (blk_drew BK118.out)
                  have n2_ := Aside0.mk (below_drew1 HB.out)
                  clear HO_5
                  clear BK118
                  clear HB
                  have HO_5 := n0_
                  have BK118 := n1_
                  have HB := n2_
                  clear n0_ n1_ n2_
                  refine start_ (n := 11) (S := fun w' => True) (ds := []) #[false, false, false, false, false, false, false, false, false, false, false] (by kernel_rfl) rfl rfl trivial (fun hHeld => ?_); refine with_tabW event_Merge.tab8 event_Merge.bits8 (fun HT_ HW_ => ?_)
                  generalize w40.drew = w41 at HO_5 BK118 HB hHeld ⊢
                  refine pure_ (i := 0) (N := some 21) (v := ?_) (a' := ?_) #[true, false, false, false, false, false, false, false, false, false, false] rfl rfl (any_of HT_.out (by kernel_rfl)) (fun _ _ _ h => h) (Or.inl ⟨by rfl, ?_⟩) ?_ ?_
                  rotate_left
                  · intro w'
                    go_simp
                    with_reducible rfl
                  rotate_left
                  · simp only [Act.put, List.setIfInBounds_toArray, List.set_cons_zero, List.set_cons_succ, i64_w, i32_w]
                    rfl
                  refine pure_ (i := 1) (N := some 22) (v := ?_) (a' := ?_) #[true, true, false, false, false, false, false, false, false, false, false] rfl rfl (any_of HT_.out (by kernel_rfl)) (fun _ _ _ h => h) (Or.inl ⟨by rfl, ?_⟩) ?_ ?_
                  rotate_left
                  · intro w'
                    go_simp
                    with_reducible rfl
                  rotate_left
                  · simp only [Act.put, List.setIfInBounds_toArray, List.set_cons_zero, List.set_cons_succ, i64_w, i32_w]
                    rfl
                  refine pure_ (i := 2) (N := some 23) (v := ?_) (a' := ?_) #[true, true, true, false, false, false, false, false, false, false, false] rfl rfl (any_of HT_.out (by kernel_rfl)) (fun _ _ _ h => h) (Or.inl ⟨by rfl, ?_⟩) ?_ ?_
                  rotate_left
                  · intro w'
                    go_simp
                    with_reducible rfl
                  rotate_left
                  · simp only [Act.put, List.setIfInBounds_toArray, List.set_cons_zero, List.set_cons_succ, i64_w, i32_w]
                    rfl
                  refine pure_ (i := 3) (N := some 24) (v := undef) (a' := ?_) #[true, true, true, true, false, false, false, false, false, false, false] rfl rfl (any_of HT_.out (by kernel_rfl)) (fun _ _ _ h => h) (Or.inr ⟨by rfl, rfl⟩) ?_ ?_
                  rotate_left
                  · simp only [Act.put, List.setIfInBounds_toArray, List.set_cons_zero, List.set_cons_succ, i64_w, i32_w]
                    rfl
                  refine pure_ (i := 4) (N := some 25) (v := undef) (a' := ?_) #[true, true, true, true, true, false, false, false, false, false, false] rfl rfl (any_of HT_.out (by kernel_rfl)) (fun _ _ _ h => h) (Or.inr ⟨by rfl, rfl⟩) ?_ ?_
                  rotate_left
                  · simp only [Act.put, List.setIfInBounds_toArray, List.set_cons_zero, List.set_cons_succ, i64_w, i32_w]
                    rfl
                  refine pure_ (i := 5) (N := some 26) (v := undef) (a' := ?_) #[true, true, true, true, true, true, false, false, false, false, false] rfl rfl (any_of HT_.out (by kernel_rfl)) (fun _ _ _ h => h) (Or.inr ⟨by rfl, rfl⟩) ?_ ?_
                  rotate_left
                  · simp only [Act.put, List.setIfInBounds_toArray, List.set_cons_zero, List.set_cons_succ, i64_w, i32_w]
                    rfl
                  refine pure_ (i := 6) (N := some 27) (v := undef) (a' := ?_) #[true, true, true, true, true, true, true, false, false, false, false] rfl rfl (any_of HT_.out (by kernel_rfl)) (fun _ _ _ h => h) (Or.inr ⟨by rfl, rfl⟩) ?_ ?_
                  rotate_left
                  · simp only [Act.put, List.setIfInBounds_toArray, List.set_cons_zero, List.set_cons_succ, i64_w, i32_w]
                    rfl
                  refine pure_ (i := 7) (N := some 28) (v := undef) (a' := ?_) #[true, true, true, true, true, true, true, true, false, false, false] rfl rfl (any_of HT_.out (by kernel_rfl)) (fun _ _ _ h => h) (Or.inr ⟨by rfl, rfl⟩) ?_ ?_
                  rotate_left
                  · simp only [Act.put, List.setIfInBounds_toArray, List.set_cons_zero, List.set_cons_succ, i64_w, i32_w]
                    rfl
                  refine pure_ (i := 8) (N := some 29) (v := undef) (a' := ?_) #[true, true, true, true, true, true, true, true, true, false, false] rfl rfl (any_of HT_.out (by kernel_rfl)) (fun _ _ _ h => h) (Or.inr ⟨by rfl, rfl⟩) ?_ ?_
                  rotate_left
                  · simp only [Act.put, List.setIfInBounds_toArray, List.set_cons_zero, List.set_cons_succ, i64_w, i32_w]
                    rfl
                  refine pure_ (i := 9) (N := some 30) (v := undef) (a' := ?_) #[true, true, true, true, true, true, true, true, true, true, false] rfl rfl (any_of HT_.out (by kernel_rfl)) (fun _ _ _ h => h) (Or.inr ⟨by rfl, rfl⟩) ?_ ?_
                  rotate_left
                  · simp only [Act.put, List.setIfInBounds_toArray, List.set_cons_zero, List.set_cons_succ, i64_w, i32_w]
                    rfl
                  refine pure_ (i := 10) (N := some 31) (v := ?_) (a' := ?_) #[true, true, true, true, true, true, true, true, true, true, true] rfl rfl (any_of HT_.out (by kernel_rfl)) (fun _ _ _ h => h) (Or.inl ⟨by rfl, ?_⟩) ?_ ?_
                  rotate_left
                  · intro w'
                    go_simp
                    with_reducible rfl
                  rotate_left
                  · simp only [Act.put, List.setIfInBounds_toArray, List.set_cons_zero, List.set_cons_succ, i64_w, i32_w]
                    rfl
                  refine done_ (done_of HT_.out (by kernel_rfl)) ?_
                  have hcz42_0 : w41.cell? ⟨gb118, 0, none⟩ = some (.int .i64 ((rd_T56 l1 x14_1).f0)) := (blk_cell BK118.out 0).trans rfl
                  have hcz42_1 : w41.cell? ⟨gb118, 1, none⟩ = some (.int .i64 ((rd_T56 l1 x14_1).f1)) := (blk_cell BK118.out 1).trans rfl
                  have hcz42_2 : w41.cell? ⟨gb118, 2, none⟩ = some (.int .i64 ((rd_T56 l1 x14_1).f2)) := (blk_cell BK118.out 2).trans rfl
                  have hcz42_3 : w41.cell? ⟨gb118, 3, none⟩ = some (.int .i64 ((rd_T56 l1 x14_1).f3)) := (blk_cell BK118.out 3).trans rfl
                  have hcz42_4 : w41.cell? ⟨gb118, 4, none⟩ = some (.int .u64 ((rd_T56 l1 x14_1).f4)) := (blk_cell BK118.out 4).trans rfl
                  have hcz42_5 : w41.cell? ⟨gb118, 5, none⟩ = some (.int .i64 ((rd_T56 l1 x14_1).f5)) := (blk_cell BK118.out 5).trans rfl
                  have hcz42_6 : w41.cell? ⟨gb118, 6, none⟩ = some (.slice A117_6 ((rd_T56 l1 x14_1).f6).length c117_6) := (blk_cell BK118.out 6).trans rfl
                  have hfz42_0 := blk_frozen BK118.out 0
                  have hfz42_1 := blk_frozen BK118.out 1
                  have hfz42_2 := blk_frozen BK118.out 2
                  have hfz42_3 := blk_frozen BK118.out 3
                  have hfz42_4 := blk_frozen BK118.out 4
                  have hfz42_5 := blk_frozen BK118.out 5
                  have hfz42_6 := blk_frozen BK118.out 6
                  try go_wp2_with (first | ((with_reducible refine gate_callee (f := 69) rfl ?_); refine goesL_ (some 56) rfl rfl Try.func69 (by kernel_rfl) rfl #[.agg #[.int .i64 ((rd_T56 l1 x14_1).f0), .int .i64 ((rd_T56 l1 x14_1).f1), .int .i64 ((rd_T56 l1 x14_1).f2), .int .i64 ((rd_T56 l1 x14_1).f3), .int .u64 ((rd_T56 l1 x14_1).f4), .int .i64 ((rd_T56 l1 x14_1).f5), .slice A117_6 ((rd_T56 l1 x14_1).f6).length c117_6]] rfl (by (try simp only [List.map_toArray, List.map_cons, List.map_nil]); first | done | rfl | (simp only [List.length_drop, List.length_take]; rfl)) ?_; (with_reducible refine (event_copied.calls ((rd_T56 l1 x14_1).f0) ((rd_T56 l1 x14_1).f1) ((rd_T56 l1 x14_1).f2) ((rd_T56 l1 x14_1).f3) ((rd_T56 l1 x14_1).f4) ((rd_T56 l1 x14_1).f5) _ _ ((rd_T56 l1 x14_1).f6) t135 t136 t137 t138 t139 t140 t141 _ ?side1 ?side2 A35.out).mono ?_); (case side1 => repeat (first | exact (Kd.C_below HR117_6.out HB.out) | (with_reducible refine Kd.C_alloc ?_ _) | (with_reducible refine Kd.C_drewN ?_ _) | (with_reducible refine Kd.C_drew ?_))); (case side2 => exact HC117_6.out); rintro e w43 ⟨v142, rfl, ho0, hb⟩; refine ⟨_, rfl, ?_⟩; have n0_ := Aside0.mk (Kd.S_elder' (by (with_reducible repeat (first | apply Kd.S_alloc | apply Kd.S_drewN | apply Kd.S_drew)); exact HO_5.out) (Kd.R_base ho0) hb); have n1_ := Aside0.mk (Kd.R_lower ho0 (below_size (by repeat (first | (with_reducible first | exact HB.out | apply below_alloc | apply pw_below_drewN | apply below_drew1 | refine below_set ?_ GE118.out) | exact HB.out)))); have n2_ := Aside0.mk (blk_below (g := gb118) (o := .cells #[.int .i64 ((rd_T56 l1 x14_1).f0), .int .i64 ((rd_T56 l1 x14_1).f1), .int .i64 ((rd_T56 l1 x14_1).f2), .int .i64 ((rd_T56 l1 x14_1).f3), .int .u64 ((rd_T56 l1 x14_1).f4), .int .i64 ((rd_T56 l1 x14_1).f5), .slice A117_6 ((rd_T56 l1 x14_1).f6).length c117_6] 56 (0, 0)) (by (with_reducible repeat (first | refine blk_drewN ?_ _ | refine blk_drew ?_ | refine blk_alloc ?_ _)); exact BK118.out) hb); have n3_ := Aside0.mk (below_step (by repeat (first | (with_reducible first | exact HB.out | apply below_alloc | apply pw_below_drewN | apply below_drew1 | refine below_set ?_ GE118.out) | exact HB.out)) hb); clear HO_5; clear BK118; clear HB; have HO_5 := n0_; have HO143 := n1_; have BK118 := n2_; have HB := n3_; clear n0_ n1_ n2_ n3_; (try clear hb); (try clear hb2); (try clear hk); (try clear hi); (try clear ho0); obtain ⟨Ao45, co45, eo45⟩ := Kd.R_slice HO143.out; subst eo45) | ((with_reducible refine gate_builtin (b := .append) (xs := #[.tmp 54, .tmp 57]) rfl ?_); at_builtin; refine Kd.S_append k56 (w0 := w) w.heap.size rfl (.tmp 54) (.tmp 57) 49 56 (.agg #[(.int .i64 0), (.int .i64 0), (.int .i64 0), (.int .i64 0), (.int .u64 0), (.int .i64 0), (.slice none 0 0)]) 72 rfl Try.underlying49 info56 rfl (by decide) (by omega) (.slice Ao39 x5_1.length co39) x5_1 (⟨t135, t136, t137, t138, t139, t140, t141⟩ : S56) [.int .i64 t135, .int .i64 t136, .int .i64 t137, .int .i64 t138, .int .u64 t139, .int .i64 t140, .slice Ao45 t141.length co45] (fun k_ => k_ ≠ gb118) (fun k_ => some k_ = (.slice Ao45 t141.length co45 : Value).ownBlock) rfl rfl ?aP (fun k_ hk_ => ((Kd.R_mono (ok' := fun k_ => ((fun k_ => k_ ≠ gb118)) k_ ∧ some k_ ≠ (.slice Ao39 x5_1.length co39 : Value).ownBlock) (Kd.R_types (Kd.R_apart' (HO143.out) (Kd.S_typed HO_5.out) (by decide)) BK118.out (by decide)) (fun k_ hk => ⟨hk.2, hk.1.2⟩))).1 k_ hk_.symm) ?aF ?aO ?aB ?aS ?aL ?_; (case aP => exact k56_mkM _ _ _ (⟨t135, t136, t137, t138, t139, t140, t141⟩ : S56) (Kd.R_mono (Kd.R_tight rfl (Kd.R_mono (ok' := fun k_ => ((fun k_ => k_ ≠ gb118)) k_ ∧ some k_ ≠ (.slice Ao39 x5_1.length co39 : Value).ownBlock) (Kd.R_types (Kd.R_apart' (HO143.out) (Kd.S_typed HO_5.out) (by decide)) BK118.out (by decide)) (fun k_ hk => ⟨hk.2, hk.1.2⟩))) (fun _ h_ => h_))); (case aB => exact (by repeat (first | (with_reducible first | exact HB.out | apply below_alloc | apply pw_below_drewN | apply below_drew1 | refine below_set ?_ GE118.out) | exact HB.out))); (case aF => exact (fun k_ hk => Kd.freshB (g := gb118) (o := .cells #[.int .i64 ((rd_T56 l1 x14_1).f0), .int .i64 ((rd_T56 l1 x14_1).f1), .int .i64 ((rd_T56 l1 x14_1).f2), .int .i64 ((rd_T56 l1 x14_1).f3), .int .u64 ((rd_T56 l1 x14_1).f4), .int .i64 ((rd_T56 l1 x14_1).f5), .slice A117_6 ((rd_T56 l1 x14_1).f6).length c117_6] 56 (0, 0)) (by (with_reducible repeat (first | refine blk_drewN ?_ _ | refine blk_drew ?_ | refine blk_alloc ?_ _)); exact BK118.out) k_ hk)); (case aO => exact (by (with_reducible repeat (first | apply Kd.S_alloc | apply Kd.S_drewN | apply Kd.S_drew)); exact Kd.S_mono HO_5.out (fun k_ hk => ⟨hk.1, fun e_ => hk.2 e_⟩))); (case aS => exact (below_size (by repeat (first | (with_reducible first | exact HB.out | apply below_alloc | apply pw_below_drewN | apply below_drew1 | refine below_set ?_ GE118.out) | exact HB.out)))); (case aL => have := LMc36.out; omega); intro v145 w44 ho hb hg hat; rw [← Ny144.out] at ho; have n0_ := Aside0.mk (blk_grown (g := gb118) (o := .cells #[.int .i64 ((rd_T56 l1 x14_1).f0), .int .i64 ((rd_T56 l1 x14_1).f1), .int .i64 ((rd_T56 l1 x14_1).f2), .int .i64 ((rd_T56 l1 x14_1).f3), .int .u64 ((rd_T56 l1 x14_1).f4), .int .i64 ((rd_T56 l1 x14_1).f5), .slice A117_6 ((rd_T56 l1 x14_1).f6).length c117_6] 56 (0, 0)) (by (with_reducible repeat (first | refine blk_drewN ?_ _ | refine blk_drew ?_ | refine blk_alloc ?_ _)); exact BK118.out) hg (Kd.S_away HO_5.out (fun _ hk => hk.1))); have n1_ := Aside0.mk (hb); have n2_ := Aside0.mk (ho); clear BK118; clear HB; clear HO_5; clear HO143; have BK118 := n0_; have HB := n1_; have HO146 := n2_; clear n0_ n1_ n2_; clear ho hb hg hat))
                  go_roundg k1
                  case measure => have := HK1.out; omega
                  case rel => exact ⟨(y144), (wrap64 (x14_1 + 1)), (by first | rfl | (simp; done) | (simp [*]; done)), H', ⟨by have := HK1.out; omega⟩, ⟨by (with_reducible repeat (first | apply Kd.S_alloc | apply Kd.S_drewN | apply Kd.S_drew)); exact Kd.S_mono HO146.out (fun _ hk => trivial)⟩, ⟨by repeat (first | (with_reducible first | exact HB.out | apply below_alloc | apply pw_below_drewN | apply below_drew1 | refine below_set ?_ GE118.out) | exact HB.out)⟩⟩
                · rw [if_neg c36] at H
                  exact absurd H (by simp)
            · rw [if_neg c7] at H
              exact absurd H (by simp)
          · rw [if_neg c6] at H
            exact absurd H (by simp)
        · rw [if_neg c5] at H
          have c5b0 : decide (x14_1 < (l1.length : Int)) = false := decide_eq_false c5
          clear c5
          obtain rfl := Option.some.inj H
          go_wp2
          go_ret
          exact ⟨_, by first | rfl | (simp [errW_none, errW_some] <;> rfl) | (simp [*, errW_none, errW_some] <;> rfl), by (with_reducible repeat (first | apply Kd.S_alloc | apply Kd.S_drewN | apply Kd.S_drew)); exact HO_5.out, by repeat (first | (with_reducible first | exact HB.out | apply below_alloc | apply pw_below_drewN | apply below_drew1) | exact HB.out)⟩
  · replace c4 := Bool.eq_false_iff.mpr c4
    subst c4
    have H1 : (some ([] : List (S56))) = some r := by rw [if_neg (show ¬ (false = true) by decide)] at H; exact H
    clear H
    have H := H1
    clear H1
    obtain rfl := Option.some.inj H
    go_enter Try.func45, Try.ntmps45
    go_wp2_with (first | ((with_reducible refine gate_callee (f := 23) rfl ?_); refine goesL_ (some 10) rfl rfl Try.func23 (by kernel_rfl) rfl #[.int .i64 a0] rfl (by (try simp only [List.map_toArray, List.map_cons, List.map_nil]); first | done | rfl | (simp only [List.length_drop, List.length_take]; rfl)) ?_; (with_reducible refine (wide_Right.calls a0 false _ A3.out).mono ?_); rintro e w' ⟨rfl, ⟨nd, rfl⟩⟩; refine ⟨_, rfl, ?_⟩))
    go_ret
    exact ⟨_, by first | rfl | (simp [errW_none, errW_some] <;> rfl) | (simp [*, errW_none, errW_some] <;> rfl), by first | exact Kd.S_nil _ _ _ _ _ | exact Kd.N_nil _ _ _ _ _ | exact Kd.V_nil _ _ _ _ _ | exact Kd.Q_nil _ _ _ _ _ | exact Kd.R_nil _ _ _ _ _, by repeat (first | (with_reducible first | exact HB.out | apply below_alloc | apply pw_below_drewN | apply below_drew1) | exact HB.out)⟩

-- NOT PRINTED: function 67 (event_kinds)

-- NOT PRINTED: function 68 (event_ops)

end Go.Proofs.Ytjaiodlfgpndoaa.QEv
