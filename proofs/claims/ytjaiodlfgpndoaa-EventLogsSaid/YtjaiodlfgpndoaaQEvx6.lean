-- Written by a program of this session (wip/tools/eprint.py), which runs the printer of the kit under rules of its own. Nothing in it is trusted: Lean checks it.
import Derived.Test.YtjaiodlfgpndoaaQEvx0
import Derived.Test.YtjaiodlfgpndoaaQEvx1
import Derived.Test.YtjaiodlfgpndoaaQEvx4
import Derived.Test.YtjaiodlfgpndoaaQEvx5
namespace Go.Proofs.Ytjaiodlfgpndoaa.QEv
open Go.RowKit Go.Proofs.YtjaiodlfgpndoaaW.PrintWords Go.Proofs.YtjaiodlfgpndoaaW.PrintLast Go.Proofs.YtjaiodlfgpndoaaW.PrintMore
attribute [local go_sem] max2_int min2_int max_two min_two max_three min_three max_four min_four   -- for this text's walks alone
set_option linter.unusedVariables false
set_option linter.unusedSimpArgs false

/-! ### event_placed: function 72 -/
def event_placed.j0 : Nat → Int → Bool → Int → Int → Int → Int → Int → Int → List Int → Option (Bool)
  | 0, _, _, _, _, _, _, _, _, _ => none
  | k + 1, x4, x5, x208000, x208001, x208002, x208003, x208004, x208005, x208006 => if x5 = true then (some true) else (if x4 = 2 then (if x208002 = 1 then (if x208005 = 0 then (some true) else (if x208002 = 6 then (some (decide (x208003 > 0))) else (some false))) else (if x208002 = 6 then (some (decide (x208003 > 0))) else (some false))) else (some false))
def event_placed.f (k : Nat) (a0_0 : Int) (a0_1 : Int) (a0_2 : Int) (a0_3 : Int) (a0_4 : Int) (a0_5 : Int) (l0_6 : List Int) : Option (Bool) := if a0_0 = 3 then (event_placed.j0 k a0_0 (a0_0 == 3) a0_0 a0_1 a0_2 a0_3 a0_4 a0_5 l0_6) else (if a0_0 = 5 then (event_placed.j0 k a0_0 (a0_0 == 5) a0_0 a0_1 a0_2 a0_3 a0_4 a0_5 l0_6) else (if a0_0 = 6 then (event_placed.j0 k a0_0 (a0_0 == 6) a0_0 a0_1 a0_2 a0_3 a0_4 a0_5 l0_6) else (event_placed.j0 k a0_0 (a0_0 == 7) a0_0 a0_1 a0_2 a0_3 a0_4 a0_5 l0_6)))
theorem event_placed.mono_l : ∀ k, (∀ y0 y1 y2 y3 y4 y5 y6 y7 y8, LeO (event_placed.j0 k y0 y1 y2 y3 y4 y5 y6 y7 y8) (event_placed.j0 (k + 1) y0 y1 y2 y3 y4 y5 y6 y7 y8))
  | 0 => fun _ _ _ _ _ _ _ _ _ r h => by simp [event_placed.j0] at h
  | k + 1 => by
    have ih0 := event_placed.mono_l k
    · intro y0 y1 y2 y3 y4 y5 y6 y7 y8
      unfold event_placed.j0
      repeat' first
      | (with_reducible exact ih0 _ _ _ _ _ _ _ _ _)
      | (with_reducible exact LeO.refl _)
      | (with_reducible exact LeO.none _)
      | (with_reducible refine LeO.ite ?_ ?_)
      | (with_reducible refine LeO.bind ?_ (fun _ => ?_))
      | exact ih0 _ _ _ _ _ _ _ _ _
      | exact LeO.none _
      | refine LeO.ite ?_ ?_
      | refine LeO.bind ?_ (fun _ => ?_)
theorem event_placed.mono : ∀ a0 a1 a2 a3 a4 a5 a6 k, LeO (event_placed.f k a0 a1 a2 a3 a4 a5 a6) (event_placed.f (k + 1) a0 a1 a2 a3 a4 a5 a6) := by
  intro a0 a1 a2 a3 a4 a5 a6 k
  have ih0 := event_placed.mono_l k
  unfold event_placed.f
  repeat' first
      | (with_reducible exact ih0 _ _ _ _ _ _ _ _ _)
      | (with_reducible exact LeO.refl _)
      | (with_reducible exact LeO.none _)
      | (with_reducible refine LeO.ite ?_ ?_)
      | (with_reducible refine LeO.bind ?_ (fun _ => ?_))
      | exact ih0 _ _ _ _ _ _ _ _ _
      | exact LeO.none _
      | refine LeO.ite ?_ ?_
      | refine LeO.bind ?_ (fun _ => ?_)
set_option maxHeartbeats 8000000 in
set_option maxRecDepth 100000 in
theorem event_placed.calls (k : Nat) (a0_0 : Int) (a0_1 : Int) (a0_2 : Int) (a0_3 : Int) (a0_4 : Int) (a0_5 : Int) (A0_6 : Option Addr) (c0_6 : Nat) (l0_6 : List Int) (r : Bool) (w : World) (hr0_6 : Kd.C (Kd.int .i64) w A0_6 l0_6.length l0_6) (hc0_6 : l0_6.length ≤ c0_6) (h : event_placed.f k a0_0 a0_1 a0_2 a0_3 a0_4 a0_5 l0_6 = some r) :
    Calls Try.prog 72 #[.agg #[.int .i64 a0_0, .int .i64 a0_1, .int .i64 a0_2, .int .i64 a0_3, .int .u64 a0_4, .int .i64 a0_5, .slice A0_6 l0_6.length c0_6]] w fun e w' => e = .returned (.bool r) ∧ Below w.heap.size w w' := by
  have hu56 := Try.underlying56
  have HR0_6 := Aside0.mk hr0_6
  have HC0_6 := Aside0.mk hc0_6
  clear hr0_6 hc0_6
  have HB := Aside0.mk (Below.refl w.heap.size w)
  have H : (if a0_0 = 3 then (event_placed.j0 k a0_0 (a0_0 == 3) a0_0 a0_1 a0_2 a0_3 a0_4 a0_5 l0_6) else (if a0_0 = 5 then (event_placed.j0 k a0_0 (a0_0 == 5) a0_0 a0_1 a0_2 a0_3 a0_4 a0_5 l0_6) else (if a0_0 = 6 then (event_placed.j0 k a0_0 (a0_0 == 6) a0_0 a0_1 a0_2 a0_3 a0_4 a0_5 l0_6) else (event_placed.j0 k a0_0 (a0_0 == 7) a0_0 a0_1 a0_2 a0_3 a0_4 a0_5 l0_6)))) = some r := h
  clear h
  have HC2 := Aside0.mk H
  clear H
  go_enter Try.func72, Try.ntmps72
  go_upto_if 5 with (first | ((with_reducible refine gate_dst (N := 1) rfl ?_); refine box_event ?hg (N := 1) ?hd (cs := #[.int .i64 a0_0, .int .i64 a0_1, .int .i64 a0_2, .int .i64 a0_3, .int .u64 a0_4, .int .i64 a0_5, .slice A0_6 l0_6.length c0_6]) (t := 56) ?hr ?_; (case hd => rfl); (case hg => rfl); (case hr => first | (go_simp; done) | (go_simp; rfl)); intro gb207 hg w3 hbox hb; have n0_ := Aside0.mk (below_step (by repeat (first | (with_reducible first | exact HB.out | apply below_alloc | apply pw_below_drewN | apply below_drew1) | exact HB.out)) hb); have n1_ := Aside0.mk (hbox); have n2_ := Aside0.mk ((by rw [hg]; exact (below_size (by repeat (first | (with_reducible first | exact HB.out | apply below_alloc | apply pw_below_drewN | apply below_drew1) | exact HB.out))) : w.heap.size ≤ gb207)); have n3_ := Aside0.mk ((by rw [hg]; exact (below_size (by repeat (first | (with_reducible first | exact HB.out | apply below_alloc | apply pw_below_drewN | apply below_drew1) | exact HB.out))) : w.heap.size ≤ gb207)); clear HB; have HB := n0_; have BK207 := n1_; have GW207 := n2_; have GE207 := n3_; clear n0_ n1_ n2_ n3_; clear hb hbox hg; have hcz4_0 : w3.cell? ⟨gb207, 0, none⟩ = some (.int .i64 a0_0) := (blk_cell BK207.out 0).trans rfl; have hcz4_1 : w3.cell? ⟨gb207, 1, none⟩ = some (.int .i64 a0_1) := (blk_cell BK207.out 1).trans rfl; have hcz4_2 : w3.cell? ⟨gb207, 2, none⟩ = some (.int .i64 a0_2) := (blk_cell BK207.out 2).trans rfl; have hcz4_3 : w3.cell? ⟨gb207, 3, none⟩ = some (.int .i64 a0_3) := (blk_cell BK207.out 3).trans rfl; have hcz4_4 : w3.cell? ⟨gb207, 4, none⟩ = some (.int .u64 a0_4) := (blk_cell BK207.out 4).trans rfl; have hcz4_5 : w3.cell? ⟨gb207, 5, none⟩ = some (.int .i64 a0_5) := (blk_cell BK207.out 5).trans rfl; have hcz4_6 : w3.cell? ⟨gb207, 6, none⟩ = some (.slice A0_6 l0_6.length c0_6) := (blk_cell BK207.out 6).trans rfl; have hfz4_0 := blk_frozen BK207.out 0; have hfz4_1 := blk_frozen BK207.out 1; have hfz4_2 := blk_frozen BK207.out 2; have hfz4_3 := blk_frozen BK207.out 3; have hfz4_4 := blk_frozen BK207.out 4; have hfz4_5 := blk_frozen BK207.out 5; have hfz4_6 := blk_frozen BK207.out 6))
  (try simp only [Act.put, List.setIfInBounds_toArray, List.set_cons_zero, List.set_cons_succ])
  go_cut [5] (fun v5 wc => ∃ (kq : Nat) (x5_1 : Bool), v5 = .bool x5_1 ∧ Aside0 (event_placed.j0 kq a0_0 x5_1 a0_0 a0_1 a0_2 a0_3 a0_4 a0_5 l0_6 = some r) ∧ Aside0 (kq ≤ k) ∧ Aside0 (wc.heap[gb207]? = some (.cells #[.int .i64 a0_0, .int .i64 a0_1, .int .i64 a0_2, .int .i64 a0_3, .int .u64 a0_4, .int .i64 a0_5, (.slice A0_6 l0_6.length c0_6)] 56 (0, 0))) ∧ Aside0 (Below w.heap.size w wc))
  case first =>
    have H := HC2.out
    clear HC2
    by_cases c5 : a0_0 = 3
    · rw [if_pos c5] at H
      have c5b0 : (a0_0 == 3) = true := beq_iff_eq.mpr c5
      have c5b1 : (a0_0 != 3) = false := bne_eq_false_iff_eq.mpr c5
      clear c5
      (first | rw [c5b0] | (simp only [i64_w, i32_w]; rw [c5b0]) | skip)
      have H' := Aside0.mk H
      clear H
      go_wp2
      go_meet
      case rel => exact ⟨_, ((a0_0 == 3)), (by first | rfl | (simp; done) | (simp [*]; done)), H', ⟨by first | omega | exact Nat.le_refl _⟩, ⟨by (with_reducible repeat (first | refine blk_drewN ?_ _ | refine blk_drew ?_ | refine blk_alloc ?_ _)); exact BK207.out⟩, ⟨by repeat (first | (with_reducible first | exact HB.out | apply below_alloc | apply pw_below_drewN | apply below_drew1 | refine below_set ?_ GE207.out) | exact HB.out)⟩⟩
    · rw [if_neg c5] at H
      have c5b0 : (a0_0 == 3) = false := beq_eq_false_iff_ne.mpr c5
      have c5b1 : (a0_0 != 3) = true := bne_iff_ne.mpr c5
      (first | rw [c5b0] | (simp only [i64_w, i32_w]; rw [c5b0]) | skip)
      by_cases c6 : a0_0 = 5
      · rw [if_pos c6] at H
        have c6b0 : (a0_0 == 5) = true := beq_iff_eq.mpr c6
        have c6b1 : (a0_0 != 5) = false := bne_eq_false_iff_eq.mpr c6
        clear c6
        have H' := Aside0.mk H
        clear H
        go_wp2
        go_meet
        case rel => exact ⟨_, ((a0_0 == 5)), (by first | rfl | (simp; done) | (simp [*]; done)), H', ⟨by first | omega | exact Nat.le_refl _⟩, ⟨by (with_reducible repeat (first | refine blk_drewN ?_ _ | refine blk_drew ?_ | refine blk_alloc ?_ _)); exact BK207.out⟩, ⟨by repeat (first | (with_reducible first | exact HB.out | apply below_alloc | apply pw_below_drewN | apply below_drew1 | refine below_set ?_ GE207.out) | exact HB.out)⟩⟩
      · rw [if_neg c6] at H
        have c6b0 : (a0_0 == 5) = false := beq_eq_false_iff_ne.mpr c6
        have c6b1 : (a0_0 != 5) = true := bne_iff_ne.mpr c6
        by_cases c7 : a0_0 = 6
        · rw [if_pos c7] at H
          have c7b0 : (a0_0 == 6) = true := beq_iff_eq.mpr c7
          have c7b1 : (a0_0 != 6) = false := bne_eq_false_iff_eq.mpr c7
          clear c7
          have H' := Aside0.mk H
          clear H
          go_wp2
          go_meet
          case rel => exact ⟨_, ((a0_0 == 6)), (by first | rfl | (simp; done) | (simp [*]; done)), H', ⟨by first | omega | exact Nat.le_refl _⟩, ⟨by (with_reducible repeat (first | refine blk_drewN ?_ _ | refine blk_drew ?_ | refine blk_alloc ?_ _)); exact BK207.out⟩, ⟨by repeat (first | (with_reducible first | exact HB.out | apply below_alloc | apply pw_below_drewN | apply below_drew1 | refine below_set ?_ GE207.out) | exact HB.out)⟩⟩
        · rw [if_neg c7] at H
          have c7b0 : (a0_0 == 6) = false := beq_eq_false_iff_ne.mpr c7
          have c7b1 : (a0_0 != 6) = true := bne_iff_ne.mpr c7
          have H' := Aside0.mk H
          clear H
          go_wp2
          go_meet
          case rel => exact ⟨_, ((a0_0 == 7)), (by first | rfl | (simp; done) | (simp [*]; done)), H', ⟨by first | omega | exact Nat.le_refl _⟩, ⟨by (with_reducible repeat (first | refine blk_drewN ?_ _ | refine blk_drew ?_ | refine blk_alloc ?_ _)); exact BK207.out⟩, ⟨by repeat (first | (with_reducible first | exact HB.out | apply below_alloc | apply pw_below_drewN | apply below_drew1 | refine below_set ?_ GE207.out) | exact HB.out)⟩⟩
  case rest =>
    clear HC2
    try clear p2
    try clear c5
    try clear c5b0
    try clear c5b1
    try clear c6
    try clear c6b0
    try clear c6b1
    try clear c7
    try clear c7b0
    try clear c7b1
    try clear hcz4_0
    try clear hcz4_1
    try clear hcz4_2
    try clear hcz4_3
    try clear hcz4_4
    try clear hcz4_5
    try clear hcz4_6
    try clear hfz4_0
    try clear hfz4_1
    try clear hfz4_2
    try clear hfz4_3
    try clear hfz4_4
    try clear hfz4_5
    try clear hfz4_6
    obtain ⟨kq, x5_1, rfl, HA, HJ1, BK207, HB⟩ := hcut
    cases kq with
    | zero => exact absurd HA.out (by simp [event_placed.j0])
    | succ kj1 =>
      have H := HA.out
      clear HA
      simp only [event_placed.j0] at H
      by_cases c8 : x5_1 = true
      · subst c8
        have H1 : (some true) = some r := by rw [if_pos rfl] at H; exact H
        clear H
        have H := H1
        clear H1
        obtain rfl := Option.some.inj H
        go_wp2
        go_ret
        exact ⟨by first | rfl | (simp [errW_none, errW_some] <;> rfl) | (simp [*, errW_none, errW_some] <;> rfl), by repeat (first | (with_reducible first | exact HB.out | apply below_alloc | apply pw_below_drewN | apply below_drew1 | refine below_set ?_ GE207.out) | exact HB.out)⟩
      · replace c8 := Bool.eq_false_iff.mpr c8
        subst c8
        have H1 : (if a0_0 = 2 then (if a0_2 = 1 then (if a0_5 = 0 then (some true) else (if a0_2 = 6 then (some (decide (a0_3 > 0))) else (some false))) else (if a0_2 = 6 then (some (decide (a0_3 > 0))) else (some false))) else (some false)) = some r := by rw [if_neg (show ¬ (false = true) by decide)] at H; exact H
        clear H
        have H := H1
        clear H1
        by_cases c9 : a0_0 = 2
        · rw [if_pos c9] at H
          have c9b0 : (a0_0 == 2) = true := beq_iff_eq.mpr c9
          have c9b1 : (a0_0 != 2) = false := bne_eq_false_iff_eq.mpr c9
          clear c9
          by_cases c10 : a0_2 = 1
          · rw [if_pos c10] at H
            have c10b0 : (a0_2 == 1) = true := beq_iff_eq.mpr c10
            have c10b1 : (a0_2 != 1) = false := bne_eq_false_iff_eq.mpr c10
            clear c10
            by_cases c11 : a0_5 = 0
            · rw [if_pos c11] at H
              have c11b0 : (a0_5 == 0) = true := beq_iff_eq.mpr c11
              have c11b1 : (a0_5 != 0) = false := bne_eq_false_iff_eq.mpr c11
              clear c11
              obtain rfl := Option.some.inj H
              have hcz12_0 : wc.cell? ⟨gb207, 0, none⟩ = some (.int .i64 a0_0) := (blk_cell BK207.out 0).trans rfl
              have hcz12_1 : wc.cell? ⟨gb207, 1, none⟩ = some (.int .i64 a0_1) := (blk_cell BK207.out 1).trans rfl
              have hcz12_2 : wc.cell? ⟨gb207, 2, none⟩ = some (.int .i64 a0_2) := (blk_cell BK207.out 2).trans rfl
              have hcz12_3 : wc.cell? ⟨gb207, 3, none⟩ = some (.int .i64 a0_3) := (blk_cell BK207.out 3).trans rfl
              have hcz12_4 : wc.cell? ⟨gb207, 4, none⟩ = some (.int .u64 a0_4) := (blk_cell BK207.out 4).trans rfl
              have hcz12_5 : wc.cell? ⟨gb207, 5, none⟩ = some (.int .i64 a0_5) := (blk_cell BK207.out 5).trans rfl
              have hcz12_6 : wc.cell? ⟨gb207, 6, none⟩ = some (.slice A0_6 l0_6.length c0_6) := (blk_cell BK207.out 6).trans rfl
              have hfz12_0 := blk_frozen BK207.out 0
              have hfz12_1 := blk_frozen BK207.out 1
              have hfz12_2 := blk_frozen BK207.out 2
              have hfz12_3 := blk_frozen BK207.out 3
              have hfz12_4 := blk_frozen BK207.out 4
              have hfz12_5 := blk_frozen BK207.out 5
              have hfz12_6 := blk_frozen BK207.out 6
              go_wp2
              go_ret
              exact ⟨by first | rfl | (simp [errW_none, errW_some] <;> rfl) | (simp [*, errW_none, errW_some] <;> rfl), by repeat (first | (with_reducible first | exact HB.out | apply below_alloc | apply pw_below_drewN | apply below_drew1 | refine below_set ?_ GE207.out) | exact HB.out)⟩
            · rw [if_neg c11] at H
              have c11b0 : (a0_5 == 0) = false := beq_eq_false_iff_ne.mpr c11
              have c11b1 : (a0_5 != 0) = true := bne_iff_ne.mpr c11
              by_cases c13 : a0_2 = 6
              · rw [if_pos c13] at H
                have c13b0 : (a0_2 == 6) = true := beq_iff_eq.mpr c13
                have c13b1 : (a0_2 != 6) = false := bne_eq_false_iff_eq.mpr c13
                clear c13
                obtain rfl := Option.some.inj H
                have hcz14_0 : wc.cell? ⟨gb207, 0, none⟩ = some (.int .i64 a0_0) := (blk_cell BK207.out 0).trans rfl
                have hcz14_1 : wc.cell? ⟨gb207, 1, none⟩ = some (.int .i64 a0_1) := (blk_cell BK207.out 1).trans rfl
                have hcz14_2 : wc.cell? ⟨gb207, 2, none⟩ = some (.int .i64 a0_2) := (blk_cell BK207.out 2).trans rfl
                have hcz14_3 : wc.cell? ⟨gb207, 3, none⟩ = some (.int .i64 a0_3) := (blk_cell BK207.out 3).trans rfl
                have hcz14_4 : wc.cell? ⟨gb207, 4, none⟩ = some (.int .u64 a0_4) := (blk_cell BK207.out 4).trans rfl
                have hcz14_5 : wc.cell? ⟨gb207, 5, none⟩ = some (.int .i64 a0_5) := (blk_cell BK207.out 5).trans rfl
                have hcz14_6 : wc.cell? ⟨gb207, 6, none⟩ = some (.slice A0_6 l0_6.length c0_6) := (blk_cell BK207.out 6).trans rfl
                have hfz14_0 := blk_frozen BK207.out 0
                have hfz14_1 := blk_frozen BK207.out 1
                have hfz14_2 := blk_frozen BK207.out 2
                have hfz14_3 := blk_frozen BK207.out 3
                have hfz14_4 := blk_frozen BK207.out 4
                have hfz14_5 := blk_frozen BK207.out 5
                have hfz14_6 := blk_frozen BK207.out 6
                go_wp2
                go_ret
                exact ⟨by first | rfl | (simp [errW_none, errW_some] <;> rfl) | (simp [*, errW_none, errW_some] <;> rfl), by repeat (first | (with_reducible first | exact HB.out | apply below_alloc | apply pw_below_drewN | apply below_drew1 | refine below_set ?_ GE207.out) | exact HB.out)⟩
              · rw [if_neg c13] at H
                have c13b0 : (a0_2 == 6) = false := beq_eq_false_iff_ne.mpr c13
                have c13b1 : (a0_2 != 6) = true := bne_iff_ne.mpr c13
                obtain rfl := Option.some.inj H
                have hcz15_0 : wc.cell? ⟨gb207, 0, none⟩ = some (.int .i64 a0_0) := (blk_cell BK207.out 0).trans rfl
                have hcz15_1 : wc.cell? ⟨gb207, 1, none⟩ = some (.int .i64 a0_1) := (blk_cell BK207.out 1).trans rfl
                have hcz15_2 : wc.cell? ⟨gb207, 2, none⟩ = some (.int .i64 a0_2) := (blk_cell BK207.out 2).trans rfl
                have hcz15_3 : wc.cell? ⟨gb207, 3, none⟩ = some (.int .i64 a0_3) := (blk_cell BK207.out 3).trans rfl
                have hcz15_4 : wc.cell? ⟨gb207, 4, none⟩ = some (.int .u64 a0_4) := (blk_cell BK207.out 4).trans rfl
                have hcz15_5 : wc.cell? ⟨gb207, 5, none⟩ = some (.int .i64 a0_5) := (blk_cell BK207.out 5).trans rfl
                have hcz15_6 : wc.cell? ⟨gb207, 6, none⟩ = some (.slice A0_6 l0_6.length c0_6) := (blk_cell BK207.out 6).trans rfl
                have hfz15_0 := blk_frozen BK207.out 0
                have hfz15_1 := blk_frozen BK207.out 1
                have hfz15_2 := blk_frozen BK207.out 2
                have hfz15_3 := blk_frozen BK207.out 3
                have hfz15_4 := blk_frozen BK207.out 4
                have hfz15_5 := blk_frozen BK207.out 5
                have hfz15_6 := blk_frozen BK207.out 6
                go_wp2
                go_ret
                exact ⟨by first | rfl | (simp [errW_none, errW_some] <;> rfl) | (simp [*, errW_none, errW_some] <;> rfl), by repeat (first | (with_reducible first | exact HB.out | apply below_alloc | apply pw_below_drewN | apply below_drew1 | refine below_set ?_ GE207.out) | exact HB.out)⟩
          · rw [if_neg c10] at H
            have c10b0 : (a0_2 == 1) = false := beq_eq_false_iff_ne.mpr c10
            have c10b1 : (a0_2 != 1) = true := bne_iff_ne.mpr c10
            by_cases c16 : a0_2 = 6
            · rw [if_pos c16] at H
              have c16b0 : (a0_2 == 6) = true := beq_iff_eq.mpr c16
              have c16b1 : (a0_2 != 6) = false := bne_eq_false_iff_eq.mpr c16
              clear c16
              obtain rfl := Option.some.inj H
              have hcz17_0 : wc.cell? ⟨gb207, 0, none⟩ = some (.int .i64 a0_0) := (blk_cell BK207.out 0).trans rfl
              have hcz17_1 : wc.cell? ⟨gb207, 1, none⟩ = some (.int .i64 a0_1) := (blk_cell BK207.out 1).trans rfl
              have hcz17_2 : wc.cell? ⟨gb207, 2, none⟩ = some (.int .i64 a0_2) := (blk_cell BK207.out 2).trans rfl
              have hcz17_3 : wc.cell? ⟨gb207, 3, none⟩ = some (.int .i64 a0_3) := (blk_cell BK207.out 3).trans rfl
              have hcz17_4 : wc.cell? ⟨gb207, 4, none⟩ = some (.int .u64 a0_4) := (blk_cell BK207.out 4).trans rfl
              have hcz17_5 : wc.cell? ⟨gb207, 5, none⟩ = some (.int .i64 a0_5) := (blk_cell BK207.out 5).trans rfl
              have hcz17_6 : wc.cell? ⟨gb207, 6, none⟩ = some (.slice A0_6 l0_6.length c0_6) := (blk_cell BK207.out 6).trans rfl
              have hfz17_0 := blk_frozen BK207.out 0
              have hfz17_1 := blk_frozen BK207.out 1
              have hfz17_2 := blk_frozen BK207.out 2
              have hfz17_3 := blk_frozen BK207.out 3
              have hfz17_4 := blk_frozen BK207.out 4
              have hfz17_5 := blk_frozen BK207.out 5
              have hfz17_6 := blk_frozen BK207.out 6
              go_wp2
              go_ret
              exact ⟨by first | rfl | (simp [errW_none, errW_some] <;> rfl) | (simp [*, errW_none, errW_some] <;> rfl), by repeat (first | (with_reducible first | exact HB.out | apply below_alloc | apply pw_below_drewN | apply below_drew1 | refine below_set ?_ GE207.out) | exact HB.out)⟩
            · rw [if_neg c16] at H
              have c16b0 : (a0_2 == 6) = false := beq_eq_false_iff_ne.mpr c16
              have c16b1 : (a0_2 != 6) = true := bne_iff_ne.mpr c16
              obtain rfl := Option.some.inj H
              have hcz18_0 : wc.cell? ⟨gb207, 0, none⟩ = some (.int .i64 a0_0) := (blk_cell BK207.out 0).trans rfl
              have hcz18_1 : wc.cell? ⟨gb207, 1, none⟩ = some (.int .i64 a0_1) := (blk_cell BK207.out 1).trans rfl
              have hcz18_2 : wc.cell? ⟨gb207, 2, none⟩ = some (.int .i64 a0_2) := (blk_cell BK207.out 2).trans rfl
              have hcz18_3 : wc.cell? ⟨gb207, 3, none⟩ = some (.int .i64 a0_3) := (blk_cell BK207.out 3).trans rfl
              have hcz18_4 : wc.cell? ⟨gb207, 4, none⟩ = some (.int .u64 a0_4) := (blk_cell BK207.out 4).trans rfl
              have hcz18_5 : wc.cell? ⟨gb207, 5, none⟩ = some (.int .i64 a0_5) := (blk_cell BK207.out 5).trans rfl
              have hcz18_6 : wc.cell? ⟨gb207, 6, none⟩ = some (.slice A0_6 l0_6.length c0_6) := (blk_cell BK207.out 6).trans rfl
              have hfz18_0 := blk_frozen BK207.out 0
              have hfz18_1 := blk_frozen BK207.out 1
              have hfz18_2 := blk_frozen BK207.out 2
              have hfz18_3 := blk_frozen BK207.out 3
              have hfz18_4 := blk_frozen BK207.out 4
              have hfz18_5 := blk_frozen BK207.out 5
              have hfz18_6 := blk_frozen BK207.out 6
              go_wp2
              go_ret
              exact ⟨by first | rfl | (simp [errW_none, errW_some] <;> rfl) | (simp [*, errW_none, errW_some] <;> rfl), by repeat (first | (with_reducible first | exact HB.out | apply below_alloc | apply pw_below_drewN | apply below_drew1 | refine below_set ?_ GE207.out) | exact HB.out)⟩
        · rw [if_neg c9] at H
          have c9b0 : (a0_0 == 2) = false := beq_eq_false_iff_ne.mpr c9
          have c9b1 : (a0_0 != 2) = true := bne_iff_ne.mpr c9
          obtain rfl := Option.some.inj H
          go_wp2
          go_ret
          exact ⟨by first | rfl | (simp [errW_none, errW_some] <;> rfl) | (simp [*, errW_none, errW_some] <;> rfl), by repeat (first | (with_reducible first | exact HB.out | apply below_alloc | apply pw_below_drewN | apply below_drew1 | refine below_set ?_ GE207.out) | exact HB.out)⟩

/-! ### event_Shift: function 46 -/
def event_Shift.l0 : Nat → Int → Int → List (S56) → Int → Int → Option ((List (S56)))
  | 0, _, _, _, _, _ => none
  | k + 1, x0, x1, x7, x15, x16 => if x16 < x15 then (if 0 ≤ x16 then (if x16 < (x7.length : Int) then ((event_placed.f k ((rd_T56 x7 x16).f0) ((rd_T56 x7 x16).f1) ((rd_T56 x7 x16).f2) ((rd_T56 x7 x16).f3) ((rd_T56 x7 x16).f4) ((rd_T56 x7 x16).f5) ((rd_T56 x7 x16).f6)).bind fun t213 => (if t213 = true then ((wide_Gap.f x0 ((rd_T56 x7 x16).f4) x1).bind fun t215 => (event_Shift.l0 k x0 x1 (x7.set (x16 : Int).toNat (⟨(rd_T56 x7 x16).f0, (rd_T56 x7 x16).f1, (rd_T56 x7 x16).f2, (rd_T56 x7 x16).f3, IntKind.u64.wrap (t215), (rd_T56 x7 x16).f5, (rd_T56 x7 x16).f6⟩ : S56)) x15 (wrap64 (x16 + 1)))) else (event_Shift.l0 k x0 x1 x7 x15 (wrap64 (x16 + 1))))) else (none)) else (none)) else (some x7)
def event_Shift.f (k : Nat) (a0 : Int) (a1 : Int) (l2 : List (S56)) : Option ((List (S56))) := (wide_Right.f a0).bind fun t208 => (if t208 = true then ((event_Copy.f k l2).bind fun t209 => (event_Shift.l0 k a0 a1 t209 (t209.length : Int) 0)) else (some ([] : List (S56))))
theorem event_Shift.mono_l : ∀ k, (∀ y0 y1 y2 y3 y4, LeO (event_Shift.l0 k y0 y1 y2 y3 y4) (event_Shift.l0 (k + 1) y0 y1 y2 y3 y4))
  | 0 => fun _ _ _ _ _ r h => by simp [event_Shift.l0] at h
  | k + 1 => by
    have ih0 := event_Shift.mono_l k
    · intro y0 y1 y2 y3 y4
      unfold event_Shift.l0
      repeat' first
      | (with_reducible exact ih0 _ _ _ _ _)
      | (with_reducible exact event_Copy.mono _ _)
      | (with_reducible exact event_placed.mono _ _ _ _ _ _ _ _)
      | (with_reducible exact LeO.refl _)
      | (with_reducible exact LeO.none _)
      | (with_reducible refine LeO.ite ?_ ?_)
      | (with_reducible refine LeO.bind ?_ (fun _ => ?_))
      | exact ih0 _ _ _ _ _
      | exact event_Copy.mono _ _
      | exact event_placed.mono _ _ _ _ _ _ _ _
      | exact LeO.none _
      | refine LeO.ite ?_ ?_
      | refine LeO.bind ?_ (fun _ => ?_)
theorem event_Shift.mono : ∀ a0 a1 a2 k, LeO (event_Shift.f k a0 a1 a2) (event_Shift.f (k + 1) a0 a1 a2) := by
  intro a0 a1 a2 k
  have ih0 := event_Shift.mono_l k
  unfold event_Shift.f
  repeat' first
      | (with_reducible exact ih0 _ _ _ _ _)
      | (with_reducible exact event_Copy.mono _ _)
      | (with_reducible exact event_placed.mono _ _ _ _ _ _ _ _)
      | (with_reducible exact LeO.refl _)
      | (with_reducible exact LeO.none _)
      | (with_reducible refine LeO.ite ?_ ?_)
      | (with_reducible refine LeO.bind ?_ (fun _ => ?_))
      | exact ih0 _ _ _ _ _
      | exact event_Copy.mono _ _
      | exact event_placed.mono _ _ _ _ _ _ _ _
      | exact LeO.none _
      | refine LeO.ite ?_ ?_
      | refine LeO.bind ?_ (fun _ => ?_)
set_option maxHeartbeats 8000000 in
set_option maxRecDepth 100000 in
theorem event_Shift.calls (k : Nat) (a0 : Int) (a1 : Int) (A2 : Option Addr) (c2 : Nat) (l2 : List (S56)) (r : List (S56)) (w : World) (hr2 : Kd.C k56 w A2 l2.length l2) (hc2 : l2.length ≤ c2) (h : event_Shift.f k a0 a1 l2 = some r) :
    Calls Try.prog 46 #[.int .i64 a0, .int .u64 a1, .slice A2 l2.length c2] w fun e w' => ∃ v0_ : Value, e = .returned (v0_) ∧ Kd.S k56 56 w' w.heap.size (fun _ => True) v0_ r ∧ Below w.heap.size w w' := by
  have hu56 := Try.underlying56
  have HR2 := Aside0.mk hr2
  have HC2 := Aside0.mk hc2
  clear hr2 hc2
  have HB := Aside0.mk (Below.refl w.heap.size w)
  have H : ((wide_Right.f a0).bind fun t208 => (if t208 = true then ((event_Copy.f k l2).bind fun t209 => (event_Shift.l0 k a0 a1 t209 (t209.length : Int) 0)) else (some ([] : List (S56))))) = some r := h
  clear h
  replace H := Option.bind_eq_some_iff.mp H
  obtain ⟨t208, A40, H⟩ := H
  replace H : (if t208 = true then ((event_Copy.f k l2).bind fun t209 => (event_Shift.l0 k a0 a1 t209 (t209.length : Int) 0)) else (some ([] : List (S56)))) = some r := H
  have A4 := Aside0.mk A40
  clear A40
  by_cases c5 : t208 = true
  · subst c5
    have H1 : ((event_Copy.f k l2).bind fun t209 => (event_Shift.l0 k a0 a1 t209 (t209.length : Int) 0)) = some r := by rw [if_pos rfl] at H; exact H
    clear H
    have H := H1
    clear H1
    replace H := Option.bind_eq_some_iff.mp H
    obtain ⟨t209, A60, H⟩ := H
    replace H : (event_Shift.l0 k a0 a1 t209 (t209.length : Int) 0) = some r := H
    have A6 := Aside0.mk A60
    clear A60
    have H' := Aside0.mk H
    clear H
    go_enter Try.func46, Try.ntmps46
    go_wp2_with (first | ((with_reducible refine gate_callee (f := 23) rfl ?_); refine goesL_ (some 10) rfl rfl Try.func23 (by kernel_rfl) rfl #[.int .i64 a0] rfl (by (try simp only [List.map_toArray, List.map_cons, List.map_nil]); first | done | rfl | (simp only [List.length_drop, List.length_take]; rfl)) ?_; (with_reducible refine (wide_Right.calls a0 true _ A4.out).mono ?_); rintro e w' ⟨rfl, ⟨nd, rfl⟩⟩; refine ⟨_, rfl, ?_⟩) | ((with_reducible refine gate_callee (f := 55) rfl ?_); refine goesL_ (some 13) rfl rfl Try.func55 (by kernel_rfl) rfl #[.slice A2 l2.length c2] rfl (by (try simp only [List.map_toArray, List.map_cons, List.map_nil]); first | done | rfl | (simp only [List.length_drop, List.length_take]; rfl)) ?_; (with_reducible refine (event_Copy.calls k _ _ l2 t209 _ ?side1 ?side2 A6.out).mono ?_); (case side1 => repeat (first | exact HR2.out | (with_reducible refine Kd.C_alloc ?_ _) | (with_reducible refine Kd.C_drewN ?_ _) | (with_reducible refine Kd.C_drew ?_))); (case side2 => exact HC2.out); rintro e w7 ⟨v210, rfl, ho0, hb⟩; refine ⟨_, rfl, ?_⟩; have n0_ := Aside0.mk (Kd.S_lower ho0 (below_size (by repeat (first | (with_reducible first | exact HB.out | apply below_alloc | apply pw_below_drewN | apply below_drew1) | exact HB.out)))); have n1_ := Aside0.mk (below_step (by repeat (first | (with_reducible first | exact HB.out | apply below_alloc | apply pw_below_drewN | apply below_drew1) | exact HB.out)) hb); clear HB; have HO211 := n0_; have HB := n1_; clear n0_ n1_; (try clear hb); (try clear hb2); (try clear hk); (try clear hi); (try clear ho0); obtain ⟨Ao8, co8, eo8⟩ := Kd.S_slice HO211.out; subst eo8))
    go_loopg [16] k (fun kq v16 w' => ∃ (x7_1 : List (S56)) (x16_1 : Int), v16 = .int .i64 x16_1 ∧ Aside0 (event_Shift.l0 kq a0 a1 x7_1 (t209.length : Int) x16_1 = some r) ∧ Aside0 (kq ≤ k) ∧ Aside0 (Kd.S k56 56 w' w.heap.size (fun _ => True) (.slice Ao8 t209.length co8) x7_1) ∧ Aside0 (Below w.heap.size w w'))
    case atStart => exact ⟨(t209), (0), (by first | rfl | (simp; done) | (simp [*]; done)), H', ⟨Nat.le_refl _⟩, ⟨by (with_reducible repeat (first | apply Kd.S_alloc | apply Kd.S_drewN | apply Kd.S_drew)); exact HO211.out⟩, ⟨by repeat (first | (with_reducible first | exact HB.out | apply below_alloc | apply pw_below_drewN | apply below_drew1) | exact HB.out)⟩⟩
    case round =>
      clear H'
      try clear c2
      try clear p2
      try clear c4
      try clear c5
      obtain ⟨x7_1, x16_1, rfl, HA, HK1, HO_7, HB⟩ := hrel
      have hl7_1 := (Kd.S_reads' HO_7.out).1
      rw [hl7_1] at HO_7
      (try simp only [hl7_1])
      cases gk with
      | zero => exact absurd HA.out (by simp [event_Shift.l0])
      | succ k1 =>
        have H := HA.out
        clear HA
        simp only [event_Shift.l0] at H
        by_cases c9 : x16_1 < (t209.length : Int)
        · rw [if_pos c9] at H
          have c9b0 : decide (x16_1 < (t209.length : Int)) = true := decide_eq_true c9
          clear c9
          by_cases c10 : 0 ≤ x16_1
          · rw [if_pos c10] at H
            have c10b0 : decide (0 ≤ x16_1) = true := decide_eq_true c10
            clear c10
            by_cases c11 : x16_1 < (x7_1.length : Int)
            · rw [if_pos c11] at H
              have c11b0 : decide (x16_1 < (x7_1.length : Int)) = true := decide_eq_true c11
              clear c11
              replace H := Option.bind_eq_some_iff.mp H
              obtain ⟨t213, A120, H⟩ := H
              replace H : (if t213 = true then ((wide_Gap.f a0 ((rd_T56 x7_1 x16_1).f4) a1).bind fun t215 => (event_Shift.l0 k1 a0 a1 (x7_1.set (x16_1 : Int).toNat (⟨(rd_T56 x7_1 x16_1).f0, (rd_T56 x7_1 x16_1).f1, (rd_T56 x7_1 x16_1).f2, (rd_T56 x7_1 x16_1).f3, IntKind.u64.wrap (t215), (rd_T56 x7_1 x16_1).f5, (rd_T56 x7_1 x16_1).f6⟩ : S56)) (t209.length : Int) (wrap64 (x16_1 + 1)))) else (event_Shift.l0 k1 a0 a1 x7_1 (t209.length : Int) (wrap64 (x16_1 + 1)))) = some r := H
              have A12 := Aside0.mk A120
              clear A120
              by_cases c13 : t213 = true
              · subst c13
                have H1 : ((wide_Gap.f a0 ((rd_T56 x7_1 x16_1).f4) a1).bind fun t215 => (event_Shift.l0 k1 a0 a1 (x7_1.set (x16_1 : Int).toNat (⟨(rd_T56 x7_1 x16_1).f0, (rd_T56 x7_1 x16_1).f1, (rd_T56 x7_1 x16_1).f2, (rd_T56 x7_1 x16_1).f3, IntKind.u64.wrap (t215), (rd_T56 x7_1 x16_1).f5, (rd_T56 x7_1 x16_1).f6⟩ : S56)) (t209.length : Int) (wrap64 (x16_1 + 1)))) = some r := by rw [if_pos rfl] at H; exact H
                clear H
                have H := H1
                clear H1
                replace H := Option.bind_eq_some_iff.mp H
                obtain ⟨t215, A140, H⟩ := H
                replace H : (event_Shift.l0 k1 a0 a1 (x7_1.set (x16_1 : Int).toNat (⟨(rd_T56 x7_1 x16_1).f0, (rd_T56 x7_1 x16_1).f1, (rd_T56 x7_1 x16_1).f2, (rd_T56 x7_1 x16_1).f3, IntKind.u64.wrap (t215), (rd_T56 x7_1 x16_1).f5, (rd_T56 x7_1 x16_1).f6⟩ : S56)) (t209.length : Int) (wrap64 (x16_1 + 1))) = some r := H
                have A14 := Aside0.mk A140
                clear A140
                obtain ⟨y216, hy216⟩ : ∃ y_ : List (S56), y_ = (x7_1.set (x16_1 : Int).toNat (⟨(rd_T56 x7_1 x16_1).f0, (rd_T56 x7_1 x16_1).f1, (rd_T56 x7_1 x16_1).f2, (rd_T56 x7_1 x16_1).f3, IntKind.u64.wrap (t215), (rd_T56 x7_1 x16_1).f5, (rd_T56 x7_1 x16_1).f6⟩ : S56)) := ⟨_, rfl⟩
                replace H : (event_Shift.l0 k1 a0 a1 y216 (t209.length : Int) (wrap64 (x16_1 + 1))) = some r := by first | (rw [hy216]; with_reducible exact H) | (have H2_ := (Option.bind_some _ _).symm.trans H; rw [hy216]; with_reducible exact H2_) | (have H2_ := (Option.bind_some _ _).symm.trans H; with_reducible exact H2_) | with_reducible exact H | (rw [hy216]; exact H) | exact H
                have Ny216 := Aside0.mk hy216
                clear hy216
                have H' := Aside0.mk H
                clear H
                have p212 : 0 ≤ (x16_1 : Int) := of_decide_eq_true (by first | (with_reducible assumption) | assumption)
                have q212 : x16_1 < (x7_1.length : Int) := of_decide_eq_true (by first | (with_reducible assumption) | assumption)
                obtain ⟨ad212, A212_6, c212_6, e212, hx212_0, hx212_1, hx212_2, hx212_3, hx212_4, hx212_5, hx212_6, hl212_6, hi212_6⟩ := at_T56 (Kd.S_reads' HO_7.out).2.2 x16_1 p212 q212
                cases e212
                obtain ⟨ce212, hce212, hMe212, hcc212⟩ := Kd.S_get HO_7.out z56 x16_1 p212 (by first | exact q212 | exact of_decide_eq_true (by first | (with_reducible assumption) | assumption) | (have e_ := (Kd.S_reads' HO_7.out).1; omega))
                obtain ⟨ve212_6, rfl, ge212_6⟩ := k56_openM hMe212
                have hv212_6 := hcc212 6 _ rfl
                rw [add_field _ _ 6 (by omega)] at hv212_6
                replace hv212_6 := Option.some.inj (hv212_6.symm.trans hx212_6)
                rw [hv212_6] at ge212_6
                have HL212_6 := Aside0.mk (show Kd.R (Kd.int .i64) 3 _ _ _ _ ((rd_T56 x7_1 x16_1).f6) from ge212_6)
                clear hv212_6 ge212_6
                clear hcc212 hce212
                have HR212_6 := Aside0.mk hi212_6
                have HC212_6 := Aside0.mk hl212_6
                clear hi212_6 hl212_6
                replace p212 := eq_true p212
                replace q212 := eq_true q212
                go_wp2_with (first | ((with_reducible refine gate_callee (f := 72) rfl ?_); refine goesL_ (some 23) rfl rfl Try.func72 (by kernel_rfl) rfl #[.agg #[.int .i64 ((rd_T56 x7_1 x16_1).f0), .int .i64 ((rd_T56 x7_1 x16_1).f1), .int .i64 ((rd_T56 x7_1 x16_1).f2), .int .i64 ((rd_T56 x7_1 x16_1).f3), .int .u64 ((rd_T56 x7_1 x16_1).f4), .int .i64 ((rd_T56 x7_1 x16_1).f5), .slice A212_6 ((rd_T56 x7_1 x16_1).f6).length c212_6]] rfl (by (try simp only [List.map_toArray, List.map_cons, List.map_nil]); first | done | rfl | (simp only [List.length_drop, List.length_take]; rfl)) ?_; (with_reducible refine (event_placed.calls k1 ((rd_T56 x7_1 x16_1).f0) ((rd_T56 x7_1 x16_1).f1) ((rd_T56 x7_1 x16_1).f2) ((rd_T56 x7_1 x16_1).f3) ((rd_T56 x7_1 x16_1).f4) ((rd_T56 x7_1 x16_1).f5) _ _ ((rd_T56 x7_1 x16_1).f6) true _ ?side1 ?side2 A12.out).mono ?_); (case side1 => repeat (first | exact (by repeat (first | (with_reducible exact HR212_6.out) | (with_reducible refine Kd.C_alloc ?_ _) | (with_reducible refine Kd.C_drewN ?_ _) | (with_reducible refine Kd.C_drew ?_) | exact HR212_6.out)) | (with_reducible refine Kd.C_alloc ?_ _) | (with_reducible refine Kd.C_drewN ?_ _) | (with_reducible refine Kd.C_drew ?_))); (case side2 => exact HC212_6.out); rintro e w16 ⟨rfl, hb⟩; refine ⟨_, rfl, ?_⟩; have n0_ := Aside0.mk (Kd.S_below (by (with_reducible repeat (first | apply Kd.S_alloc | apply Kd.S_drewN | apply Kd.S_drew)); exact HO_7.out) hb); have n1_ := Aside0.mk (Kd.R_below (by (with_reducible repeat (first | apply Kd.R_alloc | apply Kd.R_drewN | apply Kd.R_drew)); exact HL212_6.out) hb); have n2_ := Aside0.mk (Kd.C_below (by repeat (first | (with_reducible exact HR212_6.out) | (with_reducible refine Kd.C_alloc ?_ _) | (with_reducible refine Kd.C_drewN ?_ _) | (with_reducible refine Kd.C_drew ?_) | exact HR212_6.out)) hb); have n3_ := Aside0.mk (below_step (by repeat (first | (with_reducible first | exact HB.out | apply below_alloc | apply pw_below_drewN | apply below_drew1) | exact HB.out)) hb); clear HO_7; clear HL212_6; clear HR212_6; clear HB; have HO_7 := n0_; have HL212_6 := n1_; have HR212_6 := n2_; have HB := n3_; clear n0_ n1_ n2_ n3_; (try clear hb); (try clear hb2); (try clear hk); (try clear hi); have p214 : 0 ≤ (x16_1 : Int) := of_decide_eq_true (by first | (with_reducible assumption) | assumption); have q214 : x16_1 < (x7_1.length : Int) := of_decide_eq_true (by first | (with_reducible assumption) | assumption); obtain ⟨ad214, A214_6, c214_6, e214, hx214_0, hx214_1, hx214_2, hx214_3, hx214_4, hx214_5, hx214_6, hl214_6, hi214_6⟩ := at_T56 (Kd.S_reads' HO_7.out).2.2 x16_1 p214 q214; obtain rfl : ad212 = ad214 := (by injection e214); obtain ⟨ce214, hce214, hMe214, hcc214⟩ := Kd.S_get HO_7.out z56 x16_1 p214 (by first | exact q214 | exact of_decide_eq_true (by first | (with_reducible assumption) | assumption) | (have e_ := (Kd.S_reads' HO_7.out).1; omega)); obtain ⟨ve214_6, rfl, ge214_6⟩ := k56_openM hMe214; have hv214_6 := hcc214 6 _ rfl; rw [add_field _ _ 6 (by omega)] at hv214_6; replace hv214_6 := Option.some.inj (hv214_6.symm.trans hx214_6); rw [hv214_6] at ge214_6; have HL214_6 := Aside0.mk (show Kd.R (Kd.int .i64) 3 _ _ _ _ ((rd_T56 x7_1 x16_1).f6) from ge214_6); clear hv214_6 ge214_6; clear hcc214 hce214; have HR214_6 := Aside0.mk hi214_6; have HC214_6 := Aside0.mk hl214_6; clear hi214_6 hl214_6; replace p214 := eq_true p214; replace q214 := eq_true q214) | ((with_reducible refine gate_callee (f := 27) rfl ?_); refine goesL_ (some 33) rfl rfl Try.func27 (by kernel_rfl) rfl #[.int .i64 a0, .int .u64 ((rd_T56 x7_1 x16_1).f4), .int .u64 a1] rfl (by (try simp only [List.map_toArray, List.map_cons, List.map_nil]); first | done | rfl | (simp only [List.length_drop, List.length_take]; rfl)) ?_; (with_reducible refine (wide_Gap.calls a0 ((rd_T56 x7_1 x16_1).f4) a1 t215 _ A14.out).mono ?_); rintro e w' ⟨rfl, ⟨nd, rfl⟩⟩; refine ⟨_, rfl, ?_⟩; (try (rw [drewN_self w16]; generalize hq_ : World.drewN w16 _ = w16; have n0_ : Aside0 (Kd.R (Kd.int .i64) 3 w16 w.heap.size (fun k_ => some k_ ≠ (.slice (some ad212) x7_1.length co8 : Value).ownBlock) (.slice A212_6 ((rd_T56 x7_1 x16_1).f6).length c212_6) ((rd_T56 x7_1 x16_1).f6)) := ⟨by rw [← hq_]; exact (by (with_reducible repeat (first | apply Kd.R_alloc | apply Kd.R_drewN | apply Kd.R_drew)); exact Kd.R_mono HL212_6.out (fun _ hk => hk.2))⟩; have n1_ : Aside0 (Kd.R (Kd.int .i64) 3 w16 w.heap.size (fun k_ => some k_ ≠ (.slice (some ad212) x7_1.length co8 : Value).ownBlock) (.slice A214_6 ((rd_T56 x7_1 x16_1).f6).length c214_6) ((rd_T56 x7_1 x16_1).f6)) := ⟨by rw [← hq_]; exact (by (with_reducible repeat (first | apply Kd.R_alloc | apply Kd.R_drewN | apply Kd.R_drew)); exact Kd.R_mono HL214_6.out (fun _ hk => hk.2))⟩; have n2_ : Aside0 (Kd.S k56 56 w16 w.heap.size (fun _ => True) (.slice (some ad212) x7_1.length co8) x7_1) := ⟨by rw [← hq_]; exact (by (with_reducible repeat (first | apply Kd.S_alloc | apply Kd.S_drewN | apply Kd.S_drew)); exact HO_7.out)⟩; have n3_ : Aside0 (Below w.heap.size w w16) := ⟨by rw [← hq_]; exact (by repeat (first | (with_reducible first | exact HB.out | apply below_alloc | apply pw_below_drewN | apply below_drew1) | exact HB.out))⟩; have n4_ : Aside0 (Kd.C (Kd.int .i64) w16 A212_6 ((rd_T56 x7_1 x16_1).f6).length ((rd_T56 x7_1 x16_1).f6)) := ⟨by rw [← hq_]; exact (by repeat (first | (with_reducible exact HR212_6.out) | (with_reducible refine Kd.C_alloc ?_ _) | (with_reducible refine Kd.C_drewN ?_ _) | (with_reducible refine Kd.C_drew ?_) | exact HR212_6.out))⟩; have n5_ : Aside0 (Kd.C (Kd.int .i64) w16 A214_6 ((rd_T56 x7_1 x16_1).f6).length ((rd_T56 x7_1 x16_1).f6)) := ⟨by rw [← hq_]; exact (by repeat (first | (with_reducible exact HR214_6.out) | (with_reducible refine Kd.C_alloc ?_ _) | (with_reducible refine Kd.C_drewN ?_ _) | (with_reducible refine Kd.C_drew ?_) | exact HR214_6.out))⟩; clear HL212_6 HL214_6 HO_7 HB HR212_6 HR214_6 hq_; have HL212_6 := n0_; have HL214_6 := n1_; have HO_7 := n2_; have HB := n3_; have HR212_6 := n4_; have HR214_6 := n5_; clear n0_ n1_ n2_ n3_ n4_ n5_)); have p15 : 0 ≤ (x16_1 : Int) := of_decide_eq_true (by first | (with_reducible assumption) | assumption); have q15 : (x16_1 : Int) < ((x7_1.length : Int) : Int) := of_decide_eq_true (by first | (with_reducible assumption) | assumption); obtain ⟨go15, co15, eo15, gb15, gl15, cl15, HG15⟩ := Kd.S_form HO_7.out (by omega); (first | cases eo15 | (injection eo15 with ea_ en_ ec_; (first | subst ea_ | (injection ea_ with ea_; subst ea_)); subst ec_; clear en_)); have GB15 := Aside0.mk gb15; have GG15 := Aside0.mk HG15; clear gb15 gl15 HG15; (first | simp only [add_plain] at hx212_0 | skip); (first | simp only [add_plain] at hx212_1 | skip); (first | simp only [add_plain] at hx212_2 | skip); (first | simp only [add_plain] at hx212_3 | skip); (first | simp only [add_plain] at hx212_4 | skip); (first | simp only [add_plain] at hx212_5 | skip); (first | simp only [add_plain] at hx212_6 | skip); (first | simp only [add_plain] at hx214_0 | skip); (first | simp only [add_plain] at hx214_1 | skip); (first | simp only [add_plain] at hx214_2 | skip); (first | simp only [add_plain] at hx214_3 | skip); (first | simp only [add_plain] at hx214_4 | skip); (first | simp only [add_plain] at hx214_5 | skip); (first | simp only [add_plain] at hx214_6 | skip); obtain ⟨_, ce15, hcl15, hM15, hcc15, hfr15, _, _⟩ := Kd.S_elem HO_7.out z56 (x16_1 : Int) p15 q15; obtain ⟨ve15_6, rfl, ge15_6⟩ := k56_openM hM15; have hx15_0 : w16.cell? ⟨go15, (x16_1 : Int).toNat * 7, none⟩ = some (.int .i64 ((rd_T56 x7_1 x16_1).f0)) := hcc15 0 _ rfl; have hx15_1 : w16.cell? ⟨go15, (x16_1 : Int).toNat * 7 + 1, none⟩ = some (.int .i64 ((rd_T56 x7_1 x16_1).f1)) := hcc15 1 _ rfl; have hx15_2 : w16.cell? ⟨go15, (x16_1 : Int).toNat * 7 + 2, none⟩ = some (.int .i64 ((rd_T56 x7_1 x16_1).f2)) := hcc15 2 _ rfl; have hx15_3 : w16.cell? ⟨go15, (x16_1 : Int).toNat * 7 + 3, none⟩ = some (.int .i64 ((rd_T56 x7_1 x16_1).f3)) := hcc15 3 _ rfl; have hx15_4 : w16.cell? ⟨go15, (x16_1 : Int).toNat * 7 + 4, none⟩ = some (.int .u64 ((rd_T56 x7_1 x16_1).f4)) := hcc15 4 _ rfl; have hx15_5 : w16.cell? ⟨go15, (x16_1 : Int).toNat * 7 + 5, none⟩ = some (.int .i64 ((rd_T56 x7_1 x16_1).f5)) := hcc15 5 _ rfl; have hx15_6 : w16.cell? ⟨go15, (x16_1 : Int).toNat * 7 + 6, none⟩ = some (ve15_6) := hcc15 6 _ rfl; have hf15_0 : w16.frozen? ⟨go15, (x16_1 : Int).toNat * 7, none⟩ = false := hfr15 0; have hf15_1 : w16.frozen? ⟨go15, (x16_1 : Int).toNat * 7 + 1, none⟩ = false := hfr15 1; have hf15_2 : w16.frozen? ⟨go15, (x16_1 : Int).toNat * 7 + 2, none⟩ = false := hfr15 2; have hf15_3 : w16.frozen? ⟨go15, (x16_1 : Int).toNat * 7 + 3, none⟩ = false := hfr15 3; have hf15_4 : w16.frozen? ⟨go15, (x16_1 : Int).toNat * 7 + 4, none⟩ = false := hfr15 4; have hf15_5 : w16.frozen? ⟨go15, (x16_1 : Int).toNat * 7 + 5, none⟩ = false := hfr15 5; have hf15_6 : w16.frozen? ⟨go15, (x16_1 : Int).toNat * 7 + 6, none⟩ = false := hfr15 6; clear hcl15 hcc15 hfr15 hM15; replace p15 := eq_true p15; replace q15 := eq_true q15; have HX17 := Aside0.mk (show Kd.S k56 56 w16 w.heap.size (fun k_ => ((fun _ => True)) k_ ∧ ¬ ((fun _ => False)) k_) (.slice (some ⟨go15, 0, none⟩) x7_1.length co8) x7_1 from (by (with_reducible repeat (first | apply Kd.S_alloc | apply Kd.S_drewN | apply Kd.S_drew)); exact Kd.S_mono HO_7.out (fun k_ hk => ⟨trivial, fun e_ => e_⟩))); obtain ⟨oki17, ce17, hcl17, hM17, hcc17, hfr17, hoki17, hH17⟩ := Kd.S_elem HX17.out z56 (x16_1 : Int) (of_decide_eq_true (by first | (with_reducible assumption) | assumption)) (by have h_ : (x16_1 : Int) < ((x7_1.length : Int) : Int) := of_decide_eq_true (by first | (with_reducible assumption) | assumption); first | exact h_ | (have e_ := (Kd.S_reads' HO_7.out).1; omega) | simpa using h_); obtain ⟨ve17_6, rfl, ge17_6⟩ := k56_openM hM17; have HP17 := Kd.S_seg hH17 (of_decide_eq_true (by first | (with_reducible assumption) | assumption)) (by have h_ : (x16_1 : Int) < ((x7_1.length : Int) : Int) := of_decide_eq_true (by first | (with_reducible assumption) | assumption); first | exact h_ | (have e_ := (Kd.S_reads' HO_7.out).1; omega) | simpa using h_) (seg := [.int .u64 (IntKind.u64.wrap (t215))]) (j := 4) (show 5 ≤ 7 from by decide) (x' := (⟨(rd_T56 x7_1 x16_1).f0, (rd_T56 x7_1 x16_1).f1, (rd_T56 x7_1 x16_1).f2, (rd_T56 x7_1 x16_1).f3, IntKind.u64.wrap (t215), (rd_T56 x7_1 x16_1).f5, (rd_T56 x7_1 x16_1).f6⟩ : S56)) (k56_mkM _ _ _ (⟨(rd_T56 x7_1 x16_1).f0, (rd_T56 x7_1 x16_1).f1, (rd_T56 x7_1 x16_1).f2, (rd_T56 x7_1 x16_1).f3, IntKind.u64.wrap (t215), (rd_T56 x7_1 x16_1).f5, (rd_T56 x7_1 x16_1).f6⟩ : S56) (Kd.R_mono ge17_6 (fun _ h_ => Or.inl h_))) (fun _ hk => hk) (fun k_ hk_ => hk_.elim); have hx17_4 := hcc17 4 _ rfl; (try simp only [show (k56).sz = 7 from rfl, Nat.mul_one, Nat.add_zero] at hx17_4); have hf17_4 := hfr17 4; (try simp only [show (k56).sz = 7 from rfl, Nat.mul_one, Nat.add_zero] at hf17_4); clear hcl17 hcc17 hfr17 hM17 hoki17 hH17) | ((with_reducible refine gate_store (t := 22) (p := 36) rfl ?_); refine store_event (t := 22) (p := 36) (v := ?vo_w18) (w1 := (w16.setCell ⟨go15, (x16_1 : Int).toNat * 7 + 4, none⟩ (.int .u64 (IntKind.u64.wrap (t215))))) ?hg ?ho ?hn ?hr ?_; (case ho => rfl); (case hg => rfl); (case hn => rfl); (case hr => first | (go_simp; done) | (go_simp; rfl)); intro w18 hw; have hg : w16.grownBy w18 (some go15) := (by rw [hw]; exact HP17.2); have hp_ : Kd.S k56 56 w18 w.heap.size (fun _ => True) (.slice (some ⟨go15, 0, none⟩) x7_1.length co8) y216 := (by rw [hw, Ny216.out]; exact HP17.1); clear HP17; have n0_ := Aside0.mk (hp_); have n1_ := Aside0.mk (Kd.R_after (v := (.slice (some ⟨go15, 0, none⟩) x7_1.length co8)) (v1 := (.slice (some ⟨go15, 0, none⟩) x7_1.length co8)) (ok := (fun _ => True)) (by (with_reducible repeat (first | apply Kd.R_alloc | apply Kd.R_drewN | apply Kd.R_drew)); exact HL212_6.out) hg (.inl rfl)); have n2_ := Aside0.mk (Kd.R_after (v := (.slice (some ⟨go15, 0, none⟩) x7_1.length co8)) (v1 := (.slice (some ⟨go15, 0, none⟩) x7_1.length co8)) (ok := (fun _ => True)) (by (with_reducible repeat (first | apply Kd.R_alloc | apply Kd.R_drewN | apply Kd.R_drew)); exact HL214_6.out) hg (.inl rfl)); have n3_ := Aside0.mk ((by rw [hw]; exact below_set (HB.out) GB15.out : Below w.heap.size w w18)); clear HO_7; clear HL212_6; clear HL214_6; clear HB; have HO_7 := n0_; have HL212_6 := n1_; have HL214_6 := n2_; have HB := n3_; clear n0_ n1_ n2_ n3_; clear hg hw hp_))
                (try simp only [← hl7_1])
                go_roundg k1
                case measure => have := HK1.out; omega
                case rel => exact ⟨(y216), (wrap64 (x16_1 + 1)), (by first | rfl | (simp; done) | (simp [*]; done)), H', ⟨by have := HK1.out; omega⟩, ⟨by rw [Ny216.out, hl7_1]; exact HP17.1⟩, ⟨below_set HB.out GB15.out⟩⟩
              · replace c13 := Bool.eq_false_iff.mpr c13
                subst c13
                have H1 : (event_Shift.l0 k1 a0 a1 x7_1 (t209.length : Int) (wrap64 (x16_1 + 1))) = some r := by rw [if_neg (show ¬ (false = true) by decide)] at H; exact H
                clear H
                have H := H1
                clear H1
                have H' := Aside0.mk H
                clear H
                have p212 : 0 ≤ (x16_1 : Int) := of_decide_eq_true (by first | (with_reducible assumption) | assumption)
                have q212 : x16_1 < (x7_1.length : Int) := of_decide_eq_true (by first | (with_reducible assumption) | assumption)
                obtain ⟨ad212, A212_6, c212_6, e212, hx212_0, hx212_1, hx212_2, hx212_3, hx212_4, hx212_5, hx212_6, hl212_6, hi212_6⟩ := at_T56 (Kd.S_reads' HO_7.out).2.2 x16_1 p212 q212
                cases e212
                obtain ⟨ce212, hce212, hMe212, hcc212⟩ := Kd.S_get HO_7.out z56 x16_1 p212 (by first | exact q212 | exact of_decide_eq_true (by first | (with_reducible assumption) | assumption) | (have e_ := (Kd.S_reads' HO_7.out).1; omega))
                obtain ⟨ve212_6, rfl, ge212_6⟩ := k56_openM hMe212
                have hv212_6 := hcc212 6 _ rfl
                rw [add_field _ _ 6 (by omega)] at hv212_6
                replace hv212_6 := Option.some.inj (hv212_6.symm.trans hx212_6)
                rw [hv212_6] at ge212_6
                have HL212_6 := Aside0.mk (show Kd.R (Kd.int .i64) 3 _ _ _ _ ((rd_T56 x7_1 x16_1).f6) from ge212_6)
                clear hv212_6 ge212_6
                clear hcc212 hce212
                have HR212_6 := Aside0.mk hi212_6
                have HC212_6 := Aside0.mk hl212_6
                clear hi212_6 hl212_6
                replace p212 := eq_true p212
                replace q212 := eq_true q212
                go_wp2_with (first | ((with_reducible refine gate_callee (f := 72) rfl ?_); refine goesL_ (some 23) rfl rfl Try.func72 (by kernel_rfl) rfl #[.agg #[.int .i64 ((rd_T56 x7_1 x16_1).f0), .int .i64 ((rd_T56 x7_1 x16_1).f1), .int .i64 ((rd_T56 x7_1 x16_1).f2), .int .i64 ((rd_T56 x7_1 x16_1).f3), .int .u64 ((rd_T56 x7_1 x16_1).f4), .int .i64 ((rd_T56 x7_1 x16_1).f5), .slice A212_6 ((rd_T56 x7_1 x16_1).f6).length c212_6]] rfl (by (try simp only [List.map_toArray, List.map_cons, List.map_nil]); first | done | rfl | (simp only [List.length_drop, List.length_take]; rfl)) ?_; (with_reducible refine (event_placed.calls k1 ((rd_T56 x7_1 x16_1).f0) ((rd_T56 x7_1 x16_1).f1) ((rd_T56 x7_1 x16_1).f2) ((rd_T56 x7_1 x16_1).f3) ((rd_T56 x7_1 x16_1).f4) ((rd_T56 x7_1 x16_1).f5) _ _ ((rd_T56 x7_1 x16_1).f6) false _ ?side1 ?side2 A12.out).mono ?_); (case side1 => repeat (first | exact (by repeat (first | (with_reducible exact HR212_6.out) | (with_reducible refine Kd.C_alloc ?_ _) | (with_reducible refine Kd.C_drewN ?_ _) | (with_reducible refine Kd.C_drew ?_) | exact HR212_6.out)) | (with_reducible refine Kd.C_alloc ?_ _) | (with_reducible refine Kd.C_drewN ?_ _) | (with_reducible refine Kd.C_drew ?_))); (case side2 => exact HC212_6.out); rintro e w19 ⟨rfl, hb⟩; refine ⟨_, rfl, ?_⟩; have n0_ := Aside0.mk (Kd.S_below (by (with_reducible repeat (first | apply Kd.S_alloc | apply Kd.S_drewN | apply Kd.S_drew)); exact HO_7.out) hb); have n1_ := Aside0.mk (Kd.R_below (by (with_reducible repeat (first | apply Kd.R_alloc | apply Kd.R_drewN | apply Kd.R_drew)); exact HL212_6.out) hb); have n2_ := Aside0.mk (Kd.C_below (by repeat (first | (with_reducible exact HR212_6.out) | (with_reducible refine Kd.C_alloc ?_ _) | (with_reducible refine Kd.C_drewN ?_ _) | (with_reducible refine Kd.C_drew ?_) | exact HR212_6.out)) hb); have n3_ := Aside0.mk (below_step (by repeat (first | (with_reducible first | exact HB.out | apply below_alloc | apply pw_below_drewN | apply below_drew1) | exact HB.out)) hb); clear HO_7; clear HL212_6; clear HR212_6; clear HB; have HO_7 := n0_; have HL212_6 := n1_; have HR212_6 := n2_; have HB := n3_; clear n0_ n1_ n2_ n3_; (try clear hb); (try clear hb2); (try clear hk); (try clear hi)))
                (try simp only [← hl7_1])
                go_roundg k1
                case measure => have := HK1.out; omega
                case rel => exact ⟨(x7_1), (wrap64 (x16_1 + 1)), (by first | rfl | (simp; done) | (simp [*]; done)), H', ⟨by have := HK1.out; omega⟩, ⟨by (try simp only [hl7_1]); (with_reducible repeat (first | apply Kd.S_alloc | apply Kd.S_drewN | apply Kd.S_drew)); exact HO_7.out⟩, ⟨by repeat (first | (with_reducible first | exact HB.out | apply below_alloc | apply pw_below_drewN | apply below_drew1) | exact HB.out)⟩⟩
            · rw [if_neg c11] at H
              exact absurd H (by simp)
          · rw [if_neg c10] at H
            exact absurd H (by simp)
        · rw [if_neg c9] at H
          have c9b0 : decide (x16_1 < (t209.length : Int)) = false := decide_eq_false c9
          rw [hl7_1] at c9b0
          clear c9
          obtain rfl := Option.some.inj H
          go_wp2
          go_ret
          exact ⟨_, by first | rfl | (simp [errW_none, errW_some] <;> rfl) | (simp [*, errW_none, errW_some] <;> rfl), by (with_reducible repeat (first | apply Kd.S_alloc | apply Kd.S_drewN | apply Kd.S_drew)); exact HO_7.out, by repeat (first | (with_reducible first | exact HB.out | apply below_alloc | apply pw_below_drewN | apply below_drew1) | exact HB.out)⟩
  · replace c5 := Bool.eq_false_iff.mpr c5
    subst c5
    have H1 : (some ([] : List (S56))) = some r := by rw [if_neg (show ¬ (false = true) by decide)] at H; exact H
    clear H
    have H := H1
    clear H1
    obtain rfl := Option.some.inj H
    go_enter Try.func46, Try.ntmps46
    go_wp2_with (first | ((with_reducible refine gate_callee (f := 23) rfl ?_); refine goesL_ (some 10) rfl rfl Try.func23 (by kernel_rfl) rfl #[.int .i64 a0] rfl (by (try simp only [List.map_toArray, List.map_cons, List.map_nil]); first | done | rfl | (simp only [List.length_drop, List.length_take]; rfl)) ?_; (with_reducible refine (wide_Right.calls a0 false _ A4.out).mono ?_); rintro e w' ⟨rfl, ⟨nd, rfl⟩⟩; refine ⟨_, rfl, ?_⟩))
    go_ret
    exact ⟨_, by first | rfl | (simp [errW_none, errW_some] <;> rfl) | (simp [*, errW_none, errW_some] <;> rfl), by first | exact Kd.S_nil _ _ _ _ _ | exact Kd.N_nil _ _ _ _ _ | exact Kd.V_nil _ _ _ _ _ | exact Kd.Q_nil _ _ _ _ _ | exact Kd.R_nil _ _ _ _ _, by repeat (first | (with_reducible first | exact HB.out | apply below_alloc | apply pw_below_drewN | apply below_drew1) | exact HB.out)⟩

/-! ### sakiaref01_Cut: function 26 -/
def sakiaref01_Cut.f (a0 : Int) (a1 : Int) : Option (Int) := if a0 = 32 then (some (Int.tmod a1 4294967296)) else (if a0 = 64 then (some a1) else (some 0))
set_option maxHeartbeats 8000000 in
set_option maxRecDepth 100000 in
theorem sakiaref01_Cut.calls (a0 : Int) (a1 : Int) (r : Int) (w : World) (h : sakiaref01_Cut.f a0 a1 = some r) :
    Calls Try.prog 26 #[.int .i64 a0, .int .u64 a1] w fun e w' => e = .returned (.int .u64 r) ∧ Drawn0 w w' := by
  have H : (if a0 = 32 then (some (Int.tmod a1 4294967296)) else (if a0 = 64 then (some a1) else (some 0))) = some r := h
  clear h
  by_cases c3 : a0 = 32
  · rw [if_pos c3] at H
    have c3b0 : (a0 == 32) = true := beq_iff_eq.mpr c3
    have c3b1 : (a0 != 32) = false := bne_eq_false_iff_eq.mpr c3
    clear c3
    obtain rfl := Option.some.inj H
    go_enter Try.func26, Try.ntmps26
    go_wp2
    go_ret
    exact ⟨by first | rfl | (simp; done) | (simp [*]; done), by repeat (first | exact Drawn0.refl _ | apply Drawn0.step)⟩
  · rw [if_neg c3] at H
    have c3b0 : (a0 == 32) = false := beq_eq_false_iff_ne.mpr c3
    have c3b1 : (a0 != 32) = true := bne_iff_ne.mpr c3
    by_cases c4 : a0 = 64
    · rw [if_pos c4] at H
      have c4b0 : (a0 == 64) = true := beq_iff_eq.mpr c4
      have c4b1 : (a0 != 64) = false := bne_eq_false_iff_eq.mpr c4
      clear c4
      obtain rfl := Option.some.inj H
      go_enter Try.func26, Try.ntmps26
      go_wp2
      go_ret
      exact ⟨by first | rfl | (simp; done) | (simp [*]; done), by repeat (first | exact Drawn0.refl _ | apply Drawn0.step)⟩
    · rw [if_neg c4] at H
      have c4b0 : (a0 == 64) = false := beq_eq_false_iff_ne.mpr c4
      have c4b1 : (a0 != 64) = true := bne_iff_ne.mpr c4
      obtain rfl := Option.some.inj H
      go_enter Try.func26, Try.ntmps26
      go_wp2
      go_ret
      exact ⟨by first | rfl | (simp; done) | (simp [*]; done), by repeat (first | exact Drawn0.refl _ | apply Drawn0.step)⟩

/-! ### sakiaref01_Plus: function 30 -/
def sakiaref01_Plus.f (a0 : Int) (a1 : Int) (a2 : Int) : Option (Int) := (sakiaref01_Cut.f a0 (IntKind.u64.wrap (a1 + (IntKind.u64.wrap (a2))))).bind fun t217 => (some t217)
set_option maxHeartbeats 8000000 in
set_option maxRecDepth 100000 in
theorem sakiaref01_Plus.calls (a0 : Int) (a1 : Int) (a2 : Int) (r : Int) (w : World) (h : sakiaref01_Plus.f a0 a1 a2 = some r) :
    Calls Try.prog 30 #[.int .i64 a0, .int .u64 a1, .int .i64 a2] w fun e w' => e = .returned (.int .u64 r) ∧ Drawn0 w w' := by
  have H : ((sakiaref01_Cut.f a0 (IntKind.u64.wrap (a1 + (IntKind.u64.wrap (a2))))).bind fun t217 => (some t217)) = some r := h
  clear h
  replace H := Option.bind_eq_some_iff.mp H
  obtain ⟨t217, A40, H⟩ := H
  replace H : (some t217) = some r := H
  have A4 := Aside0.mk A40
  clear A40
  obtain rfl := Option.some.inj H
  go_enter Try.func30, Try.ntmps30
  go_wp2_with (first | ((with_reducible refine gate_callee (f := 26) rfl ?_); refine goesL_ (some 12) rfl rfl Try.func26 (by kernel_rfl) rfl #[.int .i64 a0, .int .u64 (IntKind.u64.wrap (a1 + (IntKind.u64.wrap (a2))))] rfl (by (try simp only [List.map_toArray, List.map_cons, List.map_nil]); first | done | rfl | (simp only [List.length_drop, List.length_take]; rfl)) ?_; (with_reducible refine (sakiaref01_Cut.calls a0 (IntKind.u64.wrap (a1 + (IntKind.u64.wrap (a2)))) t217 _ A4.out).mono ?_); rintro e w' ⟨rfl, ⟨nd, rfl⟩⟩; refine ⟨_, rfl, ?_⟩))
  go_ret
  exact ⟨by first | rfl | (simp; done) | (simp [*]; done), by repeat (first | exact Drawn0.refl _ | apply Drawn0.step)⟩

-- NOT PRINTED: function 47 (sakiaref15_Merge)

/-! ### sakiaref01_Gap: function 29 -/
def sakiaref01_Gap.f (a0 : Int) (a1 : Int) (a2 : Int) : Option (Int) := if a0 = 64 then (some (wrap64 (IntKind.u64.wrap (a1 - a2)))) else (if a0 = 32 then (if (Int.tmod (IntKind.u64.wrap ((IntKind.u64.wrap ((Int.tmod a1 4294967296) + 4294967296)) - (Int.tmod a2 4294967296))) 4294967296) ≥ 2147483648 then (some (wrap64 ((wrap64 (Int.tmod (IntKind.u64.wrap ((IntKind.u64.wrap ((Int.tmod a1 4294967296) + 4294967296)) - (Int.tmod a2 4294967296))) 4294967296)) - 4294967296))) else (some (wrap64 (Int.tmod (IntKind.u64.wrap ((IntKind.u64.wrap ((Int.tmod a1 4294967296) + 4294967296)) - (Int.tmod a2 4294967296))) 4294967296)))) else (some 0))
set_option maxHeartbeats 8000000 in
set_option maxRecDepth 100000 in
theorem sakiaref01_Gap.calls (a0 : Int) (a1 : Int) (a2 : Int) (r : Int) (w : World) (h : sakiaref01_Gap.f a0 a1 a2 = some r) :
    Calls Try.prog 29 #[.int .i64 a0, .int .u64 a1, .int .u64 a2] w fun e w' => e = .returned (.int .i64 r) ∧ Drawn0 w w' := by
  have H : (if a0 = 64 then (some (wrap64 (IntKind.u64.wrap (a1 - a2)))) else (if a0 = 32 then (if (Int.tmod (IntKind.u64.wrap ((IntKind.u64.wrap ((Int.tmod a1 4294967296) + 4294967296)) - (Int.tmod a2 4294967296))) 4294967296) ≥ 2147483648 then (some (wrap64 ((wrap64 (Int.tmod (IntKind.u64.wrap ((IntKind.u64.wrap ((Int.tmod a1 4294967296) + 4294967296)) - (Int.tmod a2 4294967296))) 4294967296)) - 4294967296))) else (some (wrap64 (Int.tmod (IntKind.u64.wrap ((IntKind.u64.wrap ((Int.tmod a1 4294967296) + 4294967296)) - (Int.tmod a2 4294967296))) 4294967296)))) else (some 0))) = some r := h
  clear h
  by_cases c4 : a0 = 64
  · rw [if_pos c4] at H
    have c4b0 : (a0 == 64) = true := beq_iff_eq.mpr c4
    have c4b1 : (a0 != 64) = false := bne_eq_false_iff_eq.mpr c4
    clear c4
    obtain rfl := Option.some.inj H
    go_enter Try.func29, Try.ntmps29
    go_wp2
    go_ret
    exact ⟨by first | rfl | (simp; done) | (simp [*]; done), by repeat (first | exact Drawn0.refl _ | apply Drawn0.step)⟩
  · rw [if_neg c4] at H
    have c4b0 : (a0 == 64) = false := beq_eq_false_iff_ne.mpr c4
    have c4b1 : (a0 != 64) = true := bne_iff_ne.mpr c4
    by_cases c5 : a0 = 32
    · rw [if_pos c5] at H
      have c5b0 : (a0 == 32) = true := beq_iff_eq.mpr c5
      have c5b1 : (a0 != 32) = false := bne_eq_false_iff_eq.mpr c5
      clear c5
      by_cases c6 : (Int.tmod (IntKind.u64.wrap ((IntKind.u64.wrap ((Int.tmod a1 4294967296) + 4294967296)) - (Int.tmod a2 4294967296))) 4294967296) ≥ 2147483648
      · rw [if_pos c6] at H
        have c6b0 : decide (2147483648 ≤ (Int.tmod (IntKind.u64.wrap ((IntKind.u64.wrap ((Int.tmod a1 4294967296) + 4294967296)) - (Int.tmod a2 4294967296))) 4294967296)) = true := decide_eq_true c6
        clear c6
        obtain rfl := Option.some.inj H
        go_enter Try.func29, Try.ntmps29
        go_wp2
        go_ret
        exact ⟨by first | rfl | (simp; done) | (simp [*]; done), by repeat (first | exact Drawn0.refl _ | apply Drawn0.step)⟩
      · rw [if_neg c6] at H
        have c6b0 : decide (2147483648 ≤ (Int.tmod (IntKind.u64.wrap ((IntKind.u64.wrap ((Int.tmod a1 4294967296) + 4294967296)) - (Int.tmod a2 4294967296))) 4294967296)) = false := decide_eq_false c6
        clear c6
        obtain rfl := Option.some.inj H
        go_enter Try.func29, Try.ntmps29
        go_wp2
        go_ret
        exact ⟨by first | rfl | (simp; done) | (simp [*]; done), by repeat (first | exact Drawn0.refl _ | apply Drawn0.step)⟩
    · rw [if_neg c5] at H
      have c5b0 : (a0 == 32) = false := beq_eq_false_iff_ne.mpr c5
      have c5b1 : (a0 != 32) = true := bne_iff_ne.mpr c5
      obtain rfl := Option.some.inj H
      go_enter Try.func29, Try.ntmps29
      go_wp2
      go_ret
      exact ⟨by first | rfl | (simp; done) | (simp [*]; done), by repeat (first | exact Drawn0.refl _ | apply Drawn0.step)⟩

-- NOT PRINTED: function 48 (sakiaref15_Shift)

-- NOT PRINTED: function 9 (sakialaw15_EventMerges)

end Go.Proofs.Ytjaiodlfgpndoaa.QEv
