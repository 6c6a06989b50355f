/- The program's ledger: which code a call has, whether it waits. -/
import Derived.Test.YtgibmlbdkijflaaDoorSoOne
import Derived.Test.YtgibmlbdkijflaaDoorWZeros
import Derived.Test.YtgibmlbdkijflaaDoorWShare
import Derived.Deep.DeepMust
set_option linter.unusedVariables false
set_option linter.unusedSimpArgs false
set_option maxRecDepth 100000
namespace Go.Proofs.YtgibmlbdkijflaaDoor.So
open Go.RowKit Go.Proofs.YtgibmlbdkijflaaDoorW.PrintWords Go.Proofs.YtgibmlbdkijflaaDoorW.PrintLast Go.Proofs.YtgibmlbdkijflaaDoorW.PrintMore
open Ow
open Mo (Aside Cx U64 I64 ints least run cutW plusW New below_low tn1 meas1 w64 i1 wrapE)
open QGc (checkC)
open Graph (checkG Gv)
theorem outB_yes {n m : Int} (h : outB n m = true) : n < 1 ∨ n > m := by
  unfold outB at h
  simp only [Bool.or_eq_true, decide_eq_true_eq] at h
  omega
theorem outB_no {n m : Int} (h : outB n m = false) : ¬ (n < 1 ∨ n > m) := by
  unfold outB at h
  simp only [Bool.or_eq_false_iff, decide_eq_false_iff_not] at h
  omega
theorem gs_cells {base : Nat} {w : World} {B : Nat} {k : Lk} {cx : Cx} {lp : Lp} {st : Ls} {i : Nat} (h : Lm base w B k cx lp st i) {j gq sq : Nat} (hj : j < cx.up.length) (eG : k.G = some ⟨gq, 0, none⟩) (eS : k.S = some ⟨sq, 0, none⟩) : w.cell? ⟨gq, j, none⟩ = some (.int .i64 (st.gate.getD j 0)) ∧ w.cell? ⟨sq, j, none⟩ = some (.int .i64 (st.saw.getD j 0)) ∧ w.cell? ⟨B, 12, none⟩ = some (.slice (some ⟨gq, 0, none⟩) cx.up.length k.gc) ∧ w.cell? ⟨B, 13, none⟩ = some (.slice (some ⟨sq, 0, none⟩) cx.up.length k.sc) := by
  obtain ⟨g2, e1, _, _, a0, _⟩ := h.gate j hj
  obtain ⟨s2, e2, _, _, a1, _⟩ := h.saw j hj
  rw [eG] at e1
  rw [eS] at e2
  injection e1 with e1
  injection e1 with e1
  injection e2 with e2
  injection e2 with e2
  subst e1 e2
  obtain ⟨c0, c1, c2, c3, c4, c5, c6, c7, c8, c9, c10, c11, c12, c13⟩ := h.cells
  rw [eG] at c12
  rw [eS] at c13
  exact ⟨a0, a1, c12, c13⟩
set_option maxHeartbeats 8000000 in
theorem l_codeP {base : Nat} {w : World} {B : Nat} {k : Lk} {cx : Cx} {lp : Lp} {st : Ls} {i : Nat} (h : Lm base w B k cx lp st i) (t : Nat) (ht : t < cx.prod) (c : Cl) (A : Option Addr) (C : Nat) :
    Calls Tryd.prog 38 #[.pointer (some ⟨B, 0, none⟩), .int .i64 (t : Int), .agg #[.int .i64 c.op, .int .i64 c.n, .slice A c.data.length C]] w fun e w' => e = .returned (.int .i64 (codeL cx st t c)) ∧ Below w.heap.size w w' := by
  have hb0 := below_alloc (Below.refl w.heap.size w) (.cells #[.int .i64 c.op, .int .i64 c.n, .slice A c.data.length C] 39)
  have HY := Aside.mk (heap_alloc_new w (.cells #[.int .i64 c.op, .int .i64 c.n, .slice A c.data.length C] 39))
  have HM := Aside.mk (h.below hb0)
  have HW := Aside.mk hb0
  have HP4 := Aside.mk (And.intro h.s.p4 h.s.u6)
  have HT := Aside.mk ht
  obtain ⟨d, hd⟩ : ∃ d, (t : Int) - (cx.prod : Int) = d := ⟨_, rfl⟩
  have ew : wrap64 ((t : Int) - (cx.prod : Int)) = d := (w64 (by have := HP4.out; omega)).trans hd
  have kt : decide (d < 0) = true := decide_eq_true (by omega)
  have g1 : decide ((t : Int) < (cx.prod : Int)) = true := decide_eq_true (by omega)
  have g2 : (t : Int) < (cx.prod : Int) := by omega
  have g3 : decide (t < cx.prod) = true := decide_eq_true ht
  clear hd ht
  clear hb0 h
  go_enter Tryd.func38, Tryd.ntmps38
  go_upto_region 1 with (fail)
  generalize w.alloc (.cells #[.int .i64 c.op, .int .i64 c.n, .slice A c.data.length C] 39) = w2 at *
  obtain ⟨y0, y1, y2⟩ := cell3 HY.out
  obtain ⟨c0, c1, c2, c3, c4, c5, c6, c7, c8, c9, c10, c11, c12, c13⟩ := HM.out.cells
  by_cases hv : c.op = 1
  · have o1 : (c.op == 1) = true := by rw [hv]; rfl
    have o2 : (c.op == 2) = false := by rw [hv]; rfl
    have o3 : (c.op == 3) = false := by rw [hv]; rfl
    have o4 : (c.op == 4) = false := by rw [hv]; rfl
    have o5 : (c.op == 5) = false := by rw [hv]; rfl
    have o6 : (c.op == 6) = false := by rw [hv]; rfl
    have HV := Aside.mk hv
    clear hv
    go_wp2_with fail
    have EC := Aside.mk (show codeL cx st t c = if szC c < 1 ∨ szC c > cx.cap then 13 else if (heldL st t).n > 0 then 14 else 0 from by unfold codeL; rw [if_pos HT.out, if_pos (by have := HV.out; omega)])
    refine start_ (n := 16) (S := fun w' => w'.cell? ⟨w.heap.size, 0, none⟩ = some (.int .i64 c.op) ∧ w'.cell? ⟨w.heap.size, 1, none⟩ = some (.int .i64 c.n) ∧ w'.cell? ⟨w.heap.size, 2, none⟩ = some (.slice A c.data.length C) ∧ w'.cell? ⟨B, 2, none⟩ = some (.int .i64 cx.cap) ∧ True) (ds := []) (bm 16 0) (by kernel_rfl) rfl rfl ⟨(blk_cell (blk_drew HY.out) 0).trans rfl, (blk_cell (blk_drew HY.out) 1).trans rfl, (blk_cell (blk_drew HY.out) 2).trans rfl, (HM.out.below (below_drew1 (Below.refl _ _))).cells.2.2.1, trivial⟩ (fun hHeld => ?_)
    replace HM := Aside.mk (HM.out.below (below_drew1 (Below.refl _ _)))
    replace HW := Aside.mk (HW.out.trans ((below_drew1 (Below.refl _ _)).mono HW.out.size))
    replace HY := Aside.mk (blk_drew HY.out)
    clear y0 y1 y2 c0 c1 c2 c3 c4 c5 c6 c7 c8 c9 c10 c11 c12 c13
    refine pu_ 0 (bm 16 1) ?_
    refine pu_ 1 (bm 16 3) ?_
    refine pu_ 2 (bm 16 7) ?_
    refine pu_ 3 (bm 16 15) ?_
    refine pu_ 4 (bm 16 31) ?_
    refine pu_ 5 (bm 16 63) ?_
    refine ta_ 6 (bm 16 127) hHeld ?_
    refine pu_ 8 (bm 16 383) ?_
    refine pu_ 9 (bm 16 895) ?_
    refine pu_ 10 (bm 16 1919) ?_
    refine pu_ 11 (bm 16 3967) ?_
    refine ta_ 12 (bm 16 8063) hHeld ?_
    refine one_ (i := 7) (N := some 32) (bm 16 8191) rfl rfl (by kernel_rfl) (by decide) (fun K hK => ?_)
    refine goes_ Tryd.func41 (by kernel_rfl) rfl #[.agg #[.int .i64 c.op, .int .i64 c.n, .slice A c.data.length C]] (by rfl) rfl rfl (by (try simp only [List.map_toArray, List.map_cons, List.map_nil]); first | done | rfl) ?_
    refine (l_size c _).mono ?_
    rintro q wd7 ⟨rfl, hb⟩
    refine ⟨_, rfl, ?_⟩
    replace HM := Aside.mk (HM.out.below hb)
    replace HW := Aside.mk (HW.out.trans (hb.mono HW.out.size))
    replace HY := Aside.mk (blk_below HY.out hb)
    clear hb
    refine hK.out _ _ ⟨(blk_cell HY.out 0).trans rfl, (blk_cell HY.out 1).trans rfl, (blk_cell HY.out 2).trans rfl, HM.out.cells.2.2.1, trivial⟩ (fun hHeld => ?_)
    clear hK K
    refine norm_ (a' := ?_) ?_ ?_
    rotate_left
    · show Act.put _ (some 32) _ = _
      simp only [Act.put, List.setIfInBounds_toArray, List.set_cons_zero, List.set_cons_succ, i64_w, i32_w]
      rfl
    refine one_ (i := 13) (N := some 38) (bm 16 16383) rfl rfl (by kernel_rfl) (by decide) (fun K hK => ?_)
    refine goes_ Tryd.func74 (by kernel_rfl) rfl #[.int .i64 (szC c), .int .i64 cx.cap] (by rfl) rfl rfl (by (try simp only [List.map_toArray, List.map_cons, List.map_nil]); first | done | rfl) ?_
    refine (l_outside _ _ _).mono ?_
    rintro q wd13 ⟨rfl, hb⟩
    refine ⟨_, rfl, ?_⟩
    replace HM := Aside.mk (HM.out.below hb)
    replace HW := Aside.mk (HW.out.trans (hb.mono HW.out.size))
    replace HY := Aside.mk (blk_below HY.out hb)
    clear hb
    refine hK.out _ _ ⟨(blk_cell HY.out 0).trans rfl, (blk_cell HY.out 1).trans rfl, (blk_cell HY.out 2).trans rfl, HM.out.cells.2.2.1, trivial⟩ (fun hHeld => ?_)
    clear hK K
    refine norm_ (a' := ?_) ?_ ?_
    rotate_left
    · show Act.put _ (some 38) _ = _
      simp only [Act.put, List.setIfInBounds_toArray, List.set_cons_zero, List.set_cons_succ, i64_w, i32_w]
      rfl
    refine pu_ 14 (bm 16 32767) ?_
    refine pu_ 15 (bm 16 65535) ?_
    refine done_ (by kernel_rfl) ?_
    clear hHeld
    obtain ⟨y0, y1, y2⟩ := cell3 HY.out
    obtain ⟨c0, c1, c2, c3, c4, c5, c6, c7, c8, c9, c10, c11, c12, c13⟩ := HM.out.cells
    cases hob : outB (szC c) cx.cap with
    | true =>
      have HO := Aside.mk (outB_yes hob)
      clear hob
      go_wp2
      go_ret
      exact ⟨by rw [EC.out, if_pos HO.out] <;> rfl, HW.out⟩
    | false =>
      have HO := Aside.mk (outB_no hob)
      clear hob
      obtain ⟨q, eH, _, _, a0, a1, _⟩ := HM.out.held t HT.out
      rw [eH] at c11
      clear eH
      generalize heldL st t = hv at *
      obtain ⟨hf, hn⟩ := hv
      by_cases hh : 0 < hn
      · have u1 : decide (0 < hn) = true := decide_eq_true hh
        have HO2 := Aside.mk hh
        clear hh
        go_wp2
        go_ret
        exact ⟨by rw [EC.out, if_neg HO.out, if_pos (by have := HO2.out; omega)] <;> rfl, HW.out⟩
      · have u1 : decide (0 < hn) = false := decide_eq_false hh
        have HO2 := Aside.mk hh
        clear hh
        go_wp2
        go_ret
        exact ⟨by rw [EC.out, if_neg HO.out, if_neg (by have := HO2.out; omega)] <;> rfl, HW.out⟩
  have h1 := hv
  clear hv
  by_cases hv : c.op = 2
  · have o1 : (c.op == 1) = false := by rw [hv]; rfl
    have o2 : (c.op == 2) = true := by rw [hv]; rfl
    have o3 : (c.op == 3) = false := by rw [hv]; rfl
    have o4 : (c.op == 4) = false := by rw [hv]; rfl
    have o5 : (c.op == 5) = false := by rw [hv]; rfl
    have o6 : (c.op == 6) = false := by rw [hv]; rfl
    have HV := Aside.mk hv
    clear hv
    go_wp2_with fail
    refine start_ (n := 16) (S := fun w' => True) (ds := []) (bm 16 0) (by kernel_rfl) rfl rfl trivial (fun hHeld => ?_)
    replace HM := Aside.mk (HM.out.below (below_drew1 (Below.refl _ _)))
    replace HW := Aside.mk (HW.out.trans ((below_drew1 (Below.refl _ _)).mono HW.out.size))
    replace HY := Aside.mk (blk_drew HY.out)
    clear y0 y1 y2 c0 c1 c2 c3 c4 c5 c6 c7 c8 c9 c10 c11 c12 c13
    refine pu_ 0 (bm 16 1) ?_
    refine pu_ 1 (bm 16 3) ?_
    refine pu_ 2 (bm 16 7) ?_
    refine pu_ 3 (bm 16 15) ?_
    refine pu_ 4 (bm 16 31) ?_
    refine pu_ 5 (bm 16 63) ?_
    refine of_ 6 (bm 16 127) ?_
    refine of_ 7 (bm 16 255) ?_
    refine of_ 8 (bm 16 511) ?_
    refine of_ 9 (bm 16 1023) ?_
    refine of_ 10 (bm 16 2047) ?_
    refine of_ 11 (bm 16 4095) ?_
    refine of_ 12 (bm 16 8191) ?_
    refine of_ 13 (bm 16 16383) ?_
    refine pu_ 14 (bm 16 32767) ?_
    refine pu_ 15 (bm 16 65535) ?_
    refine done_ (by kernel_rfl) ?_
    clear hHeld
    obtain ⟨y0, y1, y2⟩ := cell3 HY.out
    obtain ⟨c0, c1, c2, c3, c4, c5, c6, c7, c8, c9, c10, c11, c12, c13⟩ := HM.out.cells
    have EC := Aside.mk (show codeL cx st t c = if (heldL st t).n = 0 then 14 else 0 from by unfold codeL; rw [if_pos HT.out, if_neg (by have := HV.out; omega), if_pos HV.out])
    obtain ⟨q, eH, _, _, a0, a1, _⟩ := HM.out.held t HT.out
    rw [eH] at c11
    clear eH
    generalize heldL st t = hv at *
    obtain ⟨hf, hn⟩ := hv
    by_cases hh : hn = 0
    · have u1 : (hn == 0) = true := by rw [hh]; rfl
      have HO2 := Aside.mk hh
      clear hh
      go_wp2
      go_ret
      exact ⟨by rw [EC.out, if_pos (by have := HO2.out; omega)] <;> rfl, HW.out⟩
    · have u1 : (hn == 0) = false := by simpa using hh
      have HO2 := Aside.mk hh
      clear hh
      go_wp2
      go_ret
      exact ⟨by rw [EC.out, if_neg (by have := HO2.out; omega)] <;> rfl, HW.out⟩
  have h2 := hv
  clear hv
  by_cases hv : c.op = 3
  · have o1 : (c.op == 1) = false := by rw [hv]; rfl
    have o2 : (c.op == 2) = false := by rw [hv]; rfl
    have o3 : (c.op == 3) = true := by rw [hv]; rfl
    have o4 : (c.op == 4) = false := by rw [hv]; rfl
    have o5 : (c.op == 5) = false := by rw [hv]; rfl
    have o6 : (c.op == 6) = false := by rw [hv]; rfl
    have HV := Aside.mk hv
    clear hv
    go_wp2_with fail
    refine start_ (n := 16) (S := fun w' => True) (ds := []) (bm 16 0) (by kernel_rfl) rfl rfl trivial (fun hHeld => ?_)
    replace HM := Aside.mk (HM.out.below (below_drew1 (Below.refl _ _)))
    replace HW := Aside.mk (HW.out.trans ((below_drew1 (Below.refl _ _)).mono HW.out.size))
    replace HY := Aside.mk (blk_drew HY.out)
    clear y0 y1 y2 c0 c1 c2 c3 c4 c5 c6 c7 c8 c9 c10 c11 c12 c13
    refine pu_ 0 (bm 16 1) ?_
    refine pu_ 1 (bm 16 3) ?_
    refine pu_ 2 (bm 16 7) ?_
    refine pu_ 3 (bm 16 15) ?_
    refine pu_ 4 (bm 16 31) ?_
    refine pu_ 5 (bm 16 63) ?_
    refine of_ 6 (bm 16 127) ?_
    refine of_ 7 (bm 16 255) ?_
    refine of_ 8 (bm 16 511) ?_
    refine of_ 9 (bm 16 1023) ?_
    refine of_ 10 (bm 16 2047) ?_
    refine of_ 11 (bm 16 4095) ?_
    refine of_ 12 (bm 16 8191) ?_
    refine of_ 13 (bm 16 16383) ?_
    refine pu_ 14 (bm 16 32767) ?_
    refine pu_ 15 (bm 16 65535) ?_
    refine done_ (by kernel_rfl) ?_
    clear hHeld
    obtain ⟨y0, y1, y2⟩ := cell3 HY.out
    obtain ⟨c0, c1, c2, c3, c4, c5, c6, c7, c8, c9, c10, c11, c12, c13⟩ := HM.out.cells
    have EC := Aside.mk (show codeL cx st t c = 12 from by unfold codeL; rw [if_pos HT.out, if_neg (by have := HV.out; omega), if_neg (by have := HV.out; omega)])
    go_wp2
    go_ret
    exact ⟨by rw [EC.out] <;> rfl, HW.out⟩
  have h3 := hv
  clear hv
  by_cases hv : c.op = 4
  · have o1 : (c.op == 1) = false := by rw [hv]; rfl
    have o2 : (c.op == 2) = false := by rw [hv]; rfl
    have o3 : (c.op == 3) = false := by rw [hv]; rfl
    have o4 : (c.op == 4) = true := by rw [hv]; rfl
    have o5 : (c.op == 5) = false := by rw [hv]; rfl
    have o6 : (c.op == 6) = false := by rw [hv]; rfl
    have HV := Aside.mk hv
    clear hv
    go_wp2_with fail
    refine start_ (n := 16) (S := fun w' => True) (ds := []) (bm 16 0) (by kernel_rfl) rfl rfl trivial (fun hHeld => ?_)
    replace HM := Aside.mk (HM.out.below (below_drew1 (Below.refl _ _)))
    replace HW := Aside.mk (HW.out.trans ((below_drew1 (Below.refl _ _)).mono HW.out.size))
    replace HY := Aside.mk (blk_drew HY.out)
    clear y0 y1 y2 c0 c1 c2 c3 c4 c5 c6 c7 c8 c9 c10 c11 c12 c13
    refine pu_ 0 (bm 16 1) ?_
    refine pu_ 1 (bm 16 3) ?_
    refine pu_ 2 (bm 16 7) ?_
    refine pu_ 3 (bm 16 15) ?_
    refine pu_ 4 (bm 16 31) ?_
    refine pu_ 5 (bm 16 63) ?_
    refine of_ 6 (bm 16 127) ?_
    refine of_ 7 (bm 16 255) ?_
    refine of_ 8 (bm 16 511) ?_
    refine of_ 9 (bm 16 1023) ?_
    refine of_ 10 (bm 16 2047) ?_
    refine of_ 11 (bm 16 4095) ?_
    refine of_ 12 (bm 16 8191) ?_
    refine of_ 13 (bm 16 16383) ?_
    refine pu_ 14 (bm 16 32767) ?_
    refine pu_ 15 (bm 16 65535) ?_
    refine done_ (by kernel_rfl) ?_
    clear hHeld
    obtain ⟨y0, y1, y2⟩ := cell3 HY.out
    obtain ⟨c0, c1, c2, c3, c4, c5, c6, c7, c8, c9, c10, c11, c12, c13⟩ := HM.out.cells
    have EC := Aside.mk (show codeL cx st t c = 12 from by unfold codeL; rw [if_pos HT.out, if_neg (by have := HV.out; omega), if_neg (by have := HV.out; omega)])
    go_wp2
    go_ret
    exact ⟨by rw [EC.out] <;> rfl, HW.out⟩
  have h4 := hv
  clear hv
  by_cases hv : c.op = 5
  · have o1 : (c.op == 1) = false := by rw [hv]; rfl
    have o2 : (c.op == 2) = false := by rw [hv]; rfl
    have o3 : (c.op == 3) = false := by rw [hv]; rfl
    have o4 : (c.op == 4) = false := by rw [hv]; rfl
    have o5 : (c.op == 5) = true := by rw [hv]; rfl
    have o6 : (c.op == 6) = false := by rw [hv]; rfl
    have HV := Aside.mk hv
    clear hv
    go_wp2_with fail
    have EC := Aside.mk (show codeL cx st t c = if szC c < 1 ∨ szC c > cx.cap then 13 else if (heldL st t).n > 0 then 14 else 0 from by unfold codeL; rw [if_pos HT.out, if_pos (by have := HV.out; omega)])
    refine start_ (n := 16) (S := fun w' => w'.cell? ⟨w.heap.size, 0, none⟩ = some (.int .i64 c.op) ∧ w'.cell? ⟨w.heap.size, 1, none⟩ = some (.int .i64 c.n) ∧ w'.cell? ⟨w.heap.size, 2, none⟩ = some (.slice A c.data.length C) ∧ w'.cell? ⟨B, 2, none⟩ = some (.int .i64 cx.cap) ∧ True) (ds := []) (bm 16 0) (by kernel_rfl) rfl rfl ⟨(blk_cell (blk_drew HY.out) 0).trans rfl, (blk_cell (blk_drew HY.out) 1).trans rfl, (blk_cell (blk_drew HY.out) 2).trans rfl, (HM.out.below (below_drew1 (Below.refl _ _))).cells.2.2.1, trivial⟩ (fun hHeld => ?_)
    replace HM := Aside.mk (HM.out.below (below_drew1 (Below.refl _ _)))
    replace HW := Aside.mk (HW.out.trans ((below_drew1 (Below.refl _ _)).mono HW.out.size))
    replace HY := Aside.mk (blk_drew HY.out)
    clear y0 y1 y2 c0 c1 c2 c3 c4 c5 c6 c7 c8 c9 c10 c11 c12 c13
    refine pu_ 0 (bm 16 1) ?_
    refine pu_ 1 (bm 16 3) ?_
    refine pu_ 2 (bm 16 7) ?_
    refine pu_ 3 (bm 16 15) ?_
    refine pu_ 4 (bm 16 31) ?_
    refine pu_ 5 (bm 16 63) ?_
    refine ta_ 6 (bm 16 127) hHeld ?_
    refine pu_ 8 (bm 16 383) ?_
    refine pu_ 9 (bm 16 895) ?_
    refine pu_ 10 (bm 16 1919) ?_
    refine pu_ 11 (bm 16 3967) ?_
    refine ta_ 12 (bm 16 8063) hHeld ?_
    refine one_ (i := 7) (N := some 32) (bm 16 8191) rfl rfl (by kernel_rfl) (by decide) (fun K hK => ?_)
    refine goes_ Tryd.func41 (by kernel_rfl) rfl #[.agg #[.int .i64 c.op, .int .i64 c.n, .slice A c.data.length C]] (by rfl) rfl rfl (by (try simp only [List.map_toArray, List.map_cons, List.map_nil]); first | done | rfl) ?_
    refine (l_size c _).mono ?_
    rintro q wd7 ⟨rfl, hb⟩
    refine ⟨_, rfl, ?_⟩
    replace HM := Aside.mk (HM.out.below hb)
    replace HW := Aside.mk (HW.out.trans (hb.mono HW.out.size))
    replace HY := Aside.mk (blk_below HY.out hb)
    clear hb
    refine hK.out _ _ ⟨(blk_cell HY.out 0).trans rfl, (blk_cell HY.out 1).trans rfl, (blk_cell HY.out 2).trans rfl, HM.out.cells.2.2.1, trivial⟩ (fun hHeld => ?_)
    clear hK K
    refine norm_ (a' := ?_) ?_ ?_
    rotate_left
    · show Act.put _ (some 32) _ = _
      simp only [Act.put, List.setIfInBounds_toArray, List.set_cons_zero, List.set_cons_succ, i64_w, i32_w]
      rfl
    refine one_ (i := 13) (N := some 38) (bm 16 16383) rfl rfl (by kernel_rfl) (by decide) (fun K hK => ?_)
    refine goes_ Tryd.func74 (by kernel_rfl) rfl #[.int .i64 (szC c), .int .i64 cx.cap] (by rfl) rfl rfl (by (try simp only [List.map_toArray, List.map_cons, List.map_nil]); first | done | rfl) ?_
    refine (l_outside _ _ _).mono ?_
    rintro q wd13 ⟨rfl, hb⟩
    refine ⟨_, rfl, ?_⟩
    replace HM := Aside.mk (HM.out.below hb)
    replace HW := Aside.mk (HW.out.trans (hb.mono HW.out.size))
    replace HY := Aside.mk (blk_below HY.out hb)
    clear hb
    refine hK.out _ _ ⟨(blk_cell HY.out 0).trans rfl, (blk_cell HY.out 1).trans rfl, (blk_cell HY.out 2).trans rfl, HM.out.cells.2.2.1, trivial⟩ (fun hHeld => ?_)
    clear hK K
    refine norm_ (a' := ?_) ?_ ?_
    rotate_left
    · show Act.put _ (some 38) _ = _
      simp only [Act.put, List.setIfInBounds_toArray, List.set_cons_zero, List.set_cons_succ, i64_w, i32_w]
      rfl
    refine pu_ 14 (bm 16 32767) ?_
    refine pu_ 15 (bm 16 65535) ?_
    refine done_ (by kernel_rfl) ?_
    clear hHeld
    obtain ⟨y0, y1, y2⟩ := cell3 HY.out
    obtain ⟨c0, c1, c2, c3, c4, c5, c6, c7, c8, c9, c10, c11, c12, c13⟩ := HM.out.cells
    cases hob : outB (szC c) cx.cap with
    | true =>
      have HO := Aside.mk (outB_yes hob)
      clear hob
      go_wp2
      go_ret
      exact ⟨by rw [EC.out, if_pos HO.out] <;> rfl, HW.out⟩
    | false =>
      have HO := Aside.mk (outB_no hob)
      clear hob
      obtain ⟨q, eH, _, _, a0, a1, _⟩ := HM.out.held t HT.out
      rw [eH] at c11
      clear eH
      generalize heldL st t = hv at *
      obtain ⟨hf, hn⟩ := hv
      by_cases hh : 0 < hn
      · have u1 : decide (0 < hn) = true := decide_eq_true hh
        have HO2 := Aside.mk hh
        clear hh
        go_wp2
        go_ret
        exact ⟨by rw [EC.out, if_neg HO.out, if_pos (by have := HO2.out; omega)] <;> rfl, HW.out⟩
      · have u1 : decide (0 < hn) = false := decide_eq_false hh
        have HO2 := Aside.mk hh
        clear hh
        go_wp2
        go_ret
        exact ⟨by rw [EC.out, if_neg HO.out, if_neg (by have := HO2.out; omega)] <;> rfl, HW.out⟩
  have h5 := hv
  clear hv
  by_cases hv : c.op = 6
  · have o1 : (c.op == 1) = false := by rw [hv]; rfl
    have o2 : (c.op == 2) = false := by rw [hv]; rfl
    have o3 : (c.op == 3) = false := by rw [hv]; rfl
    have o4 : (c.op == 4) = false := by rw [hv]; rfl
    have o5 : (c.op == 5) = false := by rw [hv]; rfl
    have o6 : (c.op == 6) = true := by rw [hv]; rfl
    have HV := Aside.mk hv
    clear hv
    go_wp2_with fail
    refine start_ (n := 16) (S := fun w' => True) (ds := []) (bm 16 0) (by kernel_rfl) rfl rfl trivial (fun hHeld => ?_)
    replace HM := Aside.mk (HM.out.below (below_drew1 (Below.refl _ _)))
    replace HW := Aside.mk (HW.out.trans ((below_drew1 (Below.refl _ _)).mono HW.out.size))
    replace HY := Aside.mk (blk_drew HY.out)
    clear y0 y1 y2 c0 c1 c2 c3 c4 c5 c6 c7 c8 c9 c10 c11 c12 c13
    refine pu_ 0 (bm 16 1) ?_
    refine pu_ 1 (bm 16 3) ?_
    refine pu_ 2 (bm 16 7) ?_
    refine pu_ 3 (bm 16 15) ?_
    refine pu_ 4 (bm 16 31) ?_
    refine pu_ 5 (bm 16 63) ?_
    refine of_ 6 (bm 16 127) ?_
    refine of_ 7 (bm 16 255) ?_
    refine of_ 8 (bm 16 511) ?_
    refine of_ 9 (bm 16 1023) ?_
    refine of_ 10 (bm 16 2047) ?_
    refine of_ 11 (bm 16 4095) ?_
    refine of_ 12 (bm 16 8191) ?_
    refine of_ 13 (bm 16 16383) ?_
    refine pu_ 14 (bm 16 32767) ?_
    refine pu_ 15 (bm 16 65535) ?_
    refine done_ (by kernel_rfl) ?_
    clear hHeld
    obtain ⟨y0, y1, y2⟩ := cell3 HY.out
    obtain ⟨c0, c1, c2, c3, c4, c5, c6, c7, c8, c9, c10, c11, c12, c13⟩ := HM.out.cells
    have EC := Aside.mk (show codeL cx st t c = 12 from by unfold codeL; rw [if_pos HT.out, if_neg (by have := HV.out; omega), if_neg (by have := HV.out; omega)])
    go_wp2
    go_ret
    exact ⟨by rw [EC.out] <;> rfl, HW.out⟩
  have h6 := hv
  clear hv
  have o1 : (c.op == 1) = false := by simpa using h1
  have o2 : (c.op == 2) = false := by simpa using h2
  have o3 : (c.op == 3) = false := by simpa using h3
  have o4 : (c.op == 4) = false := by simpa using h4
  have o5 : (c.op == 5) = false := by simpa using h5
  have o6 : (c.op == 6) = false := by simpa using h6
  have HV := Aside.mk (And.intro h1 (And.intro h2 (And.intro h3 (And.intro h4 (And.intro h5 h6)))))
  clear h1 h2 h3 h4 h5 h6
  go_wp2_with fail
  refine start_ (n := 16) (S := fun w' => True) (ds := []) (bm 16 0) (by kernel_rfl) rfl rfl trivial (fun hHeld => ?_)
  replace HM := Aside.mk (HM.out.below (below_drew1 (Below.refl _ _)))
  replace HW := Aside.mk (HW.out.trans ((below_drew1 (Below.refl _ _)).mono HW.out.size))
  replace HY := Aside.mk (blk_drew HY.out)
  clear y0 y1 y2 c0 c1 c2 c3 c4 c5 c6 c7 c8 c9 c10 c11 c12 c13
  refine pu_ 0 (bm 16 1) ?_
  refine pu_ 1 (bm 16 3) ?_
  refine pu_ 2 (bm 16 7) ?_
  refine pu_ 3 (bm 16 15) ?_
  refine pu_ 4 (bm 16 31) ?_
  refine pu_ 5 (bm 16 63) ?_
  refine of_ 6 (bm 16 127) ?_
  refine of_ 7 (bm 16 255) ?_
  refine of_ 8 (bm 16 511) ?_
  refine of_ 9 (bm 16 1023) ?_
  refine of_ 10 (bm 16 2047) ?_
  refine of_ 11 (bm 16 4095) ?_
  refine of_ 12 (bm 16 8191) ?_
  refine of_ 13 (bm 16 16383) ?_
  refine pu_ 14 (bm 16 32767) ?_
  refine pu_ 15 (bm 16 65535) ?_
  refine done_ (by kernel_rfl) ?_
  clear hHeld
  obtain ⟨y0, y1, y2⟩ := cell3 HY.out
  obtain ⟨c0, c1, c2, c3, c4, c5, c6, c7, c8, c9, c10, c11, c12, c13⟩ := HM.out.cells
  have EC := Aside.mk (show codeL cx st t c = 12 from by unfold codeL; rw [if_pos HT.out, if_neg (by have := HV.out; omega), if_neg (by have := HV.out; omega)])
  go_wp2
  go_ret
  exact ⟨by rw [EC.out] <;> rfl, HW.out⟩
set_option maxHeartbeats 8000000 in
theorem l_codeC {base : Nat} {w : World} {B : Nat} {k : Lk} {cx : Cx} {lp : Lp} {st : Ls} {i : Nat} (h : Lm base w B k cx lp st i) (t : Nat) (kc : Nat) (hk : kc < cx.up.length) (ht : t = cx.prod + kc) (c : Cl) (A : Option Addr) (C : Nat) :
    Calls Tryd.prog 38 #[.pointer (some ⟨B, 0, none⟩), .int .i64 (t : Int), .agg #[.int .i64 c.op, .int .i64 c.n, .slice A c.data.length C]] w fun e w' => e = .returned (.int .i64 (codeL cx st t c)) ∧ Below w.heap.size w w' := by
  have hb0 := below_alloc (Below.refl w.heap.size w) (.cells #[.int .i64 c.op, .int .i64 c.n, .slice A c.data.length C] 39)
  have HY := Aside.mk (heap_alloc_new w (.cells #[.int .i64 c.op, .int .i64 c.n, .slice A c.data.length C] 39))
  have HM := Aside.mk (h.below hb0)
  have HW := Aside.mk hb0
  have HP4 := Aside.mk (And.intro h.s.p4 h.s.u6)
  have HT := Aside.mk ht
  have HK := Aside.mk hk
  have ew : wrap64 ((t : Int) - (cx.prod : Int)) = (kc : Int) := (w64 (by have := HP4.out; omega)).trans (by omega)
  have kt : decide ((kc : Int) < 0) = false := decide_eq_false (by omega)
  have g1 : decide ((kc : Int) < (cx.up.length : Int)) = true := decide_eq_true (by omega)
  have g2 : (kc : Int) < (cx.up.length : Int) := by omega
  have g3 : decide (kc < cx.up.length) = true := decide_eq_true hk
  clear hk ht
  clear hb0 h
  go_enter Tryd.func38, Tryd.ntmps38
  go_upto_region 1 with (fail)
  generalize w.alloc (.cells #[.int .i64 c.op, .int .i64 c.n, .slice A c.data.length C] 39) = w2 at *
  obtain ⟨y0, y1, y2⟩ := cell3 HY.out
  obtain ⟨c0, c1, c2, c3, c4, c5, c6, c7, c8, c9, c10, c11, c12, c13⟩ := HM.out.cells
  by_cases hv : c.op = 1
  · have o1 : (c.op == 1) = true := by rw [hv]; rfl
    have o2 : (c.op == 2) = false := by rw [hv]; rfl
    have o3 : (c.op == 3) = false := by rw [hv]; rfl
    have o4 : (c.op == 4) = false := by rw [hv]; rfl
    have o5 : (c.op == 5) = false := by rw [hv]; rfl
    have o6 : (c.op == 6) = false := by rw [hv]; rfl
    have HV := Aside.mk hv
    clear hv
    go_wp2_with fail
    refine start_ (n := 16) (S := fun w' => True) (ds := []) (bm 16 0) (by kernel_rfl) rfl rfl trivial (fun hHeld => ?_)
    replace HM := Aside.mk (HM.out.below (below_drew1 (Below.refl _ _)))
    replace HW := Aside.mk (HW.out.trans ((below_drew1 (Below.refl _ _)).mono HW.out.size))
    replace HY := Aside.mk (blk_drew HY.out)
    clear y0 y1 y2 c0 c1 c2 c3 c4 c5 c6 c7 c8 c9 c10 c11 c12 c13
    refine pu_ 0 (bm 16 1) ?_
    refine pu_ 1 (bm 16 3) ?_
    refine pu_ 2 (bm 16 7) ?_
    refine of_ 3 (bm 16 15) ?_
    refine pu_ 4 (bm 16 31) ?_
    refine pu_ 5 (bm 16 63) ?_
    refine of_ 6 (bm 16 127) ?_
    refine of_ 7 (bm 16 255) ?_
    refine of_ 8 (bm 16 511) ?_
    refine of_ 9 (bm 16 1023) ?_
    refine of_ 10 (bm 16 2047) ?_
    refine of_ 11 (bm 16 4095) ?_
    refine of_ 12 (bm 16 8191) ?_
    refine of_ 13 (bm 16 16383) ?_
    refine pu_ 14 (bm 16 32767) ?_
    refine pu_ 15 (bm 16 65535) ?_
    refine done_ (by kernel_rfl) ?_
    clear hHeld
    obtain ⟨y0, y1, y2⟩ := cell3 HY.out
    obtain ⟨c0, c1, c2, c3, c4, c5, c6, c7, c8, c9, c10, c11, c12, c13⟩ := HM.out.cells
    go_wp2_with fail
    refine start_ (n := 24) (S := fun w' => w'.cell? ⟨w.heap.size, 0, none⟩ = some (.int .i64 c.op) ∧ True) (ds := []) (bm 24 0) (by kernel_rfl) rfl rfl ⟨(blk_cell (blk_drew HY.out) 0).trans rfl, trivial⟩ (fun hHeld => ?_)
    replace HM := Aside.mk (HM.out.below (below_drew1 (Below.refl _ _)))
    replace HW := Aside.mk (HW.out.trans ((below_drew1 (Below.refl _ _)).mono HW.out.size))
    replace HY := Aside.mk (blk_drew HY.out)
    clear y0 y1 y2 c0 c1 c2 c3 c4 c5 c6 c7 c8 c9 c10 c11 c12 c13
    refine pu_ 0 (bm 24 1) ?_
    refine ta_ 1 (bm 24 3) hHeld ?_
    refine pu_ 2 (bm 24 7) ?_
    refine pu_ 3 (bm 24 15) ?_
    refine of_ 4 (bm 24 31) ?_
    refine of_ 5 (bm 24 63) ?_
    refine of_ 6 (bm 24 127) ?_
    refine of_ 7 (bm 24 255) ?_
    refine of_ 8 (bm 24 511) ?_
    refine of_ 9 (bm 24 1023) ?_
    refine of_ 10 (bm 24 2047) ?_
    refine of_ 11 (bm 24 4095) ?_
    refine of_ 12 (bm 24 8191) ?_
    refine of_ 13 (bm 24 16383) ?_
    refine of_ 14 (bm 24 32767) ?_
    refine of_ 15 (bm 24 65535) ?_
    refine of_ 16 (bm 24 131071) ?_
    refine of_ 17 (bm 24 262143) ?_
    refine of_ 18 (bm 24 524287) ?_
    refine of_ 19 (bm 24 1048575) ?_
    refine of_ 20 (bm 24 2097151) ?_
    refine of_ 21 (bm 24 4194303) ?_
    refine pu_ 22 (bm 24 8388607) ?_
    refine pu_ 23 (bm 24 16777215) ?_
    refine done_ (by kernel_rfl) ?_
    clear hHeld
    obtain ⟨y0, y1, y2⟩ := cell3 HY.out
    obtain ⟨c0, c1, c2, c3, c4, c5, c6, c7, c8, c9, c10, c11, c12, c13⟩ := HM.out.cells
    go_wp2_with fail
    refine start_ (n := 14) (S := fun w' => w'.cell? ⟨w.heap.size, 0, none⟩ = some (.int .i64 c.op) ∧ True) (ds := []) (bm 14 0) (by kernel_rfl) rfl rfl ⟨(blk_cell (blk_drew HY.out) 0).trans rfl, trivial⟩ (fun hHeld => ?_)
    replace HM := Aside.mk (HM.out.below (below_drew1 (Below.refl _ _)))
    replace HW := Aside.mk (HW.out.trans ((below_drew1 (Below.refl _ _)).mono HW.out.size))
    replace HY := Aside.mk (blk_drew HY.out)
    clear y0 y1 y2 c0 c1 c2 c3 c4 c5 c6 c7 c8 c9 c10 c11 c12 c13
    refine pu_ 0 (bm 14 1) ?_
    refine ta_ 1 (bm 14 3) hHeld ?_
    refine pu_ 2 (bm 14 7) ?_
    refine pu_ 3 (bm 14 15) ?_
    refine of_ 4 (bm 14 31) ?_
    refine of_ 5 (bm 14 63) ?_
    refine of_ 6 (bm 14 127) ?_
    refine of_ 7 (bm 14 255) ?_
    refine of_ 8 (bm 14 511) ?_
    refine of_ 9 (bm 14 1023) ?_
    refine of_ 10 (bm 14 2047) ?_
    refine of_ 11 (bm 14 4095) ?_
    refine pu_ 12 (bm 14 8191) ?_
    refine pu_ 13 (bm 14 16383) ?_
    refine done_ (by kernel_rfl) ?_
    clear hHeld
    obtain ⟨y0, y1, y2⟩ := cell3 HY.out
    obtain ⟨c0, c1, c2, c3, c4, c5, c6, c7, c8, c9, c10, c11, c12, c13⟩ := HM.out.cells
    have EC := Aside.mk (show codeL cx st t c = 12 from by unfold codeL; rw [if_neg (by have := HT.out; omega), if_neg (by have := HV.out; omega), if_neg (by have := HV.out; omega), if_neg (by have := HV.out; omega)])
    go_wp2
    go_ret
    exact ⟨by rw [EC.out] <;> rfl, HW.out⟩
  have h1 := hv
  clear hv
  by_cases hv : c.op = 2
  · have o1 : (c.op == 1) = false := by rw [hv]; rfl
    have o2 : (c.op == 2) = true := by rw [hv]; rfl
    have o3 : (c.op == 3) = false := by rw [hv]; rfl
    have o4 : (c.op == 4) = false := by rw [hv]; rfl
    have o5 : (c.op == 5) = false := by rw [hv]; rfl
    have o6 : (c.op == 6) = false := by rw [hv]; rfl
    have HV := Aside.mk hv
    clear hv
    go_wp2_with fail
    refine start_ (n := 16) (S := fun w' => True) (ds := []) (bm 16 0) (by kernel_rfl) rfl rfl trivial (fun hHeld => ?_)
    replace HM := Aside.mk (HM.out.below (below_drew1 (Below.refl _ _)))
    replace HW := Aside.mk (HW.out.trans ((below_drew1 (Below.refl _ _)).mono HW.out.size))
    replace HY := Aside.mk (blk_drew HY.out)
    clear y0 y1 y2 c0 c1 c2 c3 c4 c5 c6 c7 c8 c9 c10 c11 c12 c13
    refine pu_ 0 (bm 16 1) ?_
    refine pu_ 1 (bm 16 3) ?_
    refine pu_ 2 (bm 16 7) ?_
    refine of_ 3 (bm 16 15) ?_
    refine pu_ 4 (bm 16 31) ?_
    refine pu_ 5 (bm 16 63) ?_
    refine of_ 6 (bm 16 127) ?_
    refine of_ 7 (bm 16 255) ?_
    refine of_ 8 (bm 16 511) ?_
    refine of_ 9 (bm 16 1023) ?_
    refine of_ 10 (bm 16 2047) ?_
    refine of_ 11 (bm 16 4095) ?_
    refine of_ 12 (bm 16 8191) ?_
    refine of_ 13 (bm 16 16383) ?_
    refine pu_ 14 (bm 16 32767) ?_
    refine pu_ 15 (bm 16 65535) ?_
    refine done_ (by kernel_rfl) ?_
    clear hHeld
    obtain ⟨y0, y1, y2⟩ := cell3 HY.out
    obtain ⟨c0, c1, c2, c3, c4, c5, c6, c7, c8, c9, c10, c11, c12, c13⟩ := HM.out.cells
    go_wp2_with fail
    refine start_ (n := 24) (S := fun w' => w'.cell? ⟨w.heap.size, 0, none⟩ = some (.int .i64 c.op) ∧ True) (ds := []) (bm 24 0) (by kernel_rfl) rfl rfl ⟨(blk_cell (blk_drew HY.out) 0).trans rfl, trivial⟩ (fun hHeld => ?_)
    replace HM := Aside.mk (HM.out.below (below_drew1 (Below.refl _ _)))
    replace HW := Aside.mk (HW.out.trans ((below_drew1 (Below.refl _ _)).mono HW.out.size))
    replace HY := Aside.mk (blk_drew HY.out)
    clear y0 y1 y2 c0 c1 c2 c3 c4 c5 c6 c7 c8 c9 c10 c11 c12 c13
    refine pu_ 0 (bm 24 1) ?_
    refine ta_ 1 (bm 24 3) hHeld ?_
    refine pu_ 2 (bm 24 7) ?_
    refine pu_ 3 (bm 24 15) ?_
    refine of_ 4 (bm 24 31) ?_
    refine of_ 5 (bm 24 63) ?_
    refine of_ 6 (bm 24 127) ?_
    refine of_ 7 (bm 24 255) ?_
    refine of_ 8 (bm 24 511) ?_
    refine of_ 9 (bm 24 1023) ?_
    refine of_ 10 (bm 24 2047) ?_
    refine of_ 11 (bm 24 4095) ?_
    refine of_ 12 (bm 24 8191) ?_
    refine of_ 13 (bm 24 16383) ?_
    refine of_ 14 (bm 24 32767) ?_
    refine of_ 15 (bm 24 65535) ?_
    refine of_ 16 (bm 24 131071) ?_
    refine of_ 17 (bm 24 262143) ?_
    refine of_ 18 (bm 24 524287) ?_
    refine of_ 19 (bm 24 1048575) ?_
    refine of_ 20 (bm 24 2097151) ?_
    refine of_ 21 (bm 24 4194303) ?_
    refine pu_ 22 (bm 24 8388607) ?_
    refine pu_ 23 (bm 24 16777215) ?_
    refine done_ (by kernel_rfl) ?_
    clear hHeld
    obtain ⟨y0, y1, y2⟩ := cell3 HY.out
    obtain ⟨c0, c1, c2, c3, c4, c5, c6, c7, c8, c9, c10, c11, c12, c13⟩ := HM.out.cells
    go_wp2_with fail
    refine start_ (n := 14) (S := fun w' => w'.cell? ⟨w.heap.size, 0, none⟩ = some (.int .i64 c.op) ∧ True) (ds := []) (bm 14 0) (by kernel_rfl) rfl rfl ⟨(blk_cell (blk_drew HY.out) 0).trans rfl, trivial⟩ (fun hHeld => ?_)
    replace HM := Aside.mk (HM.out.below (below_drew1 (Below.refl _ _)))
    replace HW := Aside.mk (HW.out.trans ((below_drew1 (Below.refl _ _)).mono HW.out.size))
    replace HY := Aside.mk (blk_drew HY.out)
    clear y0 y1 y2 c0 c1 c2 c3 c4 c5 c6 c7 c8 c9 c10 c11 c12 c13
    refine pu_ 0 (bm 14 1) ?_
    refine ta_ 1 (bm 14 3) hHeld ?_
    refine pu_ 2 (bm 14 7) ?_
    refine pu_ 3 (bm 14 15) ?_
    refine of_ 4 (bm 14 31) ?_
    refine of_ 5 (bm 14 63) ?_
    refine of_ 6 (bm 14 127) ?_
    refine of_ 7 (bm 14 255) ?_
    refine of_ 8 (bm 14 511) ?_
    refine of_ 9 (bm 14 1023) ?_
    refine of_ 10 (bm 14 2047) ?_
    refine of_ 11 (bm 14 4095) ?_
    refine pu_ 12 (bm 14 8191) ?_
    refine pu_ 13 (bm 14 16383) ?_
    refine done_ (by kernel_rfl) ?_
    clear hHeld
    obtain ⟨y0, y1, y2⟩ := cell3 HY.out
    obtain ⟨c0, c1, c2, c3, c4, c5, c6, c7, c8, c9, c10, c11, c12, c13⟩ := HM.out.cells
    have EC := Aside.mk (show codeL cx st t c = 12 from by unfold codeL; rw [if_neg (by have := HT.out; omega), if_neg (by have := HV.out; omega), if_neg (by have := HV.out; omega), if_neg (by have := HV.out; omega)])
    go_wp2
    go_ret
    exact ⟨by rw [EC.out] <;> rfl, HW.out⟩
  have h2 := hv
  clear hv
  by_cases hv : c.op = 3
  · have o1 : (c.op == 1) = false := by rw [hv]; rfl
    have o2 : (c.op == 2) = false := by rw [hv]; rfl
    have o3 : (c.op == 3) = true := by rw [hv]; rfl
    have o4 : (c.op == 4) = false := by rw [hv]; rfl
    have o5 : (c.op == 5) = false := by rw [hv]; rfl
    have o6 : (c.op == 6) = false := by rw [hv]; rfl
    have HV := Aside.mk hv
    clear hv
    go_wp2_with fail
    refine start_ (n := 16) (S := fun w' => True) (ds := []) (bm 16 0) (by kernel_rfl) rfl rfl trivial (fun hHeld => ?_)
    replace HM := Aside.mk (HM.out.below (below_drew1 (Below.refl _ _)))
    replace HW := Aside.mk (HW.out.trans ((below_drew1 (Below.refl _ _)).mono HW.out.size))
    replace HY := Aside.mk (blk_drew HY.out)
    clear y0 y1 y2 c0 c1 c2 c3 c4 c5 c6 c7 c8 c9 c10 c11 c12 c13
    refine pu_ 0 (bm 16 1) ?_
    refine pu_ 1 (bm 16 3) ?_
    refine pu_ 2 (bm 16 7) ?_
    refine of_ 3 (bm 16 15) ?_
    refine pu_ 4 (bm 16 31) ?_
    refine pu_ 5 (bm 16 63) ?_
    refine of_ 6 (bm 16 127) ?_
    refine of_ 7 (bm 16 255) ?_
    refine of_ 8 (bm 16 511) ?_
    refine of_ 9 (bm 16 1023) ?_
    refine of_ 10 (bm 16 2047) ?_
    refine of_ 11 (bm 16 4095) ?_
    refine of_ 12 (bm 16 8191) ?_
    refine of_ 13 (bm 16 16383) ?_
    refine pu_ 14 (bm 16 32767) ?_
    refine pu_ 15 (bm 16 65535) ?_
    refine done_ (by kernel_rfl) ?_
    clear hHeld
    obtain ⟨y0, y1, y2⟩ := cell3 HY.out
    obtain ⟨c0, c1, c2, c3, c4, c5, c6, c7, c8, c9, c10, c11, c12, c13⟩ := HM.out.cells
    go_wp2_with fail
    refine start_ (n := 24) (S := fun w' => w'.cell? ⟨w.heap.size, 0, none⟩ = some (.int .i64 c.op) ∧ True) (ds := []) (bm 24 0) (by kernel_rfl) rfl rfl ⟨(blk_cell (blk_drew HY.out) 0).trans rfl, trivial⟩ (fun hHeld => ?_)
    replace HM := Aside.mk (HM.out.below (below_drew1 (Below.refl _ _)))
    replace HW := Aside.mk (HW.out.trans ((below_drew1 (Below.refl _ _)).mono HW.out.size))
    replace HY := Aside.mk (blk_drew HY.out)
    clear y0 y1 y2 c0 c1 c2 c3 c4 c5 c6 c7 c8 c9 c10 c11 c12 c13
    refine pu_ 0 (bm 24 1) ?_
    refine ta_ 1 (bm 24 3) hHeld ?_
    refine pu_ 2 (bm 24 7) ?_
    refine pu_ 3 (bm 24 15) ?_
    refine of_ 4 (bm 24 31) ?_
    refine of_ 5 (bm 24 63) ?_
    refine of_ 6 (bm 24 127) ?_
    refine of_ 7 (bm 24 255) ?_
    refine of_ 8 (bm 24 511) ?_
    refine of_ 9 (bm 24 1023) ?_
    refine of_ 10 (bm 24 2047) ?_
    refine of_ 11 (bm 24 4095) ?_
    refine of_ 12 (bm 24 8191) ?_
    refine of_ 13 (bm 24 16383) ?_
    refine of_ 14 (bm 24 32767) ?_
    refine of_ 15 (bm 24 65535) ?_
    refine of_ 16 (bm 24 131071) ?_
    refine of_ 17 (bm 24 262143) ?_
    refine of_ 18 (bm 24 524287) ?_
    refine of_ 19 (bm 24 1048575) ?_
    refine of_ 20 (bm 24 2097151) ?_
    refine of_ 21 (bm 24 4194303) ?_
    refine pu_ 22 (bm 24 8388607) ?_
    refine pu_ 23 (bm 24 16777215) ?_
    refine done_ (by kernel_rfl) ?_
    clear hHeld
    obtain ⟨y0, y1, y2⟩ := cell3 HY.out
    obtain ⟨c0, c1, c2, c3, c4, c5, c6, c7, c8, c9, c10, c11, c12, c13⟩ := HM.out.cells
    go_wp2_with fail
    refine start_ (n := 14) (S := fun w' => w'.cell? ⟨w.heap.size, 0, none⟩ = some (.int .i64 c.op) ∧ True) (ds := []) (bm 14 0) (by kernel_rfl) rfl rfl ⟨(blk_cell (blk_drew HY.out) 0).trans rfl, trivial⟩ (fun hHeld => ?_)
    replace HM := Aside.mk (HM.out.below (below_drew1 (Below.refl _ _)))
    replace HW := Aside.mk (HW.out.trans ((below_drew1 (Below.refl _ _)).mono HW.out.size))
    replace HY := Aside.mk (blk_drew HY.out)
    clear y0 y1 y2 c0 c1 c2 c3 c4 c5 c6 c7 c8 c9 c10 c11 c12 c13
    refine pu_ 0 (bm 14 1) ?_
    refine ta_ 1 (bm 14 3) hHeld ?_
    refine pu_ 2 (bm 14 7) ?_
    refine pu_ 3 (bm 14 15) ?_
    refine of_ 4 (bm 14 31) ?_
    refine of_ 5 (bm 14 63) ?_
    refine of_ 6 (bm 14 127) ?_
    refine of_ 7 (bm 14 255) ?_
    refine of_ 8 (bm 14 511) ?_
    refine of_ 9 (bm 14 1023) ?_
    refine of_ 10 (bm 14 2047) ?_
    refine of_ 11 (bm 14 4095) ?_
    refine pu_ 12 (bm 14 8191) ?_
    refine pu_ 13 (bm 14 16383) ?_
    refine done_ (by kernel_rfl) ?_
    clear hHeld
    obtain ⟨y0, y1, y2⟩ := cell3 HY.out
    obtain ⟨c0, c1, c2, c3, c4, c5, c6, c7, c8, c9, c10, c11, c12, c13⟩ := HM.out.cells
    have EC := Aside.mk (show codeL cx st t c = 0 from by unfold codeL; rw [if_neg (by have := HT.out; omega), if_neg (by have := HV.out; omega), if_neg (by have := HV.out; omega), if_pos HV.out])
    go_wp2
    go_ret
    exact ⟨by rw [EC.out] <;> rfl, HW.out⟩
  have h3 := hv
  clear hv
  by_cases hv : c.op = 4
  · have o1 : (c.op == 1) = false := by rw [hv]; rfl
    have o2 : (c.op == 2) = false := by rw [hv]; rfl
    have o3 : (c.op == 3) = false := by rw [hv]; rfl
    have o4 : (c.op == 4) = true := by rw [hv]; rfl
    have o5 : (c.op == 5) = false := by rw [hv]; rfl
    have o6 : (c.op == 6) = false := by rw [hv]; rfl
    have HV := Aside.mk hv
    clear hv
    go_wp2_with fail
    refine start_ (n := 16) (S := fun w' => True) (ds := []) (bm 16 0) (by kernel_rfl) rfl rfl trivial (fun hHeld => ?_)
    replace HM := Aside.mk (HM.out.below (below_drew1 (Below.refl _ _)))
    replace HW := Aside.mk (HW.out.trans ((below_drew1 (Below.refl _ _)).mono HW.out.size))
    replace HY := Aside.mk (blk_drew HY.out)
    clear y0 y1 y2 c0 c1 c2 c3 c4 c5 c6 c7 c8 c9 c10 c11 c12 c13
    refine pu_ 0 (bm 16 1) ?_
    refine pu_ 1 (bm 16 3) ?_
    refine pu_ 2 (bm 16 7) ?_
    refine of_ 3 (bm 16 15) ?_
    refine pu_ 4 (bm 16 31) ?_
    refine pu_ 5 (bm 16 63) ?_
    refine of_ 6 (bm 16 127) ?_
    refine of_ 7 (bm 16 255) ?_
    refine of_ 8 (bm 16 511) ?_
    refine of_ 9 (bm 16 1023) ?_
    refine of_ 10 (bm 16 2047) ?_
    refine of_ 11 (bm 16 4095) ?_
    refine of_ 12 (bm 16 8191) ?_
    refine of_ 13 (bm 16 16383) ?_
    refine pu_ 14 (bm 16 32767) ?_
    refine pu_ 15 (bm 16 65535) ?_
    refine done_ (by kernel_rfl) ?_
    clear hHeld
    obtain ⟨y0, y1, y2⟩ := cell3 HY.out
    obtain ⟨c0, c1, c2, c3, c4, c5, c6, c7, c8, c9, c10, c11, c12, c13⟩ := HM.out.cells
    go_wp2_with fail
    obtain ⟨gq, eG, _, _, a0, _⟩ := HM.out.gate kc HK.out
    obtain ⟨sq, eS, _, _, a1, _⟩ := HM.out.saw kc HK.out
    have HGB := Aside.mk (And.intro (HM.out.wf.g0 kc) (And.intro (HM.out.wf.gs kc) (And.intro (HM.out.wf.sp kc) (show st.put.length ≤ 64000 by have := HM.out.wf.tk; have := HM.out.i; omega))))
    have EC := Aside.mk (show codeL cx st t c = if c.n < 1 ∨ c.n > st.saw.getD kc 0 - st.gate.getD kc 0 then 13 else 0 from by unfold codeL; rw [if_neg (by have := HT.out; omega), if_pos HV.out, show t - cx.prod = kc by have := HT.out; omega])
    have HG0 := Aside.mk eG
    have HS0 := Aside.mk eS
    have HFG := Aside.mk (fun (W : World) (hM : Lm base W B k cx lp st i) => gs_cells hM HK.out eG eS)
    clear a0 a1
    generalize st.gate.getD kc 0 = gk at *
    generalize st.saw.getD kc 0 = sk at *
    have ew1 : wrap64 (sk - gk) = sk - gk := w64 (by have := HGB.out; omega)
    have ew3 : IntKind.i64.wrap (sk - gk) = sk - gk := by rw [wrapE]; exact ew1
    refine start_ (n := 24) (S := fun w' => w'.cell? ⟨w.heap.size, 0, none⟩ = some (.int .i64 c.op) ∧ w'.cell? ⟨w.heap.size, 1, none⟩ = some (.int .i64 c.n) ∧ w'.cell? ⟨w.heap.size, 2, none⟩ = some (.slice A c.data.length C) ∧ w'.cell? ⟨B, 13, none⟩ = some (.slice (some ⟨sq, 0, none⟩) cx.up.length k.sc) ∧ w'.cell? ⟨B, 12, none⟩ = some (.slice (some ⟨gq, 0, none⟩) cx.up.length k.gc) ∧ w'.cell? ⟨sq, kc, none⟩ = some (.int .i64 sk) ∧ w'.cell? ⟨gq, kc, none⟩ = some (.int .i64 gk) ∧ True) (ds := []) (bm 24 0) (by kernel_rfl) rfl rfl ⟨(blk_cell (blk_drew HY.out) 0).trans rfl, (blk_cell (blk_drew HY.out) 1).trans rfl, (blk_cell (blk_drew HY.out) 2).trans rfl, (HFG.out _ (HM.out.below (below_drew1 (Below.refl _ _)))).2.2.2, (HFG.out _ (HM.out.below (below_drew1 (Below.refl _ _)))).2.2.1, (HFG.out _ (HM.out.below (below_drew1 (Below.refl _ _)))).2.1, (HFG.out _ (HM.out.below (below_drew1 (Below.refl _ _)))).1, trivial⟩ (fun hHeld => ?_)
    replace HM := Aside.mk (HM.out.below (below_drew1 (Below.refl _ _)))
    replace HW := Aside.mk (HW.out.trans ((below_drew1 (Below.refl _ _)).mono HW.out.size))
    replace HY := Aside.mk (blk_drew HY.out)
    clear y0 y1 y2 c0 c1 c2 c3 c4 c5 c6 c7 c8 c9 c10 c11 c12 c13
    refine pu_ 0 (bm 24 1) ?_
    refine ta_ 1 (bm 24 3) hHeld ?_
    refine pu_ 2 (bm 24 7) ?_
    refine pu_ 3 (bm 24 15) ?_
    refine pu_ 4 (bm 24 31) ?_
    refine ta_ 5 (bm 24 63) hHeld ?_
    refine pu_ 6 (bm 24 127) ?_
    refine pu_ 7 (bm 24 255) ?_
    refine pu_ 8 (bm 24 511) ?_
    refine ta_ 9 (bm 24 1023) hHeld ?_
    refine pu_ 10 (bm 24 2047) ?_
    refine pu_ 11 (bm 24 4095) ?_
    refine ta_ 12 (bm 24 8191) hHeld ?_
    refine pu_ 13 (bm 24 16383) ?_
    refine pu_ 14 (bm 24 32767) ?_
    refine pu_ 15 (bm 24 65535) ?_
    refine ta_ 16 (bm 24 131071) hHeld ?_
    refine pu_ 17 (bm 24 262143) ?_
    refine pu_ 18 (bm 24 524287) ?_
    refine ta_ 19 (bm 24 1048575) hHeld ?_
    refine pu_ 20 (bm 24 2097151) ?_
    refine one_ (i := 21) (N := some 105) (bm 24 4194303) rfl rfl (by kernel_rfl) (by decide) (fun K hK => ?_)
    refine goes_ Tryd.func74 (by kernel_rfl) rfl #[.int .i64 c.n, .int .i64 (sk - gk)] (by rfl) rfl rfl (by (try simp only [List.map_toArray, List.map_cons, List.map_nil]); first | done | rfl) ?_
    refine (l_outside _ _ _).mono ?_
    rintro q wd21 ⟨rfl, hb⟩
    refine ⟨_, rfl, ?_⟩
    replace HM := Aside.mk (HM.out.below hb)
    replace HW := Aside.mk (HW.out.trans (hb.mono HW.out.size))
    replace HY := Aside.mk (blk_below HY.out hb)
    clear hb
    refine hK.out _ _ ⟨(blk_cell HY.out 0).trans rfl, (blk_cell HY.out 1).trans rfl, (blk_cell HY.out 2).trans rfl, (HFG.out _ HM.out).2.2.2, (HFG.out _ HM.out).2.2.1, (HFG.out _ HM.out).2.1, (HFG.out _ HM.out).1, trivial⟩ (fun hHeld => ?_)
    clear hK K
    refine norm_ (a' := ?_) ?_ ?_
    rotate_left
    · show Act.put _ (some 105) _ = _
      simp only [Act.put, List.setIfInBounds_toArray, List.set_cons_zero, List.set_cons_succ, i64_w, i32_w]
      rfl
    refine pu_ 22 (bm 24 8388607) ?_
    refine pu_ 23 (bm 24 16777215) ?_
    refine done_ (by kernel_rfl) ?_
    clear hHeld
    obtain ⟨y0, y1, y2⟩ := cell3 HY.out
    obtain ⟨c0, c1, c2, c3, c4, c5, c6, c7, c8, c9, c10, c11, c12, c13⟩ := HM.out.cells
    cases hob : outB c.n (sk - gk) with
    | true =>
      have HO := Aside.mk (outB_yes hob)
      clear hob
      go_wp2
      go_ret
      exact ⟨by rw [EC.out, if_pos HO.out] <;> rfl, HW.out⟩
    | false =>
      have HO := Aside.mk (outB_no hob)
      clear hob
      go_wp2_with fail
      refine start_ (n := 14) (S := fun w' => w'.cell? ⟨w.heap.size, 0, none⟩ = some (.int .i64 c.op) ∧ True) (ds := []) (bm 14 0) (by kernel_rfl) rfl rfl ⟨(blk_cell (blk_drew HY.out) 0).trans rfl, trivial⟩ (fun hHeld => ?_)
      replace HM := Aside.mk (HM.out.below (below_drew1 (Below.refl _ _)))
      replace HW := Aside.mk (HW.out.trans ((below_drew1 (Below.refl _ _)).mono HW.out.size))
      replace HY := Aside.mk (blk_drew HY.out)
      clear y0 y1 y2 c0 c1 c2 c3 c4 c5 c6 c7 c8 c9 c10 c11 c12 c13
      refine pu_ 0 (bm 14 1) ?_
      refine ta_ 1 (bm 14 3) hHeld ?_
      refine pu_ 2 (bm 14 7) ?_
      refine pu_ 3 (bm 14 15) ?_
      refine of_ 4 (bm 14 31) ?_
      refine of_ 5 (bm 14 63) ?_
      refine of_ 6 (bm 14 127) ?_
      refine of_ 7 (bm 14 255) ?_
      refine of_ 8 (bm 14 511) ?_
      refine of_ 9 (bm 14 1023) ?_
      refine of_ 10 (bm 14 2047) ?_
      refine of_ 11 (bm 14 4095) ?_
      refine pu_ 12 (bm 14 8191) ?_
      refine pu_ 13 (bm 14 16383) ?_
      refine done_ (by kernel_rfl) ?_
      clear hHeld
      obtain ⟨y0, y1, y2⟩ := cell3 HY.out
      obtain ⟨c0, c1, c2, c3, c4, c5, c6, c7, c8, c9, c10, c11, c12, c13⟩ := HM.out.cells
      go_wp2
      go_ret
      exact ⟨by rw [EC.out, if_neg HO.out] <;> rfl, HW.out⟩
  have h4 := hv
  clear hv
  by_cases hv : c.op = 5
  · have o1 : (c.op == 1) = false := by rw [hv]; rfl
    have o2 : (c.op == 2) = false := by rw [hv]; rfl
    have o3 : (c.op == 3) = false := by rw [hv]; rfl
    have o4 : (c.op == 4) = false := by rw [hv]; rfl
    have o5 : (c.op == 5) = true := by rw [hv]; rfl
    have o6 : (c.op == 6) = false := by rw [hv]; rfl
    have HV := Aside.mk hv
    clear hv
    go_wp2_with fail
    refine start_ (n := 16) (S := fun w' => True) (ds := []) (bm 16 0) (by kernel_rfl) rfl rfl trivial (fun hHeld => ?_)
    replace HM := Aside.mk (HM.out.below (below_drew1 (Below.refl _ _)))
    replace HW := Aside.mk (HW.out.trans ((below_drew1 (Below.refl _ _)).mono HW.out.size))
    replace HY := Aside.mk (blk_drew HY.out)
    clear y0 y1 y2 c0 c1 c2 c3 c4 c5 c6 c7 c8 c9 c10 c11 c12 c13
    refine pu_ 0 (bm 16 1) ?_
    refine pu_ 1 (bm 16 3) ?_
    refine pu_ 2 (bm 16 7) ?_
    refine of_ 3 (bm 16 15) ?_
    refine pu_ 4 (bm 16 31) ?_
    refine pu_ 5 (bm 16 63) ?_
    refine of_ 6 (bm 16 127) ?_
    refine of_ 7 (bm 16 255) ?_
    refine of_ 8 (bm 16 511) ?_
    refine of_ 9 (bm 16 1023) ?_
    refine of_ 10 (bm 16 2047) ?_
    refine of_ 11 (bm 16 4095) ?_
    refine of_ 12 (bm 16 8191) ?_
    refine of_ 13 (bm 16 16383) ?_
    refine pu_ 14 (bm 16 32767) ?_
    refine pu_ 15 (bm 16 65535) ?_
    refine done_ (by kernel_rfl) ?_
    clear hHeld
    obtain ⟨y0, y1, y2⟩ := cell3 HY.out
    obtain ⟨c0, c1, c2, c3, c4, c5, c6, c7, c8, c9, c10, c11, c12, c13⟩ := HM.out.cells
    go_wp2_with fail
    refine start_ (n := 24) (S := fun w' => w'.cell? ⟨w.heap.size, 0, none⟩ = some (.int .i64 c.op) ∧ True) (ds := []) (bm 24 0) (by kernel_rfl) rfl rfl ⟨(blk_cell (blk_drew HY.out) 0).trans rfl, trivial⟩ (fun hHeld => ?_)
    replace HM := Aside.mk (HM.out.below (below_drew1 (Below.refl _ _)))
    replace HW := Aside.mk (HW.out.trans ((below_drew1 (Below.refl _ _)).mono HW.out.size))
    replace HY := Aside.mk (blk_drew HY.out)
    clear y0 y1 y2 c0 c1 c2 c3 c4 c5 c6 c7 c8 c9 c10 c11 c12 c13
    refine pu_ 0 (bm 24 1) ?_
    refine ta_ 1 (bm 24 3) hHeld ?_
    refine pu_ 2 (bm 24 7) ?_
    refine pu_ 3 (bm 24 15) ?_
    refine of_ 4 (bm 24 31) ?_
    refine of_ 5 (bm 24 63) ?_
    refine of_ 6 (bm 24 127) ?_
    refine of_ 7 (bm 24 255) ?_
    refine of_ 8 (bm 24 511) ?_
    refine of_ 9 (bm 24 1023) ?_
    refine of_ 10 (bm 24 2047) ?_
    refine of_ 11 (bm 24 4095) ?_
    refine of_ 12 (bm 24 8191) ?_
    refine of_ 13 (bm 24 16383) ?_
    refine of_ 14 (bm 24 32767) ?_
    refine of_ 15 (bm 24 65535) ?_
    refine of_ 16 (bm 24 131071) ?_
    refine of_ 17 (bm 24 262143) ?_
    refine of_ 18 (bm 24 524287) ?_
    refine of_ 19 (bm 24 1048575) ?_
    refine of_ 20 (bm 24 2097151) ?_
    refine of_ 21 (bm 24 4194303) ?_
    refine pu_ 22 (bm 24 8388607) ?_
    refine pu_ 23 (bm 24 16777215) ?_
    refine done_ (by kernel_rfl) ?_
    clear hHeld
    obtain ⟨y0, y1, y2⟩ := cell3 HY.out
    obtain ⟨c0, c1, c2, c3, c4, c5, c6, c7, c8, c9, c10, c11, c12, c13⟩ := HM.out.cells
    go_wp2_with fail
    refine start_ (n := 14) (S := fun w' => w'.cell? ⟨w.heap.size, 0, none⟩ = some (.int .i64 c.op) ∧ True) (ds := []) (bm 14 0) (by kernel_rfl) rfl rfl ⟨(blk_cell (blk_drew HY.out) 0).trans rfl, trivial⟩ (fun hHeld => ?_)
    replace HM := Aside.mk (HM.out.below (below_drew1 (Below.refl _ _)))
    replace HW := Aside.mk (HW.out.trans ((below_drew1 (Below.refl _ _)).mono HW.out.size))
    replace HY := Aside.mk (blk_drew HY.out)
    clear y0 y1 y2 c0 c1 c2 c3 c4 c5 c6 c7 c8 c9 c10 c11 c12 c13
    refine pu_ 0 (bm 14 1) ?_
    refine ta_ 1 (bm 14 3) hHeld ?_
    refine pu_ 2 (bm 14 7) ?_
    refine pu_ 3 (bm 14 15) ?_
    refine of_ 4 (bm 14 31) ?_
    refine of_ 5 (bm 14 63) ?_
    refine of_ 6 (bm 14 127) ?_
    refine of_ 7 (bm 14 255) ?_
    refine of_ 8 (bm 14 511) ?_
    refine of_ 9 (bm 14 1023) ?_
    refine of_ 10 (bm 14 2047) ?_
    refine of_ 11 (bm 14 4095) ?_
    refine pu_ 12 (bm 14 8191) ?_
    refine pu_ 13 (bm 14 16383) ?_
    refine done_ (by kernel_rfl) ?_
    clear hHeld
    obtain ⟨y0, y1, y2⟩ := cell3 HY.out
    obtain ⟨c0, c1, c2, c3, c4, c5, c6, c7, c8, c9, c10, c11, c12, c13⟩ := HM.out.cells
    have EC := Aside.mk (show codeL cx st t c = 12 from by unfold codeL; rw [if_neg (by have := HT.out; omega), if_neg (by have := HV.out; omega), if_neg (by have := HV.out; omega), if_neg (by have := HV.out; omega)])
    go_wp2
    go_ret
    exact ⟨by rw [EC.out] <;> rfl, HW.out⟩
  have h5 := hv
  clear hv
  by_cases hv : c.op = 6
  · have o1 : (c.op == 1) = false := by rw [hv]; rfl
    have o2 : (c.op == 2) = false := by rw [hv]; rfl
    have o3 : (c.op == 3) = false := by rw [hv]; rfl
    have o4 : (c.op == 4) = false := by rw [hv]; rfl
    have o5 : (c.op == 5) = false := by rw [hv]; rfl
    have o6 : (c.op == 6) = true := by rw [hv]; rfl
    have HV := Aside.mk hv
    clear hv
    go_wp2_with fail
    refine start_ (n := 16) (S := fun w' => True) (ds := []) (bm 16 0) (by kernel_rfl) rfl rfl trivial (fun hHeld => ?_)
    replace HM := Aside.mk (HM.out.below (below_drew1 (Below.refl _ _)))
    replace HW := Aside.mk (HW.out.trans ((below_drew1 (Below.refl _ _)).mono HW.out.size))
    replace HY := Aside.mk (blk_drew HY.out)
    clear y0 y1 y2 c0 c1 c2 c3 c4 c5 c6 c7 c8 c9 c10 c11 c12 c13
    refine pu_ 0 (bm 16 1) ?_
    refine pu_ 1 (bm 16 3) ?_
    refine pu_ 2 (bm 16 7) ?_
    refine of_ 3 (bm 16 15) ?_
    refine pu_ 4 (bm 16 31) ?_
    refine pu_ 5 (bm 16 63) ?_
    refine of_ 6 (bm 16 127) ?_
    refine of_ 7 (bm 16 255) ?_
    refine of_ 8 (bm 16 511) ?_
    refine of_ 9 (bm 16 1023) ?_
    refine of_ 10 (bm 16 2047) ?_
    refine of_ 11 (bm 16 4095) ?_
    refine of_ 12 (bm 16 8191) ?_
    refine of_ 13 (bm 16 16383) ?_
    refine pu_ 14 (bm 16 32767) ?_
    refine pu_ 15 (bm 16 65535) ?_
    refine done_ (by kernel_rfl) ?_
    clear hHeld
    obtain ⟨y0, y1, y2⟩ := cell3 HY.out
    obtain ⟨c0, c1, c2, c3, c4, c5, c6, c7, c8, c9, c10, c11, c12, c13⟩ := HM.out.cells
    go_wp2_with fail
    refine start_ (n := 24) (S := fun w' => w'.cell? ⟨w.heap.size, 0, none⟩ = some (.int .i64 c.op) ∧ True) (ds := []) (bm 24 0) (by kernel_rfl) rfl rfl ⟨(blk_cell (blk_drew HY.out) 0).trans rfl, trivial⟩ (fun hHeld => ?_)
    replace HM := Aside.mk (HM.out.below (below_drew1 (Below.refl _ _)))
    replace HW := Aside.mk (HW.out.trans ((below_drew1 (Below.refl _ _)).mono HW.out.size))
    replace HY := Aside.mk (blk_drew HY.out)
    clear y0 y1 y2 c0 c1 c2 c3 c4 c5 c6 c7 c8 c9 c10 c11 c12 c13
    refine pu_ 0 (bm 24 1) ?_
    refine ta_ 1 (bm 24 3) hHeld ?_
    refine pu_ 2 (bm 24 7) ?_
    refine pu_ 3 (bm 24 15) ?_
    refine of_ 4 (bm 24 31) ?_
    refine of_ 5 (bm 24 63) ?_
    refine of_ 6 (bm 24 127) ?_
    refine of_ 7 (bm 24 255) ?_
    refine of_ 8 (bm 24 511) ?_
    refine of_ 9 (bm 24 1023) ?_
    refine of_ 10 (bm 24 2047) ?_
    refine of_ 11 (bm 24 4095) ?_
    refine of_ 12 (bm 24 8191) ?_
    refine of_ 13 (bm 24 16383) ?_
    refine of_ 14 (bm 24 32767) ?_
    refine of_ 15 (bm 24 65535) ?_
    refine of_ 16 (bm 24 131071) ?_
    refine of_ 17 (bm 24 262143) ?_
    refine of_ 18 (bm 24 524287) ?_
    refine of_ 19 (bm 24 1048575) ?_
    refine of_ 20 (bm 24 2097151) ?_
    refine of_ 21 (bm 24 4194303) ?_
    refine pu_ 22 (bm 24 8388607) ?_
    refine pu_ 23 (bm 24 16777215) ?_
    refine done_ (by kernel_rfl) ?_
    clear hHeld
    obtain ⟨y0, y1, y2⟩ := cell3 HY.out
    obtain ⟨c0, c1, c2, c3, c4, c5, c6, c7, c8, c9, c10, c11, c12, c13⟩ := HM.out.cells
    go_wp2_with fail
    have EC := Aside.mk (show codeL cx st t c = if c.n < 1 ∨ c.n > cx.cap then 13 else 0 from by unfold codeL; rw [if_neg (by have := HT.out; omega), if_neg (by have := HV.out; omega), if_pos HV.out])
    refine start_ (n := 14) (S := fun w' => w'.cell? ⟨w.heap.size, 0, none⟩ = some (.int .i64 c.op) ∧ w'.cell? ⟨w.heap.size, 1, none⟩ = some (.int .i64 c.n) ∧ w'.cell? ⟨w.heap.size, 2, none⟩ = some (.slice A c.data.length C) ∧ w'.cell? ⟨B, 2, none⟩ = some (.int .i64 cx.cap) ∧ True) (ds := []) (bm 14 0) (by kernel_rfl) rfl rfl ⟨(blk_cell (blk_drew HY.out) 0).trans rfl, (blk_cell (blk_drew HY.out) 1).trans rfl, (blk_cell (blk_drew HY.out) 2).trans rfl, (HM.out.below (below_drew1 (Below.refl _ _))).cells.2.2.1, trivial⟩ (fun hHeld => ?_)
    replace HM := Aside.mk (HM.out.below (below_drew1 (Below.refl _ _)))
    replace HW := Aside.mk (HW.out.trans ((below_drew1 (Below.refl _ _)).mono HW.out.size))
    replace HY := Aside.mk (blk_drew HY.out)
    clear y0 y1 y2 c0 c1 c2 c3 c4 c5 c6 c7 c8 c9 c10 c11 c12 c13
    refine pu_ 0 (bm 14 1) ?_
    refine ta_ 1 (bm 14 3) hHeld ?_
    refine pu_ 2 (bm 14 7) ?_
    refine pu_ 3 (bm 14 15) ?_
    refine pu_ 4 (bm 14 31) ?_
    refine ta_ 5 (bm 14 63) hHeld ?_
    refine pu_ 6 (bm 14 127) ?_
    refine pu_ 7 (bm 14 255) ?_
    refine pu_ 8 (bm 14 511) ?_
    refine pu_ 9 (bm 14 1023) ?_
    refine ta_ 10 (bm 14 2047) hHeld ?_
    refine one_ (i := 11) (N := some 118) (bm 14 4095) rfl rfl (by kernel_rfl) (by decide) (fun K hK => ?_)
    refine goes_ Tryd.func74 (by kernel_rfl) rfl #[.int .i64 c.n, .int .i64 cx.cap] (by rfl) rfl rfl (by (try simp only [List.map_toArray, List.map_cons, List.map_nil]); first | done | rfl) ?_
    refine (l_outside _ _ _).mono ?_
    rintro q wd11 ⟨rfl, hb⟩
    refine ⟨_, rfl, ?_⟩
    replace HM := Aside.mk (HM.out.below hb)
    replace HW := Aside.mk (HW.out.trans (hb.mono HW.out.size))
    replace HY := Aside.mk (blk_below HY.out hb)
    clear hb
    refine hK.out _ _ ⟨(blk_cell HY.out 0).trans rfl, (blk_cell HY.out 1).trans rfl, (blk_cell HY.out 2).trans rfl, HM.out.cells.2.2.1, trivial⟩ (fun hHeld => ?_)
    clear hK K
    refine norm_ (a' := ?_) ?_ ?_
    rotate_left
    · show Act.put _ (some 118) _ = _
      simp only [Act.put, List.setIfInBounds_toArray, List.set_cons_zero, List.set_cons_succ, i64_w, i32_w]
      rfl
    refine pu_ 12 (bm 14 8191) ?_
    refine pu_ 13 (bm 14 16383) ?_
    refine done_ (by kernel_rfl) ?_
    clear hHeld
    obtain ⟨y0, y1, y2⟩ := cell3 HY.out
    obtain ⟨c0, c1, c2, c3, c4, c5, c6, c7, c8, c9, c10, c11, c12, c13⟩ := HM.out.cells
    cases hob : outB c.n cx.cap with
    | true =>
      have HO := Aside.mk (outB_yes hob)
      clear hob
      go_wp2
      go_ret
      exact ⟨by rw [EC.out, if_pos HO.out] <;> rfl, HW.out⟩
    | false =>
      have HO := Aside.mk (outB_no hob)
      clear hob
      go_wp2
      go_ret
      exact ⟨by rw [EC.out, if_neg HO.out] <;> rfl, HW.out⟩
  have h6 := hv
  clear hv
  have o1 : (c.op == 1) = false := by simpa using h1
  have o2 : (c.op == 2) = false := by simpa using h2
  have o3 : (c.op == 3) = false := by simpa using h3
  have o4 : (c.op == 4) = false := by simpa using h4
  have o5 : (c.op == 5) = false := by simpa using h5
  have o6 : (c.op == 6) = false := by simpa using h6
  have HV := Aside.mk (And.intro h1 (And.intro h2 (And.intro h3 (And.intro h4 (And.intro h5 h6)))))
  clear h1 h2 h3 h4 h5 h6
  go_wp2_with fail
  refine start_ (n := 16) (S := fun w' => True) (ds := []) (bm 16 0) (by kernel_rfl) rfl rfl trivial (fun hHeld => ?_)
  replace HM := Aside.mk (HM.out.below (below_drew1 (Below.refl _ _)))
  replace HW := Aside.mk (HW.out.trans ((below_drew1 (Below.refl _ _)).mono HW.out.size))
  replace HY := Aside.mk (blk_drew HY.out)
  clear y0 y1 y2 c0 c1 c2 c3 c4 c5 c6 c7 c8 c9 c10 c11 c12 c13
  refine pu_ 0 (bm 16 1) ?_
  refine pu_ 1 (bm 16 3) ?_
  refine pu_ 2 (bm 16 7) ?_
  refine of_ 3 (bm 16 15) ?_
  refine pu_ 4 (bm 16 31) ?_
  refine pu_ 5 (bm 16 63) ?_
  refine of_ 6 (bm 16 127) ?_
  refine of_ 7 (bm 16 255) ?_
  refine of_ 8 (bm 16 511) ?_
  refine of_ 9 (bm 16 1023) ?_
  refine of_ 10 (bm 16 2047) ?_
  refine of_ 11 (bm 16 4095) ?_
  refine of_ 12 (bm 16 8191) ?_
  refine of_ 13 (bm 16 16383) ?_
  refine pu_ 14 (bm 16 32767) ?_
  refine pu_ 15 (bm 16 65535) ?_
  refine done_ (by kernel_rfl) ?_
  clear hHeld
  obtain ⟨y0, y1, y2⟩ := cell3 HY.out
  obtain ⟨c0, c1, c2, c3, c4, c5, c6, c7, c8, c9, c10, c11, c12, c13⟩ := HM.out.cells
  go_wp2_with fail
  refine start_ (n := 24) (S := fun w' => w'.cell? ⟨w.heap.size, 0, none⟩ = some (.int .i64 c.op) ∧ True) (ds := []) (bm 24 0) (by kernel_rfl) rfl rfl ⟨(blk_cell (blk_drew HY.out) 0).trans rfl, trivial⟩ (fun hHeld => ?_)
  replace HM := Aside.mk (HM.out.below (below_drew1 (Below.refl _ _)))
  replace HW := Aside.mk (HW.out.trans ((below_drew1 (Below.refl _ _)).mono HW.out.size))
  replace HY := Aside.mk (blk_drew HY.out)
  clear y0 y1 y2 c0 c1 c2 c3 c4 c5 c6 c7 c8 c9 c10 c11 c12 c13
  refine pu_ 0 (bm 24 1) ?_
  refine ta_ 1 (bm 24 3) hHeld ?_
  refine pu_ 2 (bm 24 7) ?_
  refine pu_ 3 (bm 24 15) ?_
  refine of_ 4 (bm 24 31) ?_
  refine of_ 5 (bm 24 63) ?_
  refine of_ 6 (bm 24 127) ?_
  refine of_ 7 (bm 24 255) ?_
  refine of_ 8 (bm 24 511) ?_
  refine of_ 9 (bm 24 1023) ?_
  refine of_ 10 (bm 24 2047) ?_
  refine of_ 11 (bm 24 4095) ?_
  refine of_ 12 (bm 24 8191) ?_
  refine of_ 13 (bm 24 16383) ?_
  refine of_ 14 (bm 24 32767) ?_
  refine of_ 15 (bm 24 65535) ?_
  refine of_ 16 (bm 24 131071) ?_
  refine of_ 17 (bm 24 262143) ?_
  refine of_ 18 (bm 24 524287) ?_
  refine of_ 19 (bm 24 1048575) ?_
  refine of_ 20 (bm 24 2097151) ?_
  refine of_ 21 (bm 24 4194303) ?_
  refine pu_ 22 (bm 24 8388607) ?_
  refine pu_ 23 (bm 24 16777215) ?_
  refine done_ (by kernel_rfl) ?_
  clear hHeld
  obtain ⟨y0, y1, y2⟩ := cell3 HY.out
  obtain ⟨c0, c1, c2, c3, c4, c5, c6, c7, c8, c9, c10, c11, c12, c13⟩ := HM.out.cells
  go_wp2_with fail
  refine start_ (n := 14) (S := fun w' => w'.cell? ⟨w.heap.size, 0, none⟩ = some (.int .i64 c.op) ∧ True) (ds := []) (bm 14 0) (by kernel_rfl) rfl rfl ⟨(blk_cell (blk_drew HY.out) 0).trans rfl, trivial⟩ (fun hHeld => ?_)
  replace HM := Aside.mk (HM.out.below (below_drew1 (Below.refl _ _)))
  replace HW := Aside.mk (HW.out.trans ((below_drew1 (Below.refl _ _)).mono HW.out.size))
  replace HY := Aside.mk (blk_drew HY.out)
  clear y0 y1 y2 c0 c1 c2 c3 c4 c5 c6 c7 c8 c9 c10 c11 c12 c13
  refine pu_ 0 (bm 14 1) ?_
  refine ta_ 1 (bm 14 3) hHeld ?_
  refine pu_ 2 (bm 14 7) ?_
  refine pu_ 3 (bm 14 15) ?_
  refine of_ 4 (bm 14 31) ?_
  refine of_ 5 (bm 14 63) ?_
  refine of_ 6 (bm 14 127) ?_
  refine of_ 7 (bm 14 255) ?_
  refine of_ 8 (bm 14 511) ?_
  refine of_ 9 (bm 14 1023) ?_
  refine of_ 10 (bm 14 2047) ?_
  refine of_ 11 (bm 14 4095) ?_
  refine pu_ 12 (bm 14 8191) ?_
  refine pu_ 13 (bm 14 16383) ?_
  refine done_ (by kernel_rfl) ?_
  clear hHeld
  obtain ⟨y0, y1, y2⟩ := cell3 HY.out
  obtain ⟨c0, c1, c2, c3, c4, c5, c6, c7, c8, c9, c10, c11, c12, c13⟩ := HM.out.cells
  have EC := Aside.mk (show codeL cx st t c = 12 from by unfold codeL; rw [if_neg (by have := HT.out; omega), if_neg (by have := HV.out; omega), if_neg (by have := HV.out; omega), if_neg (by have := HV.out; omega)])
  go_wp2
  go_ret
  exact ⟨by rw [EC.out] <;> rfl, HW.out⟩
end Go.Proofs.YtgibmlbdkijflaaDoor.So
set_option linter.unusedVariables false
set_option linter.unusedSimpArgs false
set_option maxRecDepth 100000
namespace Go.Proofs.YtgibmlbdkijflaaDoor.So
open Go.RowKit Go.Proofs.YtgibmlbdkijflaaDoorW.PrintWords Go.Proofs.YtgibmlbdkijflaaDoorW.PrintLast Go.Proofs.YtgibmlbdkijflaaDoorW.PrintMore
open Ow
open Mo (Aside Cx U64 I64 ints least run cutW plusW New below_low tn1 meas1 w64 i1 wrapE)
open QGc (checkC)
open Graph (checkG Gv)
theorem und_bs : Tryd.prog.underlying 72 = some (.slice 4) := by kernel_rfl
theorem und_is : Tryd.prog.underlying 37 = some (.slice 3) := by kernel_rfl
theorem und_i : Tryd.prog.underlying 3 = some (.int .i64) := by kernel_rfl
theorem inf_b : (Tryd.prog.info? 4).map (fun i => (i.zero, i.size, i.bytes)) = some (some (.bool false), 1, 1) := by kernel_rfl
theorem inf_i : (Tryd.prog.info? 3).map (fun i => (i.zero, i.size, i.bytes)) = some (some (.int .i64 0), 1, 8) := by kernel_rfl
structure Ws (w0 w W : World) (B : Nat) (k0 k : Lk) (st0 st : Ls) (n : Int) : Prop where
  x : OW w0.heap.size W B 74 (rowsL k st)
  t : TK w0 w W (OwnB (rowsL k0 st0) B)
  b : W.heap[B]? = some (.cells (boxL k n) 74 (0, 0))
  n : ∀ q, OwnB (rowsL k st) B q → OwnB (rowsL k0 st0) B q ∨ w.heap.size ≤ q
section
variable {w0 w W W1 : World} {B : Nat} {k0 k k' : Lk} {st0 st st' : Ls} {n n' : Int} {cx : Cx} {lp : Lp} {i i' : Nat}
theorem Ws.start (h : Lm w0.heap.size w B k cx lp st i) (h0 : Below w0.heap.size w0 w) : Ws w0 w w B k k st st st.put.length := ⟨h.x, TK.refl h0, h.b, fun _ h => .inl h⟩
theorem Ws.box (h : Ws w0 w W B k0 k st0 st n) (j : Nat) (u : Value) (eb : (boxL k n).setIfInBounds j u = boxL k' n') (er : rowsL k st = rowsL k' st') : Ws w0 w (W.setCell ⟨B, j, none⟩ u) B k0 k' st0 st' n' :=
  ⟨er ▸ h.x.setB j u, h.t.set h.x.bb (.inl (.inl rfl)) j u, blk_put h.b j u eb, er ▸ h.n⟩
theorem Ws.upd (h : Ws w0 w W B k0 k st0 st n) (j : Nat) {x : Rw} {rs : List Rw} (hj : (rowsL k st)[j]? = some x) (hx : OW w0.heap.size W1 B 74 rs) (hw : ∀ q, OwnB rs B q → OwnB (rowsL k st) B q ∨ W.heap.size ≤ q) (hg : W.grownBy W1 x.v.ownBlock) (er : rs = rowsL k st') : Ws w0 w W1 B k0 k st0 st' n := by
  subst er
  have hr := h.x.r j x hj
  exact ⟨hx, h.t.grown hg (fun q hq => Kd.R_base hr q hq) (fun q hq => h.n q (.inr ⟨j, x, hj, hq⟩)), blk_grown h.b hg (fun e => h.x.box_ne hj e.symm rfl), fun q hq => by
    rcases hw q hq with h1 | h1
    · exact h.n q h1
    · exact .inr (Nat.le_trans h.t.s h1)⟩
theorem Ws.grow (h : Ws w0 w W B k0 k st0 st n) (j : Nat) {x x' : Rw} (hj : (rowsL k st)[j]? = some x) (hE : x'.d.E = [] ∧ x'.e ≠ 74) (hr : x'.d.R x'.e W1 w0.heap.size (fun _ => True) x'.v x'.xs) (hg : W.grownBy W1 x.v.ownBlock) (hn : New W x.v x'.v) (c : Nat) (eb : (boxL k n).setIfInBounds c x'.v = boxL k' n) (er : (rowsL k st).set j x' = rowsL k' st') : Ws w0 w (W1.setCell ⟨B, c, none⟩ x'.v) B k0 k' st0 st' n := by
  obtain ⟨hx, hw⟩ := h.x.upd j x' hj hE hr hg hn
  rw [er] at hx hw
  have hr0 := h.x.r j x hj
  have ht := h.t.grown hg (fun q hq => Kd.R_base hr0 q hq) (fun q hq => h.n q (.inr ⟨j, x, hj, hq⟩))
  have hb := blk_grown h.b hg (fun e => h.x.box_ne hj e.symm rfl)
  exact ⟨hx.setB c _, ht.set h.x.bb (.inl (.inl rfl)) c _, blk_put hb c _ eb, fun q hq => by
    rcases hw q hq with h1 | h1
    · exact h.n q h1
    · exact .inr (Nat.le_trans h.t.s h1)⟩
def LPost (w0 w : World) (B : Nat) (k : Lk) (cx : Cx) (lp : Lp) (st st' : Ls) (i' : Nat) (W : World) : Prop := ∃ k', Lm w0.heap.size W B k' cx lp st' i' ∧ TK w0 w W (OwnB (rowsL k st) B) ∧ (∀ q, OwnB (rowsL k' st') B q → OwnB (rowsL k st) B q ∨ w.heap.size ≤ q) ∧ Kp k k'
theorem Ws.done (hs : Ws w0 w W B k k' st st' n) (h : Lm w0.heap.size w B k cx lp st i) (en : n = st'.put.length) (ek : k'.vr = k.vr ∧ k'.wd = k.wd ∧ k'.cp = k.cp ∧ k'.pr = k.pr ∧ k'.sa = k.sa ∧ k'.U = k.U ∧ k'.un = k.un ∧ k'.uc = k.uc ∧ k'.E = k.E ∧ k'.en = k.en ∧ k'.ec = k.ec) (kp : Kp k k') (wf : Wf cx st' i') (hi : i' ≤ 1000) : LPost w0 w B k cx lp st st' i' W := by
  obtain ⟨e1, e2, e3, e4, e5, e6, e7, e8, e9, e10, e11⟩ := ek
  have hf : ∀ q, (¬ OwnB (rowsL k st) B q ∧ q < cx.lim) ∧ q < w.heap.size → ¬ OwnB (rowsL k' st') B q ∧ q < cx.lim := fun q hq => ⟨fun ho => by
    rcases hs.n q ho with h1 | h1
    · exact hq.1.1 h1
    · omega, hq.1.2⟩
  have hst : ∀ q, ((¬ OwnB (rowsL k st) B q ∧ q < cx.lim) ∧ q < w.heap.size) → q < w.heap.size → W.heap[q]? = w.heap[q]? := fun q hq hl => hs.t.p q hl hq.1.1
  refine ⟨k', { x := hs.x, b := by rw [← en]; exact hs.b, u := ?_, e := ?_, ec := by rw [e10, e11]; exact h.ec, s := by rw [e1, e2, e3, e4, e5, e7, e8]; exact h.s, wf := wf, i := hi, lb := h.lb }, hs.t, hs.n, kp⟩
  · rw [e6, e7]; exact Kd.F_mono (Kd.F_step (Kd.F_bound h.u) hst) hf
  · rw [e9, e10]; exact Kd.F_mono (Kd.F_step (Kd.F_bound h.e) hst) hf
theorem LPost.below (h : LPost w0 w B k cx lp st st' i' W) (b : Below W.heap.size W W1) : LPost w0 w B k cx lp st st' i' W1 := by
  obtain ⟨k', h1, h2, h3, h4⟩ := h
  exact ⟨k', h1.below b, h2.below b, h3, h4⟩
theorem LPost.up {w2 : World} (h : LPost w0 w2 B k cx lp st st' i' W) (h0 : Below w0.heap.size w0 w) (b : Below w.heap.size w w2) : LPost w0 w B k cx lp st st' i' W := by
  obtain ⟨k', h1, h2, h3, h4⟩ := h
  exact ⟨k', h1, h2.up h0 b, fun q hq => (h3 q hq).imp id (fun h => Nat.le_trans b.size h), h4⟩
theorem LPost.set (h : LPost w0 w B k cx lp st st' i' W) {g t : Nat} {cs : Array Value} (hb : W.heap[g]? = some (.cells cs t (0, 0))) (hg : w.heap.size ≤ g) (h0 : w0.heap.size ≤ w.heap.size) (hB : B < w.heap.size) (ht : t ≠ 74 ∧ t ≠ 4 ∧ t ≠ 3 ∧ t ≠ 114) (j : Nat) (u : Value) : LPost w0 w B k cx lp st st' i' (W.setCell ⟨g, j, none⟩ u) := by
  obtain ⟨k', h1, h2, h3, h4⟩ := h
  have hno : ¬ OwnB (rowsL k' st') B g := h1.x.no hb ht.1 (fun i x hi => by
    match i, hi with
    | 0, hi => injection hi with hi; subst hi; exact Ne.symm ht.2.1
    | 1, hi => injection hi with hi; subst hi; exact Ne.symm ht.2.2.1
    | 2, hi => injection hi with hi; subst hi; exact Ne.symm ht.2.2.1
    | 3, hi => injection hi with hi; subst hi; exact Ne.symm ht.2.2.2
    | 4, hi => injection hi with hi; subst hi; exact Ne.symm ht.2.2.1
    | 5, hi => injection hi with hi; subst hi; exact Ne.symm ht.2.2.1
    | n + 6, hi => cases hi)
  refine ⟨k', h1.move (fun q _ hq => Below.heap_setCell W ⟨g, j, none⟩ u q (by
    show q ≠ g
    intro e
    rw [e] at hq
    rcases hq with hq | hq
    · exact hno hq
    · have := h1.lb; omega)), h2.set (by omega) (.inr hg) j u, h3, h4⟩
end
set_option maxHeartbeats 8000000 in
theorem l_claim {w0 w : World} {B : Nat} {k : Lk} {cx : Cx} {lp : Lp} {st : Ls} {i : Nat} (h : Lm w0.heap.size w B k cx lp st i) (h0 : Below w0.heap.size w0 w) (n : Nat) (hn : n ≤ 64) (hi : i < 1000) :
    Calls Tryd.prog 75 #[.pointer (some ⟨B, 0, none⟩), .int .i64 (n : Int)] w fun e W => e = .returned (.int .i64 (st.put.length : Int)) ∧ LPost w0 w B k cx lp st (claimL st n) (i + 1) W := by
  have HM := Aside.mk h
  have HN := Aside.mk hn
  have HI := Aside.mk hi
  have HPN := Aside.mk (show st.put.length ≤ 64000 by have := h.wf.tk; have := h.i; omega)
  have HS := Aside.mk (Ws.start h h0)
  have ew : wrap64 ((st.put.length : Int) + (n : Int)) = (st.put.length : Int) + (n : Int) := w64 (by have := HPN.out; omega)
  have ew2 : IntKind.i64.wrap ((st.put.length : Int) + (n : Int)) = (st.put.length : Int) + (n : Int) := by rw [wrapE]; exact ew
  obtain ⟨c0, c1, c2, c3, c4, c5, c6, c7, c8, c9, c10, c11, c12, c13⟩ := h.cells
  have HK := Aside.mk h.ns
  have f7 := blk_frozen h.b 7
  clear h h0 hn hi
  go_enter Tryd.func75, Tryd.ntmps75
  go_upto_region 3 with (fail)
  clear c0 c1 c2 c3 c4 c5 c6 c7 c8 c9 c10 c11 c12 c13 f7
  have HS1 := Aside.mk (HS.out.box (k' := k) (st' := st) (n' := (st.put.length : Int) + (n : Int)) 7 (.int .i64 ((st.put.length : Int) + (n : Int))) rfl rfl)
  clear HS
  generalize w.setCell ⟨B, 7, none⟩ (.int .i64 ((st.put.length : Int) + (n : Int))) = w1 at *
  have d8 : w1.cell? ⟨B, 8, none⟩ = some (.slice k.P k.pn k.pc) := (blk_cell HS1.out.b 8).trans rfl
  go_wp2_with (first | ((with_reducible refine gate_builtin (b := .append) (xs := #[.tmp 22, .tmp 23]) rfl ?_); at_builtin; go_must (refine Kd.R_append_zeros Kd.bool (w0 := w0) w0.heap.size (by rfl) (.tmp 22) (.tmp 23) 72 3 4 (.bool false) 1 rfl und_bs und_i inf_b rfl (by decide) (by decide) (.slice k.P k.pn k.pc) st.put false (n : Int) (fun _ => True) rfl rfl rfl (fun _ _ => trivial) (HS1.out.x.r 0 _ rfl) (by omega) HS1.out.t.b HS1.out.t.b.size (by have := HPN.out; have := HN.out; rw [Int.toNat_natCast]; omega) ?_)))
  intro v2 w2 hr _ hg hat
  obtain ⟨A2, C2, ev⟩ := Kd.R_slice hr
  subst ev
  try rw [Int.toNat_natCast] at hr
  generalize hm2 : (st.put ++ List.replicate n false).length = m2 at *
  clear hm2
  have HS2 := Aside.mk (HS1.out.grow (k' := { k with P := A2, pn := m2, pc := C2 }) (st' := { st with put := st.put ++ List.replicate n false }) 0 (x' := ⟨Kd.bool, 4, .slice A2 m2 C2, st.put ++ List.replicate n false⟩) rfl ⟨rfl, show (4 : Nat) ≠ 74 by decide⟩ hr hg hat 8 rfl rfl)
  have hb2 := blk_grown HS1.out.b hg (fun e => HS1.out.x.box_ne (i := 0) rfl e.symm rfl)
  have d8 : w2.cell? ⟨B, 8, none⟩ = some (.slice k.P k.pn k.pc) := (blk_cell hb2 8).trans rfl
  have f8 := blk_frozen hb2 8
  clear hr hg hat HS1 hb2
  go_upto_region 4 with (fail)
  clear d8 f8
  generalize w2.setCell ⟨B, 8, none⟩ (.slice A2 m2 C2) = w3 at *
  have d9 : w3.cell? ⟨B, 9, none⟩ = some (.slice k.D k.dn k.dc) := (blk_cell HS2.out.b 9).trans rfl
  go_wp2_with (first | ((with_reducible refine gate_builtin (b := .append) (xs := #[.tmp 31, .tmp 32]) rfl ?_); at_builtin; refine Kd.R_append_zeros (Kd.int .i64) (w0 := w0) w0.heap.size (by rfl) (.tmp 31) (.tmp 32) 37 3 3 (.int .i64 0) 8 rfl und_is und_i inf_i rfl (by decide) (by decide) (.slice k.D k.dn k.dc) st.data (0 : Int) (n : Int) (fun _ => True) rfl rfl rfl (fun _ _ => trivial) (HS2.out.x.r 1 _ rfl) (by omega) HS2.out.t.b HS2.out.t.b.size (by have := HPN.out; have := HN.out; have := HM.out.wf.ld; rw [Int.toNat_natCast]; omega) ?_))
  intro v4 w4 hr _ hg hat
  obtain ⟨A4, C4, ev⟩ := Kd.R_slice hr
  subst ev
  try rw [Int.toNat_natCast] at hr
  generalize hm4 : (st.data ++ List.replicate n (0 : Int)).length = m4 at *
  clear hm4
  have HS4 := Aside.mk (HS2.out.grow (k' := { k with P := A2, pn := m2, pc := C2, D := A4, dn := m4, dc := C4 }) (st' := claimL st n) 1 (x' := ⟨Kd.int .i64, 3, .slice A4 m4 C4, st.data ++ List.replicate n 0⟩) rfl ⟨rfl, show (3 : Nat) ≠ 74 by decide⟩ hr hg hat 9 rfl rfl)
  have hb4 := blk_grown HS2.out.b hg (fun e => HS2.out.x.box_ne (i := 1) rfl e.symm rfl)
  have d9 : w4.cell? ⟨B, 9, none⟩ = some (.slice k.D k.dn k.dc) := (blk_cell hb4 9).trans rfl
  have f9 := blk_frozen hb4 9
  clear hr hg hat HS2 hb4
  go_upto_region 5 with (fail)
  clear d9 f9
  generalize w4.setCell ⟨B, 9, none⟩ (.slice A4 m4 C4) = w5 at *
  go_wp2
  go_ret
  exact ⟨rfl, HS4.out.done HM.out (by simp [claimL]) ⟨rfl, rfl, rfl, rfl, rfl, rfl, rfl, rfl, rfl, rfl, rfl⟩ ⟨⟨rfl, rfl⟩, ⟨rfl, rfl⟩, ⟨rfl, rfl⟩, ⟨rfl, rfl⟩⟩ (HM.out.wf.claim n HN.out) HI.out⟩
theorem pub_get {lp : Lp} {st : Ls} {f n : Nat} : pubN lp st f (n + 1) = ⟨(pubN lp st f n).put.set (f + n) true, (pubN lp st f n).data.set (f + n) (st.slots.getD (lp.sl ((f + n : Nat) : Int)) 0), (pubN lp st f n).slots, (pubN lp st f n).held, (pubN lp st f n).gate, (pubN lp st f n).saw⟩ := by
  have h := (pub_put lp st f n).2.2.1
  rw [show pubN lp st f (n + 1) = putOne lp (pubN lp st f n) (f + n) from rfl]
  unfold putOne
  rw [← h]
set_option maxHeartbeats 16000000 in
theorem l_publish {w0 w : World} {B : Nat} {k : Lk} {cx : Cx} {lp : Lp} {st : Ls} {i : Nat} (h : Lm w0.heap.size w B k cx lp st i) (h0 : Below w0.heap.size w0 w) (f n : Nat) (hn : f + n ≤ st.put.length) :
    Calls Tryd.prog 77 #[.pointer (some ⟨B, 0, none⟩), .int .i64 (f : Int), .int .i64 (n : Int)] w fun e W => e = .returned (.tuple #[]) ∧ LPost w0 w B k cx lp st (pubN lp st f n) i W := by
  have H0 := Aside.mk h0
  have HN := Aside.mk hn
  have HPN := Aside.mk (show st.put.length ≤ 64000 by have := h.wf.tk; have := h.i; omega)
  have HP := Aside.mk (show LPost w0 w B k cx lp st (pubN lp st f 0) i w from ⟨k, h, TK.refl h0, fun _ h => .inl h, Kp.refl k⟩)
  have HL := Aside.mk (And.intro h.wf.ld (And.intro h.wf.ll h.s.kcp))
  have ew : wrap64 ((f : Int) + (n : Int)) = (f : Int) + (n : Int) := w64 (by have := HPN.out; omega)
  have ew2 : IntKind.i64.wrap ((f : Int) + (n : Int)) = (f : Int) + (n : Int) := by rw [wrapE]; exact ew
  clear h h0 hn
  go_enter Tryd.func77, Tryd.ntmps77
  go_wp2_with fail
  go_loopw [6] (fun x wr => ∃ j : Nat, x = .int .i64 ((f + j : Nat) : Int) ∧ j ≤ n ∧ Mo.Aside (LPost w0 w B k cx lp st (pubN lp st f j) i wr)) (fun x _ => f + n - (intOf x).toNat)
  case atStart => exact ⟨0, rfl, Nat.zero_le _, HP⟩
  case round =>
    clear HP
    obtain ⟨j, rfl, hj, HP⟩ := hrel
    by_cases hlt : j < n
    rotate_left
    · obtain rfl : j = n := by omega
      obtain ⟨fj, hfj⟩ : ∃ m, m = f + j := ⟨_, rfl⟩
      have t1 : decide ((fj : Int) < (f : Int) + (j : Int)) = false := decide_eq_false (by omega)
      have t2 : decide (fj < f + j) = false := decide_eq_false (by omega)
      rw [← hfj]
      clear hj hlt hfj
      go_wp2
      exact bodyPost_end (results_none rfl _ _ _) rfl ⟨rfl, HP.out⟩
    have HJ := Aside.mk hlt
    have HG := Aside.mk (pub_get (lp := lp) (st := st) (f := f) (n := j))
    obtain ⟨a1, a2, a3, a4, a5, a6, a7⟩ := pub_put lp st f j
    obtain ⟨st', hst⟩ : ∃ s, s = pubN lp st f j := ⟨_, rfl⟩
    rw [← hst] at HP a1 a2 a3 a4 a5 a6 HG
    have HLEN := Aside.mk (And.intro a1 (And.intro a2 a3))
    clear hst a1 a2 a3 a4 a5 a6 a7 hj hlt
    obtain ⟨m, hm⟩ : ∃ m, m = f + j := ⟨_, rfl⟩
    have HMB := Aside.mk (show m < st'.put.length by have := HJ.out; have := HN.out; have := HLEN.out.1; omega)
    have t1 : decide ((m : Int) < (f : Int) + (n : Int)) = true := decide_eq_true (by have := HJ.out; omega)
    have t2 : decide (m < f + n) = true := decide_eq_true (by have := HJ.out; omega)
    have t3 : (m : Int) < (f : Int) + (n : Int) := by have := HJ.out; omega
    rw [← hm] at HG ⊢
    have HME := Aside.mk hm
    have em := i1 (show m < 4611686018427387904 by have := HMB.out; have := HPN.out; have := HLEN.out.1; omega)
    obtain ⟨kk, hM, hT, hO, hK⟩ := HP.out
    have HKP := Mo.Aside.mk hK
    have HM := Aside.mk hM
    have HT := Aside.mk hT
    have HO := Aside.mk hO
    clear hM hT hO hK HP hm
    go_wp2_with fail
    refine (l_slot HM.out (m : Int)).mono ?_
    rintro r wa ⟨rfl, hb⟩
    replace HM := Aside.mk (HM.out.below hb)
    replace HT := Aside.mk (HT.out.below hb)
    clear hb t1 t2 t3
    have HSL := Aside.mk (show lp.sl (m : Int) < st'.slots.length by have h1 := HM.out.s.ls (m : Int); have h2 := HM.out.s.lb (m : Int); have h3 := HM.out.wf.ll; rw [HM.out.s.kcp] at h1 h2; omega)
    generalize hs : lp.sl (m : Int) = s at *
    clear hs
    go_upto_region 4 with (fail)
    have HM0 := Aside.mk (HM.out.below (below_drew1 (Below.refl _ _)))
    obtain ⟨qp, eP, _, _, dp, fp⟩ := HM0.out.put m HMB.out
    obtain ⟨qd, eD, _, _, dd, fd⟩ := HM0.out.data m (by have := HMB.out; have := HM0.out.wf.ld; omega)
    obtain ⟨ql, eL, _, _, dl, fl⟩ := HM0.out.slot s HSL.out
    obtain ⟨_, _, _, _, _, _, _, _, d8, d9, d10, _, _, _⟩ := HM0.out.cells
    rw [eP] at d8
    rw [eD] at d9
    rw [eL] at d10
    have g1 : decide ((m : Int) < (st'.put.length : Int)) = true := decide_eq_true (by have := HMB.out; omega)
    have g2 : (m : Int) < (st'.put.length : Int) := by have := HMB.out; omega
    have g3 : decide (m < st'.put.length) = true := decide_eq_true HMB.out
    have s1 : decide ((s : Int) < (st'.slots.length : Int)) = true := decide_eq_true (by have := HSL.out; omega)
    have s2 : (s : Int) < (st'.slots.length : Int) := by have := HSL.out; omega
    have s3 : decide (s < st'.slots.length) = true := decide_eq_true HSL.out
    have HD := Aside.mk (below_drew1 (Below.refl wa.heap.size wa))
    have HEP := Aside.mk eP
    have HED := Aside.mk eD
    rw [← HLEN.out.2.2] at HG
    generalize hsv : st'.slots.getD s 0 = sv at *
    clear eP eD eL fl hsv
    refine start_ (n := 21) (S := fun w' => w'.cell? ⟨B, 8, none⟩ = some (.slice (some ⟨qp, 0, none⟩) st'.put.length kk.pc) ∧ w'.cell? ⟨B, 9, none⟩ = some (.slice (some ⟨qd, 0, none⟩) st'.put.length kk.dc) ∧ w'.cell? ⟨B, 10, none⟩ = some (.slice (some ⟨ql, 0, none⟩) st'.slots.length kk.lc) ∧ w'.cell? ⟨ql, s, none⟩ = some (.int .i64 sv) ∧ True) (ds := [18, 20]) (bm 21 0) (by kernel_rfl) rfl rfl ⟨d8, d9, d10, dl, trivial⟩ (fun hHeld => ?_)
    generalize wa.drew = wd at *
    refine pu_ 0 (bm 21 1) ?_
    refine pu_ 1 (bm 21 3) ?_
    refine pu_ 2 (bm 21 7) ?_
    refine ta_ 3 (bm 21 15) hHeld ?_
    refine pu_ 4 (bm 21 31) ?_
    refine pu_ 5 (bm 21 63) ?_
    refine pu_ 6 (bm 21 127) ?_
    refine pu_ 7 (bm 21 255) ?_
    refine ta_ 8 (bm 21 511) hHeld ?_
    refine pu_ 9 (bm 21 1023) ?_
    refine pu_ 10 (bm 21 2047) ?_
    refine pu_ 11 (bm 21 4095) ?_
    refine pu_ 12 (bm 21 8191) ?_
    refine ta_ 13 (bm 21 16383) hHeld ?_
    refine pu_ 14 (bm 21 32767) ?_
    refine pu_ 15 (bm 21 65535) ?_
    refine ta_ 16 (bm 21 131071) hHeld ?_
    refine pu_ 17 (bm 21 262143) ?_
    refine last_ (i := 18) (N := none) (bm 21 524287) rfl rfl (by kernel_rfl) (by decide) (fun K hK => ?_)
    refine skip_ (w1 := ?_) (by rfl) rfl ?_ ?_
    rotate_left
    · go_simp
      rfl
    refine hK.out _ _ ?_
    clear hK K
    have HWS := Aside.mk (Ws.start HM0.out (HT.out.b.trans (HD.out.mono HT.out.b.size)))
    have hset := HWS.out.x.setBool 0 HEP.out rfl m true
    have HW1 := Aside.mk (HWS.out.upd (st' := { st' with put := st'.put.set m true }) 0 rfl hset.1 hset.2.1 (by show wd.grownBy _ (Value.slice kk.P kk.pn kk.pc).ownBlock; rw [HEP.out]; exact hset.2.2) rfl)
    clear hset d8 d9 d10 dl dp dd fp fd hHeld s1 s2 s3
    generalize wd.setCell ⟨qp, m, none⟩ (.bool true) = w1 at *
    obtain ⟨qd2, eD2, _, _, dd, fd⟩ := HW1.out.x.int 1 rfl m (by have := HMB.out; have := HM0.out.wf.ld; show m < st'.data.length; omega)
    obtain rfl : qd2 = qd := by have := HED.out; rw [eD2] at this; injection this with this; injection this
    clear eD2
    refine pu_ 19 (bm 21 1048575) ?_
    refine last_ (i := 20) (N := none) (bm 21 2097151) rfl rfl (by kernel_rfl) (by decide) (fun K hK => ?_)
    refine skip_ (w1 := ?_) (by rfl) rfl ?_ ?_
    rotate_left
    · go_simp
      rfl
    refine hK.out _ _ ?_
    clear hK K
    refine done_ (by kernel_rfl) ?_
    have HW2 := Aside.mk (show _ from HW1.out.x.setInt 1 HED.out rfl m sv)
    have HW3 := Aside.mk (HW1.out.upd (st' := { st' with put := st'.put.set m true, data := st'.data.set m sv }) 1 rfl HW2.out.1 HW2.out.2.1 (by show w1.grownBy _ (Value.slice kk.D kk.dn kk.dc).ownBlock; rw [HED.out]; exact HW2.out.2.2) rfl)
    clear dd fd HW2 HW1
    generalize w1.setCell ⟨qd2, m, none⟩ (.int .i64 sv) = w2 at *
    clear g1 g2 g3
    have HR := Aside.mk (show LPost w0 w B k cx lp st (pubN lp st f (j + 1)) i w2 from by
      rw [HG.out]
      have hwf : Wf cx { st' with put := st'.put.set m true, data := st'.data.set m sv } i := HM0.out.wf.puts (by simp) (by simp) rfl rfl rfl rfl (fun q hq => by
        show (st'.put.set m true).getD q false = true
        rw [getD_set]
        split
        · rfl
        · exact hq)
      obtain ⟨k', h1, h2, h3, h5⟩ := HW3.out.done HM0.out (by simp) ⟨rfl, rfl, rfl, rfl, rfl, rfl, rfl, rfl, rfl, rfl, rfl⟩ (Kp.refl _) hwf HM0.out.i
      exact ⟨k', h1, (HT.out.below HD.out).trans h2 HO.out, fun q hq => by
        rcases h3 q hq with h4 | h4
        · exact HO.out q h4
        · exact .inr (Nat.le_trans (Nat.le_trans HT.out.s HD.out.size) h4), HKP.out.trans h5⟩)
    clear HW3 HM0 HT HO HD HG HM
    go_wp2_with fail
    go_roundw
    case rel => exact ⟨j + 1, by rw [HME.out]; first | rfl | simp [Nat.add_assoc] | (exact congrArg (Value.int .i64) (by omega)), HJ.out, HR⟩
    case measure =>
      simp only [intOf, tn1, Int.toNat_natCast]
      have := HJ.out
      have := HME.out
      omega
theorem Lm.hold {w0 w : World} {B : Nat} {k : Lk} {cx : Cx} {lp : Lp} {st : Ls} {i : Nat} (h : Lm w0.heap.size w B k cx lp st i) (h0 : Below w0.heap.size w0 w) {q : Nat} (eH : k.H = some ⟨q, 0, none⟩) (t : Nat) (ht : t < cx.prod) (v : Hl) (hv : v = hl0 ∨ (1 ≤ v.n ∧ v.n ≤ cx.cap ∧ 0 ≤ v.f ∧ v.f + v.n ≤ st.put.length)) :
    ∃ W, W = ((w.setCell ⟨q, t * 2, none⟩ (.int .i64 v.f)).setCell ⟨q, t * 2 + 1, none⟩ (.int .i64 v.n)) ∧ LPost w0 w B k cx lp st { st with held := st.held.set t v } i W := by
  refine ⟨_, rfl, ?_⟩
  have hs := h.x.setRaw 3 eH rfl t (by rw [List.length_map, h.wf.lh]; exact ht) (hcs v) rfl ⟨rfl, rfl, fun u hu => by
    simp only [hcs, List.mem_cons, List.not_mem_nil, or_false] at hu
    rcases hu with rfl | rfl <;> rfl⟩
  have hu := (Ws.start h h0).upd (st' := { st with held := st.held.set t v }) 3 rfl hs.1 hs.2.1 (by show w.grownBy _ (Value.slice k.H k.hn k.hc).ownBlock; rw [eH]; exact hs.2.2) (by simp [rowsL, List.map_set])
  exact hu.done h rfl ⟨rfl, rfl, rfl, rfl, rfl, rfl, rfl, rfl, rfl, rfl, rfl⟩ (Kp.refl k) (h.wf.hold t v hv) h.i
end Go.Proofs.YtgibmlbdkijflaaDoor.So
set_option linter.unusedVariables false
set_option linter.unusedSimpArgs false
set_option maxRecDepth 100000
namespace Go.Proofs.YtgibmlbdkijflaaDoor.So
open Go.RowKit Go.Proofs.YtgibmlbdkijflaaDoorW.PrintWords Go.Proofs.YtgibmlbdkijflaaDoorW.PrintLast Go.Proofs.YtgibmlbdkijflaaDoorW.PrintMore
open Ow
open Mo (Aside Cx U64 I64 ints least run cutW plusW New below_low tn1 meas1 w64 i1 wrapE)
open QGc (checkC)
open Graph (checkG Gv)
theorem l_code {base : Nat} {w : World} {B : Nat} {k : Lk} {cx : Cx} {lp : Lp} {st : Ls} {i : Nat} (h : Lm base w B k cx lp st i) (t : Nat) (ht : t < cx.prod + cx.up.length) (c : Cl) (A : Option Addr) (C : Nat) :
    Calls Tryd.prog 38 #[.pointer (some ⟨B, 0, none⟩), .int .i64 (t : Int), .agg #[.int .i64 c.op, .int .i64 c.n, .slice A c.data.length C]] w fun e w' => e = .returned (.int .i64 (codeL cx st t c)) ∧ Below w.heap.size w w' := by
  by_cases h1 : t < cx.prod
  · exact l_codeP h t h1 c A C
  · exact l_codeC h t (t - cx.prod) (by omega) (by omega) c A C
theorem least_bd {base : Nat} {w : World} {B : Nat} {k : Lk} {cx : Cx} {lp : Lp} {st : Ls} {i : Nat} (h : Lm base w B k cx lp st i) : 0 ≤ least st.gate cx.ends ∧ least st.gate cx.ends ≤ st.put.length := by
  refine ⟨least_ge h.s.en (fun c _ => h.wf.g0 c), ?_⟩
  obtain ⟨c, r, hc⟩ := List.exists_cons_of_ne_nil h.s.en
  have h1 := least_mem (g := st.gate) (l := cx.ends) (c := c) (by rw [hc]; exact List.mem_cons_self ..)
  have := h.wf.gs c
  have := h.wf.sp c
  omega
set_option maxHeartbeats 8000000 in
theorem l_waits {base : Nat} {w : World} {B : Nat} {k : Lk} {cx : Cx} {lp : Lp} {st : Ls} {i : Nat} (h : Lm base w B k cx lp st i) (t : Nat) (ht : t < cx.prod + cx.up.length) (c : Cl) (A : Option Addr) (C : Nat) :
    Calls Tryd.prog 14 #[.pointer (some ⟨B, 0, none⟩), .int .i64 (t : Int), .agg #[.int .i64 c.op, .int .i64 c.n, .slice A c.data.length C]] w fun e w' => e = .returned (.bool (decide (waitsL cx st t c))) ∧ Below w.heap.size w w' := by
  have hb0 := below_alloc (Below.refl w.heap.size w) (.cells #[.int .i64 c.op, .int .i64 c.n, .slice A c.data.length C] 39)
  have HY := Aside.mk (heap_alloc_new w (.cells #[.int .i64 c.op, .int .i64 c.n, .slice A c.data.length C] 39))
  have HM := Aside.mk (h.below hb0)
  have HW := Aside.mk hb0
  have HT := Aside.mk ht
  have TH := Aside.mk (show (decide (0 ≤ (t : Int)) && decide ((t : Int) < ((cx.prod + cx.up.length : Nat) : Int))) = true by rw [decide_eq_true (by omega), decide_eq_true (by omega)]; rfl)
  clear hb0 h ht
  go_enter Tryd.func14, Tryd.ntmps14
  go_upto_region 1 with (fail)
  generalize w.alloc (.cells #[.int .i64 c.op, .int .i64 c.n, .slice A c.data.length C] 39) = w2 at *
  obtain ⟨y0, y1, y2⟩ := cell3 HY.out
  obtain ⟨c0, c1, c2, c3, c4, c5, c6, c7, c8, c9, c10, c11, c12, c13⟩ := HM.out.cells
  by_cases hv : c.op = 1
  · have o1 : (c.op == 1) = true := by rw [hv]; rfl
    have n1 : (c.op != 1) = false := by rw [hv]; rfl
    have o5 : (c.op == 5) = false := by rw [hv]; rfl
    have n5 : (c.op != 5) = true := by rw [hv]; rfl
    have HOP := Aside.mk hv
    clear hv
    go_wp2_with fail
    refine (l_there HM.out (t : Int)).mono ?_
    rintro r w3 ⟨rfl, hb⟩
    rw [TH.out]
    replace HM := Aside.mk (HM.out.below hb)
    replace HW := Aside.mk (HW.out.trans (hb.mono HW.out.size))
    replace HY := Aside.mk (blk_below HY.out hb)
    clear hb y0 y1 y2 c0 c1 c2 c3 c4 c5 c6 c7 c8 c9 c10 c11 c12 c13
    obtain ⟨y0, y1, y2⟩ := cell3 HY.out
    go_wp2_with fail
    refine (l_code HM.out t HT.out c A C).mono ?_
    rintro r w4 ⟨rfl, hb⟩
    replace HM := Aside.mk (HM.out.below hb)
    replace HW := Aside.mk (HW.out.trans (hb.mono HW.out.size))
    replace HY := Aside.mk (blk_below HY.out hb)
    clear hb y0 y1 y2
    obtain ⟨y0, y1, y2⟩ := cell3 HY.out
    obtain ⟨c0, c1, c2, c3, c4, c5, c6, c7, c8, c9, c10, c11, c12, c13⟩ := HM.out.cells
    by_cases hc : codeL cx st t c = 0
    rotate_left
    · have t1 : (codeL cx st t c != 0) = true := by simpa using hc
      have HV := Aside.mk (show decide (waitsL cx st t c) = false from decide_eq_false (fun h => hc h.2.1))
      clear hc
      generalize codeL cx st t c = cod at *
      go_wp2
      go_ret
      exact ⟨by rw [HV.out] <;> rfl, HW.out⟩
    have t1 : (codeL cx st t c != 0) = false := by rw [hc]; rfl
    have HV := Aside.mk (show Ending.returned (.bool (decide (cx.cap - (st.put.length : Int) + least st.gate cx.ends < szC c))) = .returned (.bool (decide (waitsL cx st t c))) from by
      congr 2
      exact decide_eq_decide.2 ⟨fun h => ⟨by have := HOP.out; omega, hc, h⟩, fun h => h.2.2⟩)
    clear hc
    generalize codeL cx st t c = cod at *
    go_wp2_with fail
    clear t1
    refine start_ (n := 21) (S := fun w' => w'.cell? ⟨w.heap.size, 0, none⟩ = some (.int .i64 c.op) ∧ w'.cell? ⟨w.heap.size, 1, none⟩ = some (.int .i64 c.n) ∧ w'.cell? ⟨w.heap.size, 2, none⟩ = some (.slice A c.data.length C) ∧ w'.cell? ⟨B, 2, none⟩ = some (.int .i64 cx.cap) ∧ w'.cell? ⟨B, 7, none⟩ = some (.int .i64 (st.put.length : Int)) ∧ w'.cell? ⟨B, 6, none⟩ = some (.slice k.E cx.ends.length k.ec) ∧ True) (ds := []) (bm 21 0) (by kernel_rfl) rfl rfl ⟨(blk_cell (blk_drew HY.out) 0).trans rfl, (blk_cell (blk_drew HY.out) 1).trans rfl, (blk_cell (blk_drew HY.out) 2).trans rfl, (HM.out.below (below_drew1 (Below.refl _ _))).cells.2.2.1, (HM.out.below (below_drew1 (Below.refl _ _))).cells.2.2.2.2.2.2.2.1, (HM.out.below (below_drew1 (Below.refl _ _))).cells.2.2.2.2.2.2.1, trivial⟩ (fun hHeld => ?_)
    replace HM := Aside.mk (HM.out.below (below_drew1 (Below.refl _ _)))
    replace HW := Aside.mk (HW.out.trans ((below_drew1 (Below.refl _ _)).mono HW.out.size))
    replace HY := Aside.mk (blk_drew HY.out)
    clear y0 y1 y2 c0 c1 c2 c3 c4 c5 c6 c7 c8 c9 c10 c11 c12 c13 o1 o5 n1 n5
    have HLB := Aside.mk (least_bd HM.out)
    have HPN := Aside.mk (show st.put.length ≤ 64000 by have := HM.out.wf.tk; have := HM.out.i; omega)
    have ew1 : IntKind.i64.wrap (cx.cap - (st.put.length : Int)) = cx.cap - st.put.length := by rw [wrapE]; exact w64 (by have := HM.out.s.c64; have := HPN.out; omega)
    have ew2 : IntKind.i64.wrap (cx.cap - (st.put.length : Int) + least st.gate cx.ends) = cx.cap - st.put.length + least st.gate cx.ends := by rw [wrapE]; exact w64 (by have := HM.out.s.c64; have := HPN.out; have := HLB.out; omega)
    have ew3 : wrap64 (cx.cap - (st.put.length : Int)) = cx.cap - st.put.length := by rw [← wrapE]; exact ew1
    have ew4 : wrap64 (cx.cap - (st.put.length : Int) + least st.gate cx.ends) = cx.cap - st.put.length + least st.gate cx.ends := by rw [← wrapE]; exact ew2
    refine ta_ 0 (bm 21 1) hHeld ?_
    refine pu_ 2 (bm 21 5) ?_
    refine pu_ 3 (bm 21 13) ?_
    refine pu_ 4 (bm 21 29) ?_
    refine pu_ 5 (bm 21 61) ?_
    refine ta_ 6 (bm 21 125) hHeld ?_
    refine pu_ 7 (bm 21 253) ?_
    refine pu_ 8 (bm 21 509) ?_
    refine pu_ 9 (bm 21 1021) ?_
    refine ta_ 10 (bm 21 2045) hHeld ?_
    refine pu_ 11 (bm 21 4093) ?_
    refine pu_ 12 (bm 21 8189) ?_
    refine pu_ 13 (bm 21 16381) ?_
    refine pu_ 14 (bm 21 32765) ?_
    refine pu_ 15 (bm 21 65533) ?_
    refine ta_ 16 (bm 21 131069) hHeld ?_
    refine one_ (i := 1) (N := some 33) (bm 21 131071) rfl rfl (by kernel_rfl) (by decide) (fun K hK => ?_)
    refine goes_ Tryd.func41 (by kernel_rfl) rfl #[.agg #[.int .i64 c.op, .int .i64 c.n, .slice A c.data.length C]] (by rfl) rfl rfl (by (try simp only [List.map_toArray, List.map_cons, List.map_nil]); first | done | rfl) ?_
    refine (l_size c _).mono ?_
    rintro q wd1 ⟨rfl, hb⟩
    refine ⟨_, rfl, ?_⟩
    replace HM := Aside.mk (HM.out.below hb)
    replace HW := Aside.mk (HW.out.trans (hb.mono HW.out.size))
    replace HY := Aside.mk (blk_below HY.out hb)
    clear hb
    refine hK.out _ _ ⟨(blk_cell HY.out 0).trans rfl, (blk_cell HY.out 1).trans rfl, (blk_cell HY.out 2).trans rfl, HM.out.cells.2.2.1, HM.out.cells.2.2.2.2.2.2.2.1, HM.out.cells.2.2.2.2.2.2.1, trivial⟩ (fun hHeld => ?_)
    clear hK K
    refine norm_ (a' := ?_) ?_ ?_
    rotate_left
    · show Act.put _ (some 33) _ = _
      simp only [Act.put, List.setIfInBounds_toArray, List.set_cons_zero, List.set_cons_succ, i64_w, i32_w]
      rfl
    refine one_ (i := 17) (N := some 49) (bm 21 262143) rfl rfl (by kernel_rfl) (by decide) (fun K hK => ?_)
    refine goes_ Tryd.func42 (by kernel_rfl) rfl #[.pointer (some ⟨B, 0, none⟩), .slice k.E cx.ends.length k.ec] (by rfl) rfl rfl (by (try simp only [List.map_toArray, List.map_cons, List.map_nil]); first | done | rfl) ?_
    refine (l_least HM.out k.E k.ec cx.ends HM.out.ends HM.out.ec.2 HM.out.s.en (by have := HM.out.s.el; omega) HM.out.s.eb).mono ?_
    rintro q wd17 ⟨rfl, hb⟩
    refine ⟨_, rfl, ?_⟩
    replace HM := Aside.mk (HM.out.below hb)
    replace HW := Aside.mk (HW.out.trans (hb.mono HW.out.size))
    replace HY := Aside.mk (blk_below HY.out hb)
    clear hb
    refine hK.out _ _ ⟨(blk_cell HY.out 0).trans rfl, (blk_cell HY.out 1).trans rfl, (blk_cell HY.out 2).trans rfl, HM.out.cells.2.2.1, HM.out.cells.2.2.2.2.2.2.2.1, HM.out.cells.2.2.2.2.2.2.1, trivial⟩ (fun hHeld => ?_)
    clear hK K
    refine norm_ (a' := ?_) ?_ ?_
    rotate_left
    · show Act.put _ (some 49) _ = _
      simp only [Act.put, List.setIfInBounds_toArray, List.set_cons_zero, List.set_cons_succ, i64_w, i32_w]
      rfl
    refine pu_ 18 (bm 21 524287) ?_
    refine pu_ 19 (bm 21 1048575) ?_
    refine pu_ 20 (bm 21 2097151) ?_
    refine done_ (by kernel_rfl) ?_
    clear hHeld
    go_wp2
    go_ret
    exact ⟨HV.out, HW.out⟩
  have h1 := hv
  clear hv
  by_cases hv : c.op = 5
  · have o1 : (c.op == 1) = false := by rw [hv]; rfl
    have n1 : (c.op != 1) = true := by rw [hv]; rfl
    have o5 : (c.op == 5) = true := by rw [hv]; rfl
    have n5 : (c.op != 5) = false := by rw [hv]; rfl
    have HOP := Aside.mk hv
    clear hv
    go_wp2_with fail
    refine (l_there HM.out (t : Int)).mono ?_
    rintro r w3 ⟨rfl, hb⟩
    rw [TH.out]
    replace HM := Aside.mk (HM.out.below hb)
    replace HW := Aside.mk (HW.out.trans (hb.mono HW.out.size))
    replace HY := Aside.mk (blk_below HY.out hb)
    clear hb y0 y1 y2 c0 c1 c2 c3 c4 c5 c6 c7 c8 c9 c10 c11 c12 c13
    obtain ⟨y0, y1, y2⟩ := cell3 HY.out
    go_wp2_with fail
    refine (l_code HM.out t HT.out c A C).mono ?_
    rintro r w4 ⟨rfl, hb⟩
    replace HM := Aside.mk (HM.out.below hb)
    replace HW := Aside.mk (HW.out.trans (hb.mono HW.out.size))
    replace HY := Aside.mk (blk_below HY.out hb)
    clear hb y0 y1 y2
    obtain ⟨y0, y1, y2⟩ := cell3 HY.out
    obtain ⟨c0, c1, c2, c3, c4, c5, c6, c7, c8, c9, c10, c11, c12, c13⟩ := HM.out.cells
    by_cases hc : codeL cx st t c = 0
    rotate_left
    · have t1 : (codeL cx st t c != 0) = true := by simpa using hc
      have HV := Aside.mk (show decide (waitsL cx st t c) = false from decide_eq_false (fun h => hc h.2.1))
      clear hc
      generalize codeL cx st t c = cod at *
      go_wp2
      go_ret
      exact ⟨by rw [HV.out] <;> rfl, HW.out⟩
    have t1 : (codeL cx st t c != 0) = false := by rw [hc]; rfl
    have HV := Aside.mk (show Ending.returned (.bool (decide (cx.cap - (st.put.length : Int) + least st.gate cx.ends < szC c))) = .returned (.bool (decide (waitsL cx st t c))) from by
      congr 2
      exact decide_eq_decide.2 ⟨fun h => ⟨by have := HOP.out; omega, hc, h⟩, fun h => h.2.2⟩)
    clear hc
    generalize codeL cx st t c = cod at *
    go_wp2_with fail
    clear t1
    refine start_ (n := 21) (S := fun w' => w'.cell? ⟨w.heap.size, 0, none⟩ = some (.int .i64 c.op) ∧ w'.cell? ⟨w.heap.size, 1, none⟩ = some (.int .i64 c.n) ∧ w'.cell? ⟨w.heap.size, 2, none⟩ = some (.slice A c.data.length C) ∧ w'.cell? ⟨B, 2, none⟩ = some (.int .i64 cx.cap) ∧ w'.cell? ⟨B, 7, none⟩ = some (.int .i64 (st.put.length : Int)) ∧ w'.cell? ⟨B, 6, none⟩ = some (.slice k.E cx.ends.length k.ec) ∧ True) (ds := []) (bm 21 0) (by kernel_rfl) rfl rfl ⟨(blk_cell (blk_drew HY.out) 0).trans rfl, (blk_cell (blk_drew HY.out) 1).trans rfl, (blk_cell (blk_drew HY.out) 2).trans rfl, (HM.out.below (below_drew1 (Below.refl _ _))).cells.2.2.1, (HM.out.below (below_drew1 (Below.refl _ _))).cells.2.2.2.2.2.2.2.1, (HM.out.below (below_drew1 (Below.refl _ _))).cells.2.2.2.2.2.2.1, trivial⟩ (fun hHeld => ?_)
    replace HM := Aside.mk (HM.out.below (below_drew1 (Below.refl _ _)))
    replace HW := Aside.mk (HW.out.trans ((below_drew1 (Below.refl _ _)).mono HW.out.size))
    replace HY := Aside.mk (blk_drew HY.out)
    clear y0 y1 y2 c0 c1 c2 c3 c4 c5 c6 c7 c8 c9 c10 c11 c12 c13 o1 o5 n1 n5
    have HLB := Aside.mk (least_bd HM.out)
    have HPN := Aside.mk (show st.put.length ≤ 64000 by have := HM.out.wf.tk; have := HM.out.i; omega)
    have ew1 : IntKind.i64.wrap (cx.cap - (st.put.length : Int)) = cx.cap - st.put.length := by rw [wrapE]; exact w64 (by have := HM.out.s.c64; have := HPN.out; omega)
    have ew2 : IntKind.i64.wrap (cx.cap - (st.put.length : Int) + least st.gate cx.ends) = cx.cap - st.put.length + least st.gate cx.ends := by rw [wrapE]; exact w64 (by have := HM.out.s.c64; have := HPN.out; have := HLB.out; omega)
    have ew3 : wrap64 (cx.cap - (st.put.length : Int)) = cx.cap - st.put.length := by rw [← wrapE]; exact ew1
    have ew4 : wrap64 (cx.cap - (st.put.length : Int) + least st.gate cx.ends) = cx.cap - st.put.length + least st.gate cx.ends := by rw [← wrapE]; exact ew2
    refine ta_ 0 (bm 21 1) hHeld ?_
    refine pu_ 2 (bm 21 5) ?_
    refine pu_ 3 (bm 21 13) ?_
    refine pu_ 4 (bm 21 29) ?_
    refine pu_ 5 (bm 21 61) ?_
    refine ta_ 6 (bm 21 125) hHeld ?_
    refine pu_ 7 (bm 21 253) ?_
    refine pu_ 8 (bm 21 509) ?_
    refine pu_ 9 (bm 21 1021) ?_
    refine ta_ 10 (bm 21 2045) hHeld ?_
    refine pu_ 11 (bm 21 4093) ?_
    refine pu_ 12 (bm 21 8189) ?_
    refine pu_ 13 (bm 21 16381) ?_
    refine pu_ 14 (bm 21 32765) ?_
    refine pu_ 15 (bm 21 65533) ?_
    refine ta_ 16 (bm 21 131069) hHeld ?_
    refine one_ (i := 1) (N := some 33) (bm 21 131071) rfl rfl (by kernel_rfl) (by decide) (fun K hK => ?_)
    refine goes_ Tryd.func41 (by kernel_rfl) rfl #[.agg #[.int .i64 c.op, .int .i64 c.n, .slice A c.data.length C]] (by rfl) rfl rfl (by (try simp only [List.map_toArray, List.map_cons, List.map_nil]); first | done | rfl) ?_
    refine (l_size c _).mono ?_
    rintro q wd1 ⟨rfl, hb⟩
    refine ⟨_, rfl, ?_⟩
    replace HM := Aside.mk (HM.out.below hb)
    replace HW := Aside.mk (HW.out.trans (hb.mono HW.out.size))
    replace HY := Aside.mk (blk_below HY.out hb)
    clear hb
    refine hK.out _ _ ⟨(blk_cell HY.out 0).trans rfl, (blk_cell HY.out 1).trans rfl, (blk_cell HY.out 2).trans rfl, HM.out.cells.2.2.1, HM.out.cells.2.2.2.2.2.2.2.1, HM.out.cells.2.2.2.2.2.2.1, trivial⟩ (fun hHeld => ?_)
    clear hK K
    refine norm_ (a' := ?_) ?_ ?_
    rotate_left
    · show Act.put _ (some 33) _ = _
      simp only [Act.put, List.setIfInBounds_toArray, List.set_cons_zero, List.set_cons_succ, i64_w, i32_w]
      rfl
    refine one_ (i := 17) (N := some 49) (bm 21 262143) rfl rfl (by kernel_rfl) (by decide) (fun K hK => ?_)
    refine goes_ Tryd.func42 (by kernel_rfl) rfl #[.pointer (some ⟨B, 0, none⟩), .slice k.E cx.ends.length k.ec] (by rfl) rfl rfl (by (try simp only [List.map_toArray, List.map_cons, List.map_nil]); first | done | rfl) ?_
    refine (l_least HM.out k.E k.ec cx.ends HM.out.ends HM.out.ec.2 HM.out.s.en (by have := HM.out.s.el; omega) HM.out.s.eb).mono ?_
    rintro q wd17 ⟨rfl, hb⟩
    refine ⟨_, rfl, ?_⟩
    replace HM := Aside.mk (HM.out.below hb)
    replace HW := Aside.mk (HW.out.trans (hb.mono HW.out.size))
    replace HY := Aside.mk (blk_below HY.out hb)
    clear hb
    refine hK.out _ _ ⟨(blk_cell HY.out 0).trans rfl, (blk_cell HY.out 1).trans rfl, (blk_cell HY.out 2).trans rfl, HM.out.cells.2.2.1, HM.out.cells.2.2.2.2.2.2.2.1, HM.out.cells.2.2.2.2.2.2.1, trivial⟩ (fun hHeld => ?_)
    clear hK K
    refine norm_ (a' := ?_) ?_ ?_
    rotate_left
    · show Act.put _ (some 49) _ = _
      simp only [Act.put, List.setIfInBounds_toArray, List.set_cons_zero, List.set_cons_succ, i64_w, i32_w]
      rfl
    refine pu_ 18 (bm 21 524287) ?_
    refine pu_ 19 (bm 21 1048575) ?_
    refine pu_ 20 (bm 21 2097151) ?_
    refine done_ (by kernel_rfl) ?_
    clear hHeld
    go_wp2
    go_ret
    exact ⟨HV.out, HW.out⟩
  have h5 := hv
  clear hv
  have o1 : (c.op == 1) = false := by simpa using h1
  have n1 : (c.op != 1) = true := by simpa using h1
  have o5 : (c.op == 5) = false := by simpa using h5
  have n5 : (c.op != 5) = true := by simpa using h5
  have HV := Aside.mk (show decide (waitsL cx st t c) = false from decide_eq_false (fun h => h.1.elim h1 h5))
  clear h1 h5
  go_wp2_with fail
  refine (l_there HM.out (t : Int)).mono ?_
  rintro r w3 ⟨rfl, hb⟩
  rw [TH.out]
  replace HM := Aside.mk (HM.out.below hb)
  replace HW := Aside.mk (HW.out.trans (hb.mono HW.out.size))
  replace HY := Aside.mk (blk_below HY.out hb)
  clear hb y0 y1 y2 c0 c1 c2 c3 c4 c5 c6 c7 c8 c9 c10 c11 c12 c13
  obtain ⟨y0, y1, y2⟩ := cell3 HY.out
  go_wp2
  go_ret
  exact ⟨by rw [HV.out] <;> rfl, HW.out⟩
theorem l_waits_no {base : Nat} {w : World} {B : Nat} {k : Lk} {cx : Cx} {lp : Lp} {st : Ls} {i : Nat} (h : Lm base w B k cx lp st i) (t : Int) (ht : ¬ (0 ≤ t ∧ t < ((cx.prod + cx.up.length : Nat) : Int))) (c : Cl) (A : Option Addr) (C : Nat) :
    Calls Tryd.prog 14 #[.pointer (some ⟨B, 0, none⟩), .int .i64 t, .agg #[.int .i64 c.op, .int .i64 c.n, .slice A c.data.length C]] w fun e w' => e = .returned (.bool false) ∧ Below w.heap.size w w' := by
  have hb0 := below_alloc (Below.refl w.heap.size w) (.cells #[.int .i64 c.op, .int .i64 c.n, .slice A c.data.length C] 39)
  have HY := Aside.mk (heap_alloc_new w (.cells #[.int .i64 c.op, .int .i64 c.n, .slice A c.data.length C] 39))
  have HM := Aside.mk (h.below hb0)
  have HW := Aside.mk hb0
  have TH := Aside.mk (show (decide (0 ≤ t) && decide (t < ((cx.prod + cx.up.length : Nat) : Int))) = false by
    by_cases h0 : 0 ≤ t
    · rw [decide_eq_true h0, decide_eq_false (fun h => ht ⟨h0, h⟩)]; rfl
    · rw [decide_eq_false h0]; rfl)
  clear hb0 h ht
  go_enter Tryd.func14, Tryd.ntmps14
  go_upto_region 1 with (fail)
  generalize w.alloc (.cells #[.int .i64 c.op, .int .i64 c.n, .slice A c.data.length C] 39) = w2 at *
  go_wp2_with fail
  refine (l_there HM.out t).mono ?_
  rintro r w3 ⟨rfl, hb⟩
  rw [TH.out]
  replace HW := Aside.mk (HW.out.trans (hb.mono HW.out.size))
  clear hb
  go_wp2
  go_ret
  exact ⟨rfl, HW.out⟩
end Go.Proofs.YtgibmlbdkijflaaDoor.So
