/- The walk of sakialaw09.GraphTells: for every input the call returns true, and what was in memory stays. Asked: the library's table lies as laid. -/
import Derived.Test.YtkakgmpcenfjlaaDoorGTellO
set_option linter.unusedVariables false
set_option linter.unusedSimpArgs false
set_option maxRecDepth 100000
namespace Go.Proofs.YtkakgmpcenfjlaaDoor.Graph
open Go.RowKit Go.Proofs.YtkakgmpcenfjlaaDoorW.PrintWords Go.Proofs.YtkakgmpcenfjlaaDoorW.PrintLast
theorem same_eq {w : World} {A B : Option Addr} {c d : Nat} {l : List Int} (hl : Rv w A c l) (hm : Rv w B d l) (hb : l.length ≤ 100) :
    Calls Tryd.prog 20 #[.slice A l.length c, .slice B l.length d] w fun e w' => e = .returned (.bool true) ∧ Below w.heap.size w w' := by
  have := same_ hl hm hb
  rwa [beq_self_eq_true] at this
theorem above_mem {up : List (List Int)} (h : Fine up) (c : Nat) : memI (aboveN up c) = pick (fun i => reachB up c i) up.length := by
  rw [memI_pick, pick_congr (q := fun i => reachB up c i) (fun x hx => by rw [aboveN_bit, decide_eq_true hx, Bool.true_and])]
  exact pick_six h.n6 (fun x h1 _ => by
    cases hr : reachB up c x with
    | false => rfl
    | true => have := (reach_lt h.good ((reachB_iff h.good).1 hr)).2; omega)
theorem below_mem {up : List (List Int)} (h : Fine up) (c : Nat) : memI (belowN up c) = pick (fun i => reachB up i c) up.length := by
  rw [memI_pick, pick_congr (q := fun i => decide (i < up.length) && reachB up i c) (fun x hx => mask_bit _ _ _), pick_six h.n6 (fun x h1 _ => by rw [decide_eq_false (by omega)]; rfl)]
  exact pick_congr (fun x hx => by rw [decide_eq_true hx]; rfl)
set_option maxHeartbeats 8000000 in
theorem walkTells (A : Option Addr) (C : Nat) (up : List (List Int)) (c : Int) (w : World) (hr : Kd.C (Kd.slice 3 (Kd.int .i64)) w A up.length up) (hC : up.length ≤ C) (hT : Tabled w) :
    Calls Tryd.prog 5 #[.slice A up.length C, .int .i64 c] w fun e w' => e = .returned (.bool true) ∧ Below w.heap.size w w' := by
  obtain ⟨b, hsm, hlong⟩ := long9 hr hC
  have HT := Aside.mk hT
  have HLO := Aside.mk hlong
  clear hT hlong
  cases b with
  | true =>
    go_enter Tryd.func5, Tryd.ntmps5
    go_wp2_with (go_at_call 7; refine HLO.out.mono ?_; rintro e w' ⟨rfl, hb⟩; have HB9 := Aside.mk hb; clear hb)
    go_wp2_with (go_at_call 9; refine (live9 _ (HT.out.below HB9.out)).mono ?_; rintro e W40 ⟨rfl, hb40⟩; have HB40 := Aside.mk (HB9.out.trans (hb40.mono HB9.out.size)); clear hb40)
    go_ret
    exact ⟨rfl, HB40.out⟩
  | false =>
    have HG := Aside.mk (Gv.mk hr hC (hsm rfl))
    clear hsm hr hC
    by_cases h0 : checkG up = 0
    rotate_left
    · have hz : (checkG up != 0) = true := by simpa using h0
      clear h0
      go_enter Tryd.func5, Tryd.ntmps5
      go_wp2_with fail
      refine HLO.out.mono ?_
      rintro e w0 ⟨rfl, hb0⟩
      have HB0 := Aside.mk hb0
      clear hb0
      go_wp2_with fail
      refine (check_ _ A C up (HG.out.below HB0.out).rd (HG.out.below HB0.out).cap).mono ?_
      rintro e w1 ⟨rfl, hb⟩
      have HB1 := Aside.mk (HB0.out.trans (hb.mono HB0.out.size))
      clear hb
      go_wp2_with (go_at_call 9; refine (live9 _ (HT.out.below HB1.out)).mono ?_; rintro e W40 ⟨rfl, hb40⟩; have HB40 := Aside.mk (HB1.out.trans (hb40.mono HB1.out.size)); clear hb40)
      go_ret
      exact ⟨rfl, HB40.out⟩
    · have hz : (checkG up != 0) = false := by simpa using h0
      have H0 := Aside.mk h0
      have HF := Aside.mk (fine_of h0)
      clear h0
      go_enter Tryd.func5, Tryd.ntmps5
      go_wp2_with fail
      refine HLO.out.mono ?_
      rintro e w0 ⟨rfl, hb0⟩
      have HB0 := Aside.mk hb0
      clear hb0
      go_wp2_with fail
      refine (check_ _ A C up (HG.out.below HB0.out).rd (HG.out.below HB0.out).cap).mono ?_
      rintro e w1 ⟨rfl, hb⟩
      have HB1 := Aside.mk (HB0.out.trans (hb.mono HB0.out.size))
      clear hb
      go_wp2_with fail
      clear hz HLO HB0
      have HRL := Aside.mk (show (rootsI up).length ≤ 100 from Nat.le_trans (pick_len _ _) (by have := HF.out.n6; omega))
      have HEL := Aside.mk (show (endsI up).length ≤ 100 from Nat.le_trans (pick_len _ _) (by have := HF.out.n6; omega))
      have HOL := Aside.mk (show (ordI up 6).length ≤ 100 from Nat.le_trans (ordI_len up 6) (by have := HF.out.n6; omega))
      refine (roots_ok (HG.out.below HB1.out) H0.out).mono ?_
      rintro e W2 ⟨A2, c2, rfl, h1, h2, hb⟩
      have HB2 := Aside.mk (HB1.out.trans (hb.mono HB1.out.size))
      have HL2 := Aside.mk (Rv.mk h2 h1)
      clear hb h1 h2 HB1
      go_wp2_with fail
      refine (ref_roots (HG.out.below HB2.out) HF.out).mono ?_
      rintro e W3 ⟨A3, c3, rfl, h3, hb⟩
      have HB3 := Aside.mk (HB2.out.trans (hb.mono HB2.out.size))
      have HL3 := Aside.mk (HL2.out.below hb)
      have HM3 := Aside.mk h3
      clear hb h3 HB2 HL2
      go_wp2_with fail
      refine (same_eq HL3.out HM3.out HRL.out).mono ?_
      rintro e W4 ⟨rfl, hb⟩
      have HB4 := Aside.mk (HB3.out.trans (hb.mono HB3.out.size))
      clear hb HB3 HL3 HM3
      go_wp2_with fail
      refine (ends_ok (HG.out.below HB4.out) H0.out (HT.out.below HB4.out)).mono ?_
      rintro e W5 ⟨A5, c5, rfl, h1, h2, hb⟩
      have HB5 := Aside.mk (HB4.out.trans (hb.mono HB4.out.size))
      have HL5 := Aside.mk (Rv.mk h2 h1)
      clear hb h1 h2 HB4
      go_wp2_with fail
      refine (ref_ends (HG.out.below HB5.out) HF.out).mono ?_
      rintro e W6 ⟨A6, c6, rfl, h3, hb⟩
      have HB6 := Aside.mk (HB5.out.trans (hb.mono HB5.out.size))
      have HL6 := Aside.mk (HL5.out.below hb)
      have HM6 := Aside.mk h3
      clear hb h3 HB5 HL5
      go_wp2_with fail
      refine (same_eq HL6.out HM6.out HEL.out).mono ?_
      rintro e W7 ⟨rfl, hb⟩
      have HB7 := Aside.mk (HB6.out.trans (hb.mono HB6.out.size))
      clear hb HB6 HL6 HM6
      go_wp2_with fail
      refine (order_ok (HG.out.below HB7.out) H0.out (HT.out.below HB7.out)).mono ?_
      rintro e W8 ⟨A8, c8, L, rfl, hL, h2, hb⟩
      rw [order_eq HF.out hL] at h2 ⊢
      have HB8 := Aside.mk (HB7.out.trans (hb.mono HB7.out.size))
      have HL8 := Aside.mk h2
      clear hb h2 hL HB7
      go_wp2_with fail
      refine (ref_order (HG.out.below HB8.out) HF.out).mono ?_
      rintro e W9 ⟨A9, c9, rfl, h3, hb⟩
      have HB9 := Aside.mk (HB8.out.trans (hb.mono HB8.out.size))
      have HL9 := Aside.mk (HL8.out.below hb)
      have HM9 := Aside.mk h3
      clear hb h3 HB8 HL8
      go_wp2_with fail
      refine (same_eq HL9.out HM9.out HOL.out).mono ?_
      rintro e W10 ⟨rfl, hb⟩
      have HB := Aside.mk (HB9.out.trans (hb.mono HB9.out.size))
      clear hb HB9 HL9 HM9
      generalize rootsI up = rs at *
      generalize endsI up = es at *
      generalize ordI up 6 = os at *
      by_cases hin : 0 ≤ c ∧ c < (up.length : Int)
      · obtain ⟨hc0, hc1⟩ := hin
        obtain ⟨k, rfl⟩ : ∃ k : Nat, c = (k : Int) := ⟨c.toNat, by omega⟩
        have t1 : decide ((k : Int) < 0) = false := decide_eq_false (by omega)
        have t2 : decide ((up.length : Int) ≤ (k : Int)) = false := decide_eq_false (by omega)
        have t3 : decide (up.length ≤ k) = false := decide_eq_false (by omega)
        have HK := Aside.mk (show k < up.length by omega)
        have HAL := Aside.mk (show (pick (fun i => reachB up k i) up.length).length ≤ 100 from Nat.le_trans (pick_len _ _) (by have := HF.out.n6; omega))
        have HBL := Aside.mk (show (pick (fun i => reachB up i k) up.length).length ≤ 100 from Nat.le_trans (pick_len _ _) (by have := HF.out.n6; omega))
        clear hc0 hc1
        go_wp2_with fail
        refine (above_ok (HG.out.below HB.out) k H0.out HK.out).mono ?_
        rintro e W11 ⟨rfl, hb⟩
        have HB11 := Aside.mk (HB.out.trans (hb.mono HB.out.size))
        clear hb HB
        go_wp2_with fail
        refine (list_calls (aboveN up k) (aboveN_lt up k) _ (HT.out.below HB11.out)).mono ?_
        rw [above_mem HF.out]
        rintro e W12 ⟨A12, c12, rfl, h1, h2, hb⟩
        have HB12 := Aside.mk (HB11.out.trans (hb.mono HB11.out.size))
        have HL12 := Aside.mk (Rv.mk h2 h1)
        clear hb h1 h2 HB11
        go_wp2_with fail
        refine (ref_above (HG.out.below HB12.out) HF.out k HK.out).mono ?_
        rintro e W13 ⟨A13, c13, rfl, h3, hb⟩
        have HB13 := Aside.mk (HB12.out.trans (hb.mono HB12.out.size))
        have HL13 := Aside.mk (HL12.out.below hb)
        have HM13 := Aside.mk h3
        clear hb h3 HB12 HL12
        go_wp2_with fail
        refine (same_eq HL13.out HM13.out HAL.out).mono ?_
        rintro e W14 ⟨rfl, hb⟩
        have HB14 := Aside.mk (HB13.out.trans (hb.mono HB13.out.size))
        clear hb HB13 HL13 HM13
        go_wp2_with fail
        refine (below_ok (HG.out.below HB14.out) k H0.out HK.out).mono ?_
        rintro e W15 ⟨rfl, hb⟩
        have HB15 := Aside.mk (HB14.out.trans (hb.mono HB14.out.size))
        clear hb HB14
        go_wp2_with fail
        refine (list_calls (belowN up k) (mask64 _ HF.out.n6) _ (HT.out.below HB15.out)).mono ?_
        rw [below_mem HF.out]
        rintro e W16 ⟨A16, c16, rfl, h1, h2, hb⟩
        have HB16 := Aside.mk (HB15.out.trans (hb.mono HB15.out.size))
        have HL16 := Aside.mk (Rv.mk h2 h1)
        clear hb h1 h2 HB15
        go_wp2_with fail
        refine (ref_below (HG.out.below HB16.out) HF.out k HK.out).mono ?_
        rintro e W17 ⟨A17, c17, rfl, h3, hb⟩
        have HB17 := Aside.mk (HB16.out.trans (hb.mono HB16.out.size))
        have HL17 := Aside.mk (HL16.out.below hb)
        have HM17 := Aside.mk h3
        clear hb h3 HB16 HL16
        go_wp2_with fail
        refine (same_eq HL17.out HM17.out HBL.out).mono ?_
        rintro e W18 ⟨rfl, hb⟩
        have HB18 := Aside.mk (HB17.out.trans (hb.mono HB17.out.size))
        clear hb HB17 HL17 HM17
        go_wp2_with fail
        refine (depth_ok (HG.out.below HB18.out) k H0.out HK.out).mono ?_
        rintro e W19 ⟨rfl, hb⟩
        have HB19 := Aside.mk (HB18.out.trans (hb.mono HB18.out.size))
        clear hb HB18
        go_wp2_with fail
        refine (ref_depth (HG.out.below HB19.out) HF.out k HK.out).mono ?_
        rintro e W20 ⟨rfl, hb⟩
        have HB20 := Aside.mk (HB19.out.trans (hb.mono HB19.out.size))
        clear hb HB19
        have t4 : (((depth up k : Nat) : Int) == ((depth up k : Nat) : Int)) = true := beq_self_eq_true _
        go_wp2_with (go_at_call 9; refine (live9 _ (HT.out.below HB20.out)).mono ?_; rintro e W40 ⟨rfl, hb40⟩; have HB40 := Aside.mk (HB20.out.trans (hb40.mono HB20.out.size)); clear hb40)
        go_ret
        exact ⟨rfl, HB40.out⟩
      · have HOUT := Aside.mk (show c < 0 ∨ (up.length : Int) ≤ c by omega)
        have key : decide (c < 0) = true ∨ (decide (c < 0) = false ∧ decide ((up.length : Int) ≤ c) = true) := by
          by_cases h : c < 0
          · exact .inl (decide_eq_true h)
          · exact .inr ⟨decide_eq_false h, decide_eq_true (by omega)⟩
        clear hin
        rcases key with t1 | ⟨t1, t2⟩
        all_goals (
          go_wp2_with fail
          refine (above_bad (HG.out.below HB.out) c (.inr HOUT.out)).mono ?_
          rintro e W11 ⟨rfl, hb⟩
          have HB11 := Aside.mk (HB.out.trans (hb.mono HB.out.size))
          clear hb
          go_wp2_with fail
          refine (below_bad (HG.out.below HB11.out) c (.inr HOUT.out)).mono ?_
          rintro e W12 ⟨rfl, hb⟩
          have HB12 := Aside.mk (HB11.out.trans (hb.mono HB11.out.size))
          clear hb
          go_wp2_with fail
          refine (depth_bad (HG.out.below HB12.out) c (.inr HOUT.out)).mono ?_
          rintro e W13 ⟨rfl, hb⟩
          have HB13 := Aside.mk (HB12.out.trans (hb.mono HB12.out.size))
          clear hb
          go_wp2_with (go_at_call 9; refine (live9 _ (HT.out.below HB13.out)).mono ?_; rintro e W40 ⟨rfl, hb40⟩; have HB40 := Aside.mk (HB13.out.trans (hb40.mono HB13.out.size)); clear hb40)
          go_ret
          exact ⟨rfl, HB40.out⟩)
end Go.Proofs.YtkakgmpcenfjlaaDoor.Graph
