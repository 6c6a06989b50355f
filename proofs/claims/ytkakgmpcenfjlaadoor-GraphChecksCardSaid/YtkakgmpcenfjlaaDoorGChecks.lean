/- The walk of sakialaw09.GraphChecks: for every input the call returns true, and what was in memory stays. Asked: the library's table lies as laid. -/
import Derived.Test.YtkakgmpcenfjlaaDoorGLive
set_option linter.unusedVariables false
set_option linter.unusedSimpArgs false
set_option maxRecDepth 100000
namespace Go.Proofs.YtkakgmpcenfjlaaDoor.Graph
open Go.RowKit Go.Proofs.YtkakgmpcenfjlaaDoorW.PrintWords Go.Proofs.YtkakgmpcenfjlaaDoorW.PrintLast
theorem rdLc (up : List (List Int)) (i : Nat) (h : i < up.length) : QGc.rd_L1 up (i : Int) = up[i] := by simp [QGc.rd_L1, h]
theorem copy_loop (up : List (List Int)) (hs : QGc.Sm up) : ∀ (d k i : Nat), up.length - i = d → i ≤ up.length → d < k → QGc.graph_Copy.l0 k (up.take i) up (up.length : Int) (i : Int) = some up := by
  intro d
  induction d with
  | zero =>
    intro k i hd hi hk
    obtain ⟨k, rfl⟩ : ∃ n, k = n + 1 := ⟨k - 1, by omega⟩
    simp only [QGc.graph_Copy.l0]
    rw [if_neg (by omega), List.take_of_length_le (by omega)]
  | succ d ih =>
    intro k i hd hi hk
    obtain ⟨k, rfl⟩ : ∃ n, k = n + 1 := ⟨k - 1, by omega⟩
    have hlt : i < up.length := by omega
    have h20 := hs.1
    have hrow := hs.2 _ (List.getElem_mem hlt)
    have := ih k (i + 1) (by omega) (by omega) (by omega)
    rw [List.take_succ_eq_append_getElem hlt] at this
    simp only [QGc.graph_Copy.l0]
    rw [if_pos (by omega), if_pos (by omega), if_pos (by omega), rdLc up i hlt, w1 (by omega)]
    simp only [Option.bind_some, List.nil_append, List.length_nil]
    rw [if_pos (by omega), if_pos (by rw [List.length_take]; omega)]
    exact this
theorem copy_ {w : World} {A : Option Addr} {C : Nat} {up : List (List Int)} (h : Gv w A C up) :
    Calls Tryd.prog 28 #[.slice A up.length C] w fun e w' => ∃ A' C', e = .returned (.slice A' up.length C') ∧ Gv w' A' C' up ∧ Below w.heap.size w w' :=
  (QGc.graph_Copy.calls 100 A C up up w h.rd h.cap (copy_loop up h.sm up.length 100 0 (by omega) (by omega) (by have := h.sm.1; omega))).mono fun e w' ⟨v, he, hS, hb⟩ => by
    obtain ⟨A', C', rfl, h1, h2⟩ := Kd.S_reads hS
    exact ⟨A', C', he, ⟨h2, h1, h.sm⟩, hb⟩
set_option maxHeartbeats 8000000 in
theorem walkChecks (A : Option Addr) (C : Nat) (up : List (List Int)) (c : Int) (w : World) (hr : Kd.C (Kd.slice 3 (Kd.int .i64)) w A up.length up) (hC : up.length ≤ C) (hT : Tabled w) :
    Calls Tryd.prog 6 #[.slice A up.length C, .int .i64 c] w fun e w' => e = .returned (.bool true) ∧ Below w.heap.size w w' := by
  obtain ⟨b, hsm, hlong⟩ := long9 hr hC
  have HT := Aside.mk hT
  have HLO := Aside.mk hlong
  clear hT hlong
  cases b with
  | true =>
    go_enter Tryd.func6, Tryd.ntmps6
    go_wp2_with (go_at_call 7; refine HLO.out.mono ?_; rintro e w' ⟨rfl, hb⟩; have HB9 := Aside.mk hb; clear hb)
    go_wp2_with (go_at_call 9; refine (live9 _ (HT.out.below HB9.out)).mono ?_; rintro e W40 ⟨rfl, hb40⟩; have HB40 := Aside.mk (HB9.out.trans (hb40.mono HB9.out.size)); clear hb40)
    go_ret
    exact ⟨rfl, HB40.out⟩
  | false =>
    have HG := Aside.mk (Gv.mk hr hC (hsm rfl))
    clear hsm hr hC
    go_enter Tryd.func6, Tryd.ntmps6
    go_wp2_with fail
    refine HLO.out.mono ?_
    rintro e w0 ⟨rfl, hb0⟩
    have HB0 := Aside.mk hb0
    clear hb0
    go_wp2_with fail
    refine (copy_ (HG.out.below HB0.out)).mono ?_
    rintro e w1 ⟨A2, C2, rfl, hg2, hb1⟩
    have HB1 := Aside.mk (HB0.out.trans (hb1.mono HB0.out.size))
    have HCP0 := Aside.mk hg2
    clear hb1 hg2 HB0 HLO
    go_wp2_with fail
    go_loopw [6] (fun x wr => ∃ i : Nat, i ≤ up.length ∧ x = .int .i64 i ∧ Aside (Gv wr A2 C2 up) ∧ Aside (Below w.heap.size w wr)) (fun x _ => up.length - (intOf x).toNat)
    case atStart => exact ⟨0, Nat.zero_le _, rfl, HCP0, HB1⟩
    case round =>
      clear HCP0 HB1
      obtain ⟨i, hi, rfl, HCP, HB⟩ := hrel
      by_cases hlt : i < up.length
      · have t1 : decide ((i : Int) < (up.length : Int)) = true := decide_eq_true (by omega)
        have t2 : decide (i < up.length) = true := decide_eq_true hlt
        have t3 : (i : Int) < (up.length : Int) := by omega
        have HI := Aside.mk hlt
        obtain ⟨ad, A0, c0, rfl, hrow, hl0, hnum⟩ := row_at HG.out.rd i hlt
        obtain ⟨a1, A1, c1, rfl, hr1, hl1, hn1⟩ := row_at HCP.out.rd i hlt
        have hr0 : wr.cell? (ad.add i) = some (.slice A0 (up.getD i []).length c0) := (HB.out.cell (World.block_lt_of_cell? _ _ hrow)).trans hrow
        have HL100 := Aside.mk (show (up.getD i []).length ≤ 100 from Nat.le_trans (HG.out.sm.at i) (by decide))
        have HN := Aside.mk (Rv.mk (Kd.C_below hnum HB.out) hl0)
        have HM := Aside.mk (Rv.mk hn1 hl1)
        generalize up.getD i [] = l at *
        clear hrow hl0 hnum hl1 hn1 hi hlt
        have ew := i1 (show i < 4611686018427387904 by have := HI.out; have := HG.out.sm.1; omega)
        go_wp2_with fail
        refine start_ (n := 10) (S := fun w' => w'.cell? (a1.add i) = some (.slice A1 l.length c1) ∧ w'.cell? (ad.add i) = some (.slice A0 l.length c0)) (ds := []) #[false, false, false, false, false, false, false, false, false, false] (by kernel_rfl) rfl rfl ⟨hr1, hr0⟩ (fun hHeld => ?_)
        have HB1 := Aside.mk (HB.out.trans ((below_drew (Below.refl wr.heap.size wr)).mono HB.out.size))
        have HN1 := Aside.mk (HN.out.below (below_drew (Below.refl wr.heap.size wr)))
        have HM1 := Aside.mk (HM.out.below (below_drew (Below.refl wr.heap.size wr)))
        have HC1 := Aside.mk (HCP.out.below (below_drew (Below.refl wr.heap.size wr)))
        clear hr1 hr0
        generalize wr.drew = w2 at hHeld HB1 HN1 HM1 HC1 ⊢
        refine pure_ (i := 0) (N := some 24) (v := ?_) (a' := ?_) #[true, false, false, false, false, false, false, false, false, false] rfl rfl (by kernel_rfl) (fun _ _ _ h => h) (Or.inl ⟨by rfl, ?_⟩) ?_ ?_
        rotate_left
        · intro w'
          go_simp
          with_reducible rfl
        rotate_left
        · simp only [Act.put, List.setIfInBounds_toArray, List.set_cons_zero, List.set_cons_succ, i64_w, i32_w]
          rfl
        refine pure_ (i := 1) (N := some 25) (v := ?_) (a' := ?_) #[true, true, false, false, false, false, false, false, false, false] rfl rfl (by kernel_rfl) (fun _ _ _ h => h) (Or.inl ⟨by rfl, ?_⟩) ?_ ?_
        rotate_left
        · intro w'
          go_simp
          with_reducible rfl
        rotate_left
        · simp only [Act.put, List.setIfInBounds_toArray, List.set_cons_zero, List.set_cons_succ, i64_w, i32_w]
          rfl
        refine pure_ (i := 4) (N := some 28) (v := ?_) (a' := ?_) #[true, true, false, false, true, false, false, false, false, false] rfl rfl (by kernel_rfl) (fun _ _ _ h => h) (Or.inl ⟨by rfl, ?_⟩) ?_ ?_
        rotate_left
        · intro w'
          go_simp
          with_reducible rfl
        rotate_left
        · simp only [Act.put, List.setIfInBounds_toArray, List.set_cons_zero, List.set_cons_succ, i64_w, i32_w]
          rfl
        refine pure_ (i := 5) (N := some 29) (v := ?_) (a' := ?_) #[true, true, false, false, true, true, false, false, false, false] rfl rfl (by kernel_rfl) (fun _ _ _ h => h) (Or.inl ⟨by rfl, ?_⟩) ?_ ?_
        rotate_left
        · intro w'
          go_simp
          with_reducible rfl
        rotate_left
        · simp only [Act.put, List.setIfInBounds_toArray, List.set_cons_zero, List.set_cons_succ, i64_w, i32_w]
          rfl
        refine pure_ (i := 2) (N := some 26) (v := ?_) (a' := ?_) #[true, true, true, false, true, true, false, false, false, false] rfl rfl (by kernel_rfl) (fun _ _ _ h => h) (Or.inl ⟨by rfl, ?_⟩) ?_ ?_
        rotate_left
        · intro w'
          go_simp
          with_reducible rfl
        rotate_left
        · simp only [Act.put, List.setIfInBounds_toArray, List.set_cons_zero, List.set_cons_succ, i64_w, i32_w]
          rfl
        refine pure_ (i := 6) (N := some 30) (v := ?_) (a' := ?_) #[true, true, true, false, true, true, true, false, false, false] rfl rfl (by kernel_rfl) (fun _ _ _ h => h) (Or.inl ⟨by rfl, ?_⟩) ?_ ?_
        rotate_left
        · intro w'
          go_simp
          with_reducible rfl
        rotate_left
        · simp only [Act.put, List.setIfInBounds_toArray, List.set_cons_zero, List.set_cons_succ, i64_w, i32_w]
          rfl
        refine take_ (i := 3) (N := some 27) (v := ?_) (a' := ?_) #[true, true, true, true, true, true, true, false, false, false] rfl rfl (by kernel_rfl) (fun _ _ _ h => h) (Or.inl ⟨by rfl, ?_⟩) hHeld ?_ ?_
        rotate_left
        · rintro w' ⟨s0, s1⟩
          go_simp
          with_reducible rfl
        rotate_left
        · simp only [Act.put, List.setIfInBounds_toArray, List.set_cons_zero, List.set_cons_succ, i64_w, i32_w]
          rfl
        refine take_ (i := 7) (N := some 31) (v := ?_) (a' := ?_) #[true, true, true, true, true, true, true, true, false, false] rfl rfl (by kernel_rfl) (fun _ _ _ h => h) (Or.inl ⟨by rfl, ?_⟩) hHeld ?_ ?_
        rotate_left
        · rintro w' ⟨s0, s1⟩
          go_simp
          with_reducible rfl
        rotate_left
        · simp only [Act.put, List.setIfInBounds_toArray, List.set_cons_zero, List.set_cons_succ, i64_w, i32_w]
          rfl
        refine one_ (i := 8) (N := some 32) #[true, true, true, true, true, true, true, true, true, false] rfl rfl (by kernel_rfl) (by decide) (fun K hK => ?_)
        refine goes_ Tryd.func20 (by kernel_rfl) rfl #[.slice A1 l.length c1, .slice A0 l.length c0] (by rfl) rfl rfl (by (try simp only [List.map_toArray, List.map_cons, List.map_nil]); first | done | rfl) ?_
        with_reducible refine (same_ HM1.out HN1.out HL100.out).mono ?_
        rw [beq_self_eq_true]
        rintro e w3 ⟨rfl, hb3⟩
        refine ⟨_, rfl, ?_⟩
        have HB3 := Aside.mk (HB1.out.trans (hb3.mono HB1.out.size))
        have HC3 := Aside.mk (HC1.out.below hb3)
        refine hK.out _ _ ⟨(hb3.cell (World.block_lt_of_cell? _ _ hHeld.1)).trans hHeld.1, (hb3.cell (World.block_lt_of_cell? _ _ hHeld.2)).trans hHeld.2⟩ (fun hHeld2 => ?_)
        clear hK K
        refine norm_ (a' := ?_) ?_ ?_
        rotate_left
        · show Act.put _ (some 32) _ = _
          simp only [Act.put, List.setIfInBounds_toArray, List.set_cons_zero, List.set_cons_succ, i64_w, i32_w]
          rfl
        refine pure_ (i := 9) (N := some 33) (v := ?_) (a' := ?_) #[true, true, true, true, true, true, true, true, true, true] rfl rfl (by kernel_rfl) (fun _ _ _ h => h) (Or.inl ⟨by rfl, ?_⟩) ?_ ?_
        rotate_left
        · intro w'
          go_simp
          with_reducible rfl
        rotate_left
        · simp only [Act.put, List.setIfInBounds_toArray, List.set_cons_zero, List.set_cons_succ, i64_w, i32_w]
          rfl
        refine done_ (by kernel_rfl) ?_
        go_wp2
        go_roundw
        case rel => exact ⟨i + 1, HI.out, by first | rfl | simp, HC3, HB3⟩
        case measure =>
          have := HI.out
          have e9 : ((i : Int) + 1).toNat = i + 1 := by omega
          simp only [intOf, e9, Int.toNat_natCast]
          omega
      · have t1 : decide ((i : Int) < (up.length : Int)) = false := decide_eq_false (by omega)
        have t2 : decide (i < up.length) = false := decide_eq_false hlt
        obtain rfl : i = up.length := by omega
        clear hlt hi
        go_wp2_with fail
        refine (check_ wr A C up (HG.out.below HB.out).rd HG.out.cap).mono ?_
        rintro e w5 ⟨rfl, hb5⟩
        have HB5 := Aside.mk (HB.out.trans (hb5.mono HB.out.size))
        clear hb5 HB HCP
        go_wp2_with fail
        refine (check8 (HG.out.below HB5.out)).mono ?_
        rintro e w6 ⟨rfl, hb6⟩
        have HB9 := Aside.mk (HB5.out.trans (hb6.mono HB5.out.size))
        clear hb6 HB5
        by_cases h0 : checkG up = 0
        · have hz : (checkG up == 0) = true := by simpa using h0
          clear h0
          go_wp2_with (go_at_call 9; refine (live9 _ (HT.out.below HB9.out)).mono ?_; rintro e W40 ⟨rfl, hb40⟩; have HB40 := Aside.mk (HB9.out.trans (hb40.mono HB9.out.size)); clear hb40)
          go_ret
          exact ⟨rfl, HB40.out⟩
        · have hz : (checkG up == 0) = false := by simpa using h0
          have H0 := Aside.mk h0
          clear h0
          go_wp2_with fail
          refine (roots_bad (HG.out.below HB9.out) H0.out).mono ?_
          rintro e W20 ⟨rfl, hb20⟩
          have HB20 := Aside.mk (HB9.out.trans (hb20.mono HB9.out.size))
          clear hb20
          go_wp2_with fail
          refine (ends_bad (HG.out.below HB20.out) H0.out).mono ?_
          rintro e W21 ⟨rfl, hb21⟩
          have HB21 := Aside.mk (HB20.out.trans (hb21.mono HB20.out.size))
          clear hb21
          go_wp2_with fail
          refine (order_bad (HG.out.below HB21.out) H0.out).mono ?_
          rintro e W22 ⟨rfl, hb22⟩
          have HB22 := Aside.mk (HB21.out.trans (hb22.mono HB21.out.size))
          clear hb22
          go_wp2_with fail
          refine (depth_bad (HG.out.below HB22.out) c (.inl H0.out)).mono ?_
          rintro e W23 ⟨rfl, hb23⟩
          have HB23 := Aside.mk (HB22.out.trans (hb23.mono HB22.out.size))
          clear hb23
          go_wp2_with fail
          refine (above_bad (HG.out.below HB23.out) c (.inl H0.out)).mono ?_
          rintro e W24 ⟨rfl, hb24⟩
          have HB24 := Aside.mk (HB23.out.trans (hb24.mono HB23.out.size))
          clear hb24
          go_wp2_with fail
          refine (below_bad (HG.out.below HB24.out) c (.inl H0.out)).mono ?_
          rintro e W25 ⟨rfl, hb25⟩
          have HB25 := Aside.mk (HB24.out.trans (hb25.mono HB24.out.size))
          clear hb25
          go_wp2_with (go_at_call 9; refine (live9 _ (HT.out.below HB25.out)).mono ?_; rintro e W40 ⟨rfl, hb40⟩; have HB40 := Aside.mk (HB25.out.trans (hb40.mono HB25.out.size)); clear hb40)
          go_ret
          exact ⟨rfl, HB40.out⟩
end Go.Proofs.YtkakgmpcenfjlaaDoor.Graph
