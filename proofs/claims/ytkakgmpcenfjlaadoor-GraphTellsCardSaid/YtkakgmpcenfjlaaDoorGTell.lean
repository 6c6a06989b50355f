/- sakiaref09's functions of lists that may be, walked: the same lists as package graph's. -/
import Derived.Test.YtkakgmpcenfjlaaDoorGOrder
import Derived.StillTailTactics
set_option linter.unusedVariables false
set_option linter.unusedSimpArgs false
set_option maxRecDepth 100000
namespace Go.Proofs.YtkakgmpcenfjlaaDoor.Graph
open Go.RowKit Go.Proofs.YtkakgmpcenfjlaaDoorW.PrintWords Go.Proofs.YtkakgmpcenfjlaaDoorW.PrintLast
set_option maxHeartbeats 4000000 in
theorem ref_roots {w : World} {A : Option Addr} {C : Nat} {up : List (List Int)} (h : Gv w A C up) (hf : Fine up) :
    Calls Tryd.prog 21 #[.slice A up.length C] w fun e w' => ∃ A' c', e = .returned (.slice A' (rootsI up).length c') ∧ Rv w' A' c' (rootsI up) ∧ Below w.heap.size w w' := by
  have HF := Aside.mk hf
  have HG := Aside.mk h
  have HB0 := Aside.mk (Below.refl w.heap.size w)
  clear hf h
  go_enter Tryd.func21, Tryd.ntmps21
  go_wp2_with fail
  go_loopw [3, 4] (fun v x wr => ∃ i : Nat, i ≤ up.length ∧ x = .int .i64 i ∧ Aside (Kd.R (Kd.int .i64) 3 wr w.heap.size (fun _ => True) v (pick (fun c => (up.getD c []).isEmpty) i)) ∧ Aside (Below w.heap.size w wr)) (fun _ x _ => up.length - (intOf x).toNat)
  case atStart => exact ⟨0, Nat.zero_le _, rfl, ⟨Kd.R_nil _ _ _ _ _⟩, HB0⟩
  case round =>
    obtain ⟨i, hi, rfl, HO, HB⟩ := hrel
    by_cases hlt : i < up.length
    · have t1 : decide ((i : Int) < (up.length : Int)) = true := decide_eq_true (by omega)
      have t2 : decide (i < up.length) = true := decide_eq_true hlt
      have t3 : (i : Int) < (up.length : Int) := by omega
      have HI := Aside.mk hlt
      obtain ⟨ad, A0, c0, rfl, hrow, hl0, hnum⟩ := row_at HG.out.rd i hlt
      have hroww : wr.cell? (ad.add i) = some (.slice A0 (up.getD i []).length c0) := (HB.out.cell (World.block_lt_of_cell? _ _ hrow)).trans hrow
      obtain ⟨l, hL⟩ : ∃ l, up.getD i [] = l := ⟨_, rfl⟩
      rw [hL] at hroww
      have HLe := Aside.mk hL
      clear hrow hl0 hnum hL hi
      have ew := i1 (show i < 4611686018427387904 by have := HF.out.n6; omega)
      by_cases he : l.length = 0
      · have t4 : ((l.length : Int) == 0) = true := by simpa using he
        have hp : (fun c => (up.getD c []).isEmpty) i = true := by simp only [HLe.out]; rw [List.isEmpty_iff]; exact List.eq_nil_of_length_eq_zero he
        have HP := Aside.mk hp
        clear he hp hlt
        go_wp2_with ((with_reducible refine gate_builtin (b := .append) (xs := #[.tmp 17, .tmp 19]) rfl ?_); at_builtin; refine Kd.R_append (Kd.int .i64) (w0 := w) w.heap.size rfl (.tmp 17) (.tmp 19) 27 3 (.int .i64 0) 8 rfl Tryd.underlying27 info3 rfl (by decide) (by omega) u3 (pick (fun c => (up.getD c []).isEmpty) i) (i : Int) [.int .i64 (i : Int)] (fun _ => True) (fun _ => False) rfl rfl ?aP (fun _ hk => hk.elim) ?aF ?aO ?aB ?aS ?aL ?_; (case aP => exact rfl); (case aB => exact HB.out); (case aF => exact (fun _ _ => trivial)); (case aO => exact HO.out); (case aS => exact HB.out.size); (case aL => have := HI.out; have := HF.out.n6; have := pick_len (fun c => (up.getD c []).isEmpty) i; omega); intro vN wN hoN hbN hgN hatN; have HON := Aside.mk hoN; have HBN := Aside.mk hbN; have HGN := Aside.mk hgN; clear hoN hbN hgN hatN)
        go_roundw
        case rel => exact ⟨i + 1, HI.out, by first | rfl | simp, ⟨by rw [pick_succ, if_pos HP.out]; exact HON.out⟩, HBN⟩
        case measure => have := HI.out; have e9 : ((i : Int) + 1).toNat = i + 1 := (by omega); simp only [intOf, e9, Int.toNat_natCast]; omega
      · have t4 : ((l.length : Int) == 0) = false := by simpa using he
        have hp : ¬ (fun c => (up.getD c []).isEmpty) i = true := by simp only [HLe.out]; rw [List.isEmpty_iff]; intro e; rw [e] at he; exact he rfl
        have HP := Aside.mk hp
        clear he hp hlt
        go_wp2
        go_roundw
        case rel => exact ⟨i + 1, HI.out, by first | rfl | simp, ⟨by rw [pick_succ, if_neg HP.out, List.append_nil]; exact HO.out⟩, HB⟩
        case measure => have := HI.out; have e9 : ((i : Int) + 1).toNat = i + 1 := (by omega); simp only [intOf, e9, Int.toNat_natCast]; omega
    · have t1 : decide ((i : Int) < (up.length : Int)) = false := decide_eq_false (by omega)
      have t2 : decide (i < up.length) = false := decide_eq_false hlt
      obtain rfl : i = up.length := by omega
      clear hlt hi
      go_wp2
      go_ret
      obtain ⟨A', c', rfl, h1, h2⟩ := Kd.R_reads HO.out
      exact ⟨A', c', rfl, ⟨h2, h1⟩, HB.out⟩
set_option maxHeartbeats 4000000 in
theorem ref_above {w : World} {A : Option Addr} {C : Nat} {up : List (List Int)} (h : Gv w A C up) (hf : Fine up) (c : Nat) (hc : c < up.length) :
    Calls Tryd.prog 25 #[.slice A up.length C, .int .i64 c] w fun e w' => ∃ A' c', e = .returned (.slice A' (pick (fun i => reachB up c i) up.length).length c') ∧ Rv w' A' c' (pick (fun i => reachB up c i) up.length) ∧ Below w.heap.size w w' := by
  have HF := Aside.mk hf
  have HOF := Aside.mk (of_ w A C up hf.good h.rd)
  have HC6 := Aside.mk (show c < 6 by have := hf.n6; omega)
  have hc6 : (c : Int) < 6 := by have := hf.n6; omega
  clear hf h hc
  go_enter Tryd.func25, Tryd.ntmps25
  go_wp2_with fail
  refine HOF.out.mono ?_
  rintro e w2 ⟨rfl, hb2⟩
  have HB2 := Aside.mk hb2
  clear hb2
  go_wp2_with (first | (with_reducible refine alloc_T rfl rfl ?_) | (with_reducible refine store_T rfl _ _ rfl rfl rfl ?_))
  have HX := Aside.mk (heap_alloc_last w2 (.cells (arr (reachB up)) 49))
  have HB3 := Aside.mk (HB2.out.trans (((Below.refl w2.heap.size w2).alloc (Nat.le_refl _) (.cells (arr (reachB up)) 49)).mono HB2.out.size))
  clear HB2 HOF
  generalize w2.alloc (.cells (arr (reachB up)) 49) = w3 at *
  generalize w2.heap.size = g at *
  go_loopw [6, 7] (fun v x wr => ∃ i : Nat, i ≤ up.length ∧ x = .int .i64 i ∧ Aside (Kd.R (Kd.int .i64) 3 wr w.heap.size (fun _ => True) v (pick (fun i => reachB up c i) i)) ∧ Aside (Below w.heap.size w wr) ∧ Aside (wr.heap[g]? = some (.cells (arr (reachB up)) 49 (0, 0)))) (fun _ x _ => up.length - (intOf x).toNat)
  case atStart => exact ⟨0, Nat.zero_le _, rfl, ⟨Kd.R_nil _ _ _ _ _⟩, HB3, HX⟩
  case round =>
    clear HB3 HX
    obtain ⟨i, hi, rfl, HO, HB, HX⟩ := hrel
    by_cases hlt : i < up.length
    · have t1 : decide ((i : Int) < (up.length : Int)) = true := decide_eq_true (by omega)
      have t2 : decide (i < up.length) = true := decide_eq_true hlt
      have hi6 : (i : Int) < 6 := by have := HF.out.n6; omega
      have HI := Aside.mk hlt
      have hcell : wr.cell? ⟨g, c * 6 + i, none⟩ = some (.bool (reachB up c i)) := by rw [cell_of_row wr g _ _ _ _ HX.out, arr_at _ c i (by have := HC6.out; omega) (by have := HC6.out; omega)]
      have ew := i1 (show i < 4611686018427387904 by have := HF.out.n6; omega)
      have HP := Aside.mk (show pick (fun i => reachB up c i) (i + 1) = pick (fun i => reachB up c i) i ++ (if reachB up c i = true then [(i : Int)] else []) from pick_succ _ _)
      clear hi hlt
      cases hb : reachB up c i with
      | true =>
        rw [hb, if_pos rfl] at HP
        rw [hb] at hcell
        clear hb
        go_wp2_with ((with_reducible refine gate_builtin (b := .append) (xs := #[.tmp 21, .tmp 23]) rfl ?_); at_builtin; refine Kd.R_append (Kd.int .i64) (w0 := w) w.heap.size rfl (.tmp 21) (.tmp 23) 27 3 (.int .i64 0) 8 rfl Tryd.underlying27 info3 rfl (by decide) (by omega) u6 (pick (fun i => reachB up c i) i) (i : Int) [.int .i64 (i : Int)] (fun _ => True) (fun _ => False) rfl rfl ?aP (fun _ hk => hk.elim) ?aF ?aO ?aB ?aS ?aL ?_; (case aP => exact rfl); (case aB => exact HB.out); (case aF => exact (fun _ _ => trivial)); (case aO => exact HO.out); (case aS => exact HB.out.size); (case aL => have := HI.out; have := HF.out.n6; have := pick_len (fun i => reachB up c i) i; omega); intro vN wN hoN hbN hgN hatN; have HON := Aside.mk hoN; have HBN := Aside.mk hbN; have HGN := Aside.mk hgN; clear hoN hbN hgN hatN)
        go_roundw
        case rel => exact ⟨i + 1, HI.out, by first | rfl | simp, ⟨by rw [HP.out]; exact HON.out⟩, HBN, ⟨blk_grown HX.out HGN.out (Kd.R_ne HO.out HX.out (by decide))⟩⟩
        case measure => have := HI.out; have e9 : ((i : Int) + 1).toNat = i + 1 := (by omega); simp only [intOf, e9, Int.toNat_natCast]; omega
      | false =>
        rw [hb, if_neg (by decide), List.append_nil] at HP
        rw [hb] at hcell
        clear hb
        go_wp2
        go_roundw
        case rel => exact ⟨i + 1, HI.out, by first | rfl | simp, ⟨by rw [HP.out]; exact HO.out⟩, HB, HX⟩
        case measure => have := HI.out; have e9 : ((i : Int) + 1).toNat = i + 1 := (by omega); simp only [intOf, e9, Int.toNat_natCast]; omega
    · have t1 : decide ((i : Int) < (up.length : Int)) = false := decide_eq_false (by omega)
      have t2 : decide (i < up.length) = false := decide_eq_false hlt
      obtain rfl : i = up.length := by omega
      clear hlt hi
      go_wp2
      go_ret
      obtain ⟨A', c', rfl, h1, h2⟩ := Kd.R_reads HO.out
      exact ⟨A', c', rfl, ⟨h2, h1⟩, HB.out⟩
set_option maxHeartbeats 4000000 in
theorem ref_below {w : World} {A : Option Addr} {C : Nat} {up : List (List Int)} (h : Gv w A C up) (hf : Fine up) (c : Nat) (hc : c < up.length) :
    Calls Tryd.prog 26 #[.slice A up.length C, .int .i64 c] w fun e w' => ∃ A' c', e = .returned (.slice A' (pick (fun i => reachB up i c) up.length).length c') ∧ Rv w' A' c' (pick (fun i => reachB up i c) up.length) ∧ Below w.heap.size w w' := by
  have HF := Aside.mk hf
  have HOF := Aside.mk (of_ w A C up hf.good h.rd)
  have HC6 := Aside.mk (show c < 6 by have := hf.n6; omega)
  have hc6 : (c : Int) < 6 := by have := hf.n6; omega
  clear hf h hc
  go_enter Tryd.func26, Tryd.ntmps26
  go_wp2_with fail
  refine HOF.out.mono ?_
  rintro e w2 ⟨rfl, hb2⟩
  have HB2 := Aside.mk hb2
  clear hb2
  go_wp2_with (first | (with_reducible refine alloc_T rfl rfl ?_) | (with_reducible refine store_T rfl _ _ rfl rfl rfl ?_))
  have HX := Aside.mk (heap_alloc_last w2 (.cells (arr (reachB up)) 49))
  have HB3 := Aside.mk (HB2.out.trans (((Below.refl w2.heap.size w2).alloc (Nat.le_refl _) (.cells (arr (reachB up)) 49)).mono HB2.out.size))
  clear HB2 HOF
  generalize w2.alloc (.cells (arr (reachB up)) 49) = w3 at *
  generalize w2.heap.size = g at *
  go_loopw [6, 7] (fun v x wr => ∃ i : Nat, i ≤ up.length ∧ x = .int .i64 i ∧ Aside (Kd.R (Kd.int .i64) 3 wr w.heap.size (fun _ => True) v (pick (fun i => reachB up i c) i)) ∧ Aside (Below w.heap.size w wr) ∧ Aside (wr.heap[g]? = some (.cells (arr (reachB up)) 49 (0, 0)))) (fun _ x _ => up.length - (intOf x).toNat)
  case atStart => exact ⟨0, Nat.zero_le _, rfl, ⟨Kd.R_nil _ _ _ _ _⟩, HB3, HX⟩
  case round =>
    clear HB3 HX
    obtain ⟨i, hi, rfl, HO, HB, HX⟩ := hrel
    by_cases hlt : i < up.length
    · have t1 : decide ((i : Int) < (up.length : Int)) = true := decide_eq_true (by omega)
      have t2 : decide (i < up.length) = true := decide_eq_true hlt
      have hi6 : (i : Int) < 6 := by have := HF.out.n6; omega
      have HI := Aside.mk hlt
      have hcell : wr.cell? ⟨g, i * 6 + c, none⟩ = some (.bool (reachB up i c)) := by rw [cell_of_row wr g _ _ _ _ HX.out, arr_at _ i c (by have := HC6.out; omega) (by have := HC6.out; omega)]
      have ew := i1 (show i < 4611686018427387904 by have := HF.out.n6; omega)
      have HP := Aside.mk (show pick (fun i => reachB up i c) (i + 1) = pick (fun i => reachB up i c) i ++ (if reachB up i c = true then [(i : Int)] else []) from pick_succ _ _)
      clear hi hlt
      cases hb : reachB up i c with
      | true =>
        rw [hb, if_pos rfl] at HP
        rw [hb] at hcell
        clear hb
        go_wp2_with ((with_reducible refine gate_builtin (b := .append) (xs := #[.tmp 21, .tmp 23]) rfl ?_); at_builtin; refine Kd.R_append (Kd.int .i64) (w0 := w) w.heap.size rfl (.tmp 21) (.tmp 23) 27 3 (.int .i64 0) 8 rfl Tryd.underlying27 info3 rfl (by decide) (by omega) u6 (pick (fun i => reachB up i c) i) (i : Int) [.int .i64 (i : Int)] (fun _ => True) (fun _ => False) rfl rfl ?aP (fun _ hk => hk.elim) ?aF ?aO ?aB ?aS ?aL ?_; (case aP => exact rfl); (case aB => exact HB.out); (case aF => exact (fun _ _ => trivial)); (case aO => exact HO.out); (case aS => exact HB.out.size); (case aL => have := HI.out; have := HF.out.n6; have := pick_len (fun i => reachB up i c) i; omega); intro vN wN hoN hbN hgN hatN; have HON := Aside.mk hoN; have HBN := Aside.mk hbN; have HGN := Aside.mk hgN; clear hoN hbN hgN hatN)
        go_roundw
        case rel => exact ⟨i + 1, HI.out, by first | rfl | simp, ⟨by rw [HP.out]; exact HON.out⟩, HBN, ⟨blk_grown HX.out HGN.out (Kd.R_ne HO.out HX.out (by decide))⟩⟩
        case measure => have := HI.out; have e9 : ((i : Int) + 1).toNat = i + 1 := (by omega); simp only [intOf, e9, Int.toNat_natCast]; omega
      | false =>
        rw [hb, if_neg (by decide), List.append_nil] at HP
        rw [hb] at hcell
        clear hb
        go_wp2
        go_roundw
        case rel => exact ⟨i + 1, HI.out, by first | rfl | simp, ⟨by rw [HP.out]; exact HO.out⟩, HB, HX⟩
        case measure => have := HI.out; have e9 : ((i : Int) + 1).toNat = i + 1 := (by omega); simp only [intOf, e9, Int.toNat_natCast]; omega
    · have t1 : decide ((i : Int) < (up.length : Int)) = false := decide_eq_false (by omega)
      have t2 : decide (i < up.length) = false := decide_eq_false hlt
      obtain rfl : i = up.length := by omega
      clear hlt hi
      go_wp2
      go_ret
      obtain ⟨A', c', rfl, h1, h2⟩ := Kd.R_reads HO.out
      exact ⟨A', c', rfl, ⟨h2, h1⟩, HB.out⟩
end Go.Proofs.YtkakgmpcenfjlaaDoor.Graph
