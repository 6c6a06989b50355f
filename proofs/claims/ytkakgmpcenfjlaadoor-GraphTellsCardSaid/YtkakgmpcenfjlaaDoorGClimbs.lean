/- The walk of sakialaw09.GraphClimbs: for every input the call returns true, and what was in memory stays. Asked: the library's table lies as laid. -/
import Derived.Test.YtkakgmpcenfjlaaDoorGLive
set_option linter.unusedVariables false
set_option linter.unusedSimpArgs false
set_option maxRecDepth 100000
namespace Go.Proofs.YtkakgmpcenfjlaaDoor.Graph
open Go.RowKit Go.Proofs.YtkakgmpcenfjlaaDoorW.PrintWords Go.Proofs.YtkakgmpcenfjlaaDoorW.PrintLast
theorem some_root {up : List (List Int)} (h : Fine up) : ∀ (k c : Nat), rank up c ≤ k → c < up.length → ∃ r, r < up.length ∧ (up.getD r []).isEmpty = true := by
  intro k
  induction k with
  | zero =>
    intro c hk hc
    refine ⟨c, hc, ?_⟩
    cases hr : up.getD c [] with
    | nil => rfl
    | cons u l => have := rank_lt h (mem_row h (show u ∈ up.getD c [] by rw [hr]; simp)); omega
  | succ k ih =>
    intro c hk hc
    cases hr : up.getD c [] with
    | nil => exact ⟨c, hc, by rw [hr]; rfl⟩
    | cons u l =>
      have e := mem_row h (show u ∈ up.getD c [] by rw [hr]; simp)
      exact ih u.toNat (by have := rank_lt h e; omega) (edge_lt h.good e).2
theorem roots_some {up : List (List Int)} (h : Fine up) : rootsI up ≠ [] := by
  intro e
  obtain ⟨r, h1, h2⟩ := some_root h (rank up 0) 0 (Nat.le_refl _) h.n1
  have := pick_nil.1 e r h1
  rw [h2] at this; simp at this
/-- How many are below one. -/
def under (up : List (List Int)) (x : Nat) : Nat := (List.range 6).countP (fun y => reachB up y x)
theorem under_lt {up : List (List Int)} (h : Fine up) {i x : Nat} (e : edge up i x = true) : under up i < under up x := by
  have hg := h.good
  refine countP_lt _ (fun y hy => (reachB_iff hg).2 (((reachB_iff hg).1 hy).trans (.one e))) i (List.mem_range.2 ?_) (h.acyc i) ((reachB_iff hg).2 (.one e))
  have := (edge_lt hg e).1; have := h.n6; omega
theorem some_end {up : List (List Int)} (h : Fine up) : ∀ (k x : Nat), under up x ≤ k → x < up.length → ∃ r, r < up.length ∧ namedB up up.length r = false := by
  intro k
  induction k with
  | zero =>
    intro x hk hx
    refine ⟨x, hx, ?_⟩
    cases hn : namedB up up.length x with
    | false => rfl
    | true =>
      obtain ⟨i, _, hi⟩ := List.any_eq_true.1 hn
      have := under_lt h hi; omega
  | succ k ih =>
    intro x hk hx
    cases hn : namedB up up.length x with
    | false => exact ⟨x, hx, hn⟩
    | true =>
      obtain ⟨i, _, hi⟩ := List.any_eq_true.1 hn
      exact ih i (by have := under_lt h hi; omega) (edge_lt h.good hi).1
theorem ends_some {up : List (List Int)} (h : Fine up) : endsI up ≠ [] := by
  intro e
  obtain ⟨r, h1, h2⟩ := some_end h (under up 0) 0 (Nat.le_refl _) h.n1
  have := pick_nil.1 e r h1
  rw [h2] at this; simp at this
theorem sub_all : ∀ a : Nat, a < 64 → ∀ b : Nat, b < 64 → (∀ i, i < 6 → a.testBit i = true → b.testBit i = true) → Go.bits .andNot .u64 (a : Int) (b : Int) = 0 := by decide +kernel
theorem inside_ (a b : Nat) (ha : a < 64) (hb : b < 64) (h : ∀ i, i < 6 → a.testBit i = true → b.testBit i = true) (w : World) : Calls Tryd.prog 15 #[.int .u64 a, .int .u64 b] w fun e w' => e = .returned (.bool true) ∧ w = w' := by
  have h1 := sub_all a ha b hb h
  clear h
  go_enter Tryd.func15, Tryd.ntmps15
  go_wp2_with (simp only [h1])
  go_ret
  exact ⟨rfl, rfl⟩
theorem mem_above {up : List (List Int)} (h : Fine up) {c j : Nat} (hj : j < (memI (aboveN up c)).length) : ∃ u : Nat, (memI (aboveN up c))[j] = (u : Int) ∧ u < up.length ∧ reachB up c u = true := by
  have hj' : j < (pick (aboveN up c).testBit 6).length := by rw [← memI_pick]; exact hj
  obtain ⟨u, h1, h2, h3⟩ := pick_at hj'
  rw [aboveN_bit, decide_eq_true h2, Bool.true_and] at h3
  refine ⟨u, ?_, (reach_lt h.good ((reachB_iff h.good).1 h3)).2, h3⟩
  rw [← h1]
  simp only [memI_pick]
theorem sub_above {up : List (List Int)} (h : Fine up) {c u : Nat} (hr : reachB up c u = true) : ∀ i, i < 6 → (aboveN up u).testBit i = true → (aboveN up c).testBit i = true := by
  intro i hi hb
  rw [aboveN_bit, decide_eq_true hi, Bool.true_and] at hb ⊢
  exact (reachB_iff h.good).2 (((reachB_iff h.good).1 hr).trans ((reachB_iff h.good).1 hb))
theorem below_bit {up : List (List Int)} (h : Fine up) (u c : Nat) : (belowN up u).testBit c = (decide (c < up.length) && reachB up c u) := mask_bit _ _ _
theorem has_false (m u : Nat) (w : World) (hm : m < 64) (hu : u < 6) (hb : m.testBit u = false) : Calls Tryd.prog 13 #[.int .u64 m, .int .i64 u] w fun e w' => e = .returned (.bool false) ∧ w = w' := by
  have := hasG m u w hm hu; rwa [hb] at this
theorem has_true (m u : Nat) (w : World) (hm : m < 64) (hu : u < 6) (hb : m.testBit u = true) : Calls Tryd.prog 13 #[.int .u64 m, .int .i64 u] w fun e w' => e = .returned (.bool true) ∧ w = w' := by
  have := hasG m u w hm hu; rwa [hb] at this
theorem memI_len (m : Nat) : (memI m).length ≤ 6 := by simp only [memI, List.length_map]; exact memF_len m
set_option maxHeartbeats 8000000 in
theorem walkClimbs (A : Option Addr) (C : Nat) (up : List (List Int)) (w : World) (hr : Kd.C (Kd.slice 3 (Kd.int .i64)) w A up.length up) (hC : up.length ≤ C) (hT : Tabled w) :
    Calls Tryd.prog 3 #[.slice A up.length C] w fun e w' => e = .returned (.bool true) ∧ Below w.heap.size w w' := by
  obtain ⟨b, hsm, hlong⟩ := long9 hr hC
  have HT := Aside.mk hT
  have HLO := Aside.mk hlong
  clear hT hlong
  cases b with
  | true =>
    go_enter Tryd.func3, Tryd.ntmps3
    go_wp2_with (go_at_call 7; refine HLO.out.mono ?_; rintro e w' ⟨rfl, hb⟩; have HB9 := Aside.mk hb; clear hb)
    go_wp2_with (go_at_call 9; refine (live9 _ (HT.out.below HB9.out)).mono ?_; rintro e W40 ⟨rfl, hb40⟩; have HB40 := Aside.mk (HB9.out.trans (hb40.mono HB9.out.size)); clear hb40)
    go_ret
    exact ⟨rfl, HB40.out⟩
  | false =>
    have HG := Aside.mk (Gv.mk hr hC (hsm rfl))
    clear hsm hr hC
    by_cases h0 : checkG up = 0
    rotate_left
    · have hz : (checkG up != 0) = true := by simpa using h0
      clear h0
      go_enter Tryd.func3, Tryd.ntmps3
      go_wp2_with fail
      refine HLO.out.mono ?_
      rintro e w0 ⟨rfl, hb0⟩
      have HB0 := Aside.mk hb0
      clear hb0
      go_wp2_with fail
      refine (check8 (HG.out.below HB0.out)).mono ?_
      rintro e w1 ⟨rfl, hb⟩
      have HB1 := Aside.mk (HB0.out.trans (hb.mono HB0.out.size))
      clear hb
      go_wp2_with (go_at_call 9; refine (live9 _ (HT.out.below HB1.out)).mono ?_; rintro e W40 ⟨rfl, hb40⟩; have HB40 := Aside.mk (HB1.out.trans (hb40.mono HB1.out.size)); clear hb40)
      go_ret
      exact ⟨rfl, HB40.out⟩
    · have hz : (checkG up != 0) = false := by simpa using h0
      have H0 := Aside.mk h0
      have HF := Aside.mk (fine_of h0)
      have hn1 : ((rootsI up).length == 0) = false := by
        cases hr : rootsI up with
        | nil => exact absurd hr (roots_some HF.out)
        | cons a l => rfl
      have hn2 : ((endsI up).length == 0) = false := by
        cases hr : endsI up with
        | nil => exact absurd hr (ends_some HF.out)
        | cons a l => rfl
      have hm1 : (((rootsI up).length : Int) == 0) = false := by have := hn1; simpa using this
      have hm2 : (((endsI up).length : Int) == 0) = false := by have := hn2; simpa using this
      clear h0
      go_enter Tryd.func3, Tryd.ntmps3
      go_wp2_with fail
      refine HLO.out.mono ?_
      rintro e w0 ⟨rfl, hb0⟩
      have HB0 := Aside.mk hb0
      clear hb0
      go_wp2_with fail
      refine (check8 (HG.out.below HB0.out)).mono ?_
      rintro e w1 ⟨rfl, hb⟩
      have HB1 := Aside.mk (HB0.out.trans (hb.mono HB0.out.size))
      clear hb
      go_wp2_with fail
      refine (roots_ok (HG.out.below HB1.out) H0.out).mono ?_
      rintro e W2 ⟨A2, c2, rfl, _, _, hb⟩
      have HB2 := Aside.mk (HB1.out.trans (hb.mono HB1.out.size))
      clear hb
      go_wp2_with fail
      refine (ends_ok (HG.out.below HB2.out) H0.out (HT.out.below HB2.out)).mono ?_
      rintro e W3 ⟨A3, c3, rfl, _, _, hb⟩
      have HB3 := Aside.mk (HB2.out.trans (hb.mono HB2.out.size))
      clear hb HB2 HB1 HB0 HLO
      go_wp2_with fail
      go_loopw [3] (fun x wr => ∃ c : Nat, c ≤ up.length ∧ x = .int .i64 c ∧ Aside (Below w.heap.size w wr)) (fun x _ => up.length - (intOf x).toNat)
      case atStart => exact ⟨0, Nat.zero_le _, rfl, HB3⟩
      case round =>
        clear HB3 hn1 hn2 hm1 hm2 hz
        obtain ⟨c, hc, rfl, HB⟩ := hrel
        by_cases hlt : c < up.length
        · have t1 : decide ((c : Int) < (up.length : Int)) = true := decide_eq_true (by omega)
          have t2 : decide (c < up.length) = true := decide_eq_true hlt
          have HI := Aside.mk hlt
          have h6 := Aside.mk (show c < 6 by have := HF.out.n6; omega)
          have ec := i1 (show c < 4611686018427387904 by have := HF.out.n6; omega)
          clear hc hlt
          go_wp2_with fail
          refine (above_ok (HG.out.below HB.out) c H0.out HI.out).mono ?_
          rintro e W5 ⟨rfl, hb⟩
          have HB5 := Aside.mk (HB.out.trans (hb.mono HB.out.size))
          clear hb
          go_wp2_with fail
          refine (has_false (aboveN up c) c _ (aboveN_lt up c) h6.out (by rw [aboveN_bit, HF.out.acyc c]; simp)).mono ?_
          rintro e W6 ⟨rfl, rfl⟩
          go_wp2_with fail
          refine (list_calls (aboveN up c) (aboveN_lt up c) _ (HT.out.below HB5.out)).mono ?_
          rintro e W7 ⟨A7, c7, rfl, h71, h72, hb⟩
          have HB7 := Aside.mk (HB5.out.trans (hb.mono HB5.out.size))
          have HR7 := Aside.mk (Rv.mk h72 h71)
          have HAT := Aside.mk (fun j (hj : j < (memI (aboveN up c)).length) => mem_above HF.out hj)
          have HML := Aside.mk (memI_len (aboveN up c))
          clear hb h71 h72 HB5 HB
          generalize memI (aboveN up c) = l at *
          go_wp2_with fail
          go_loopw [6] (fun x wr => ∃ i : Nat, i ≤ l.length ∧ x = .int .i64 i ∧ Aside (Rv wr A7 c7 l) ∧ Aside (Below w.heap.size w wr)) (fun x _ => l.length - (intOf x).toNat)
          case atStart => exact ⟨0, Nat.zero_le _, rfl, HR7, HB7⟩
          case round =>
            clear HR7 HB7
            obtain ⟨i, hi, rfl, HR, HB⟩ := hrel
            by_cases hlt : i < l.length
            · have t1 : decide ((i : Int) < (l.length : Int)) = true := decide_eq_true (by omega)
              have t2 : decide (i < l.length) = true := decide_eq_true hlt
              have t3 : (i : Int) < (l.length : Int) := by omega
              have HJ := Aside.mk hlt
              obtain ⟨u, hu, hul, hur⟩ := HAT.out i hlt
              obtain ⟨a0, rfl, hx⟩ := num_at HR.out.rd i hlt hlt
              rw [hu] at hx
              have HUL := Aside.mk hul
              have HUR := Aside.mk hur
              have HU6 := Aside.mk (show u < 6 by have := HF.out.n6; omega)
              have HX := Aside.mk hx
              have ei := i1 (show i < 4611686018427387904 by have := HML.out; omega)
              clear hi hlt hu hul hur
              go_wp2_with fail
              clear hx
              refine (above_ok (HG.out.below HB.out) u H0.out HUL.out).mono ?_
              rintro e W8 ⟨rfl, hb⟩
              have HB8 := Aside.mk (HB.out.trans (hb.mono HB.out.size))
              have hx8 := (hb.cell (World.block_lt_of_cell? _ _ HX.out)).trans HX.out
              have HR8 := Aside.mk (HR.out.below hb)
              clear hb
              go_wp2_with fail
              refine (inside_ (aboveN up u) (aboveN up c) (aboveN_lt up u) (aboveN_lt up c) (sub_above HF.out HUR.out) _).mono ?_
              rintro e W9 ⟨rfl, rfl⟩
              go_wp2_with fail
              refine (below_ok (HG.out.below HB8.out) u H0.out HUL.out).mono ?_
              rintro e W10 ⟨rfl, hb⟩
              have HB10 := Aside.mk (HB8.out.trans (hb.mono HB8.out.size))
              have HR10 := Aside.mk (HR8.out.below hb)
              clear hb hx8
              go_wp2_with fail
              refine (has_true (belowN up u) c _ (mask64 _ HF.out.n6) h6.out (by rw [below_bit HF.out, HUR.out, decide_eq_true HI.out]; rfl)).mono ?_
              rintro e W11 ⟨rfl, rfl⟩
              go_wp2
              go_roundw
              case rel => exact ⟨i + 1, HJ.out, by first | rfl | simp, HR10, HB10⟩
              case measure =>
                have := HJ.out
                have e9 : ((i : Int) + 1).toNat = i + 1 := by omega
                simp only [intOf, e9, Int.toNat_natCast]
                omega
            · have t1 : decide ((i : Int) < (l.length : Int)) = false := decide_eq_false (by omega)
              have t2 : decide (i < l.length) = false := decide_eq_false hlt
              obtain rfl : i = l.length := by omega
              clear hlt hi
              go_wp2
              go_roundw
              case rel => exact ⟨c + 1, HI.out, by first | rfl | simp, HB⟩
              case measure =>
                have := HI.out
                have e9 : ((c : Int) + 1).toNat = c + 1 := by omega
                simp only [intOf, e9, Int.toNat_natCast]
                omega
        · have t1 : decide ((c : Int) < (up.length : Int)) = false := decide_eq_false (by omega)
          have t2 : decide (c < up.length) = false := decide_eq_false hlt
          clear hlt hc
          go_wp2_with (go_at_call 9; refine (live9 _ (HT.out.below HB.out)).mono ?_; rintro e W40 ⟨rfl, hb40⟩; have HB40 := Aside.mk (HB.out.trans (hb40.mono HB.out.size)); clear hb40)
          go_ret
          exact ⟨rfl, HB40.out⟩
end Go.Proofs.YtkakgmpcenfjlaaDoor.Graph
