/- Whether two rows of events are the same: event.Same, by slices.EqualFunc, tells what sameL says of them. -/
import Derived.Test.YtjaiodlfgpndoaaQEvx9
import Derived.Test.YtjaiodlfgpndoaaWords
import Derived.LoopTactic
set_option linter.unusedVariables false
set_option linter.unusedSimpArgs false
namespace Go.Proofs.Ytjaiodlfgpndoaa.QEv
open Go.RowKit Go.Proofs.YtjaiodlfgpndoaaW.PrintWords Go.Proofs.YtjaiodlfgpndoaaW.PrintLast Go.Proofs.YtjaiodlfgpndoaaW.PrintMore
def sameE (a b : S56) : Bool := a.f0 == b.f0 && (a.f1 == b.f1 && (a.f2 == b.f2 && (a.f3 == b.f3 && (a.f4 == b.f4 && (a.f5 == b.f5 && a.f6 == b.f6)))))
theorem rd_nat (xs : List Int) (i : Nat) (h : i < xs.length) : rd xs (i : Int) = xs[i] := by simp [rd, h]
theorem equal_loop (l m : List Int) (hl : l.length = m.length) (hb : l.length < 9223372036854775807) : ∀ (d k i : Nat), l.length - i = d → i ≤ l.length → d < k → slices_Equal_int_int.l0 k l m (l.length : Int) (i : Int) = some (l.drop i == m.drop i) := by
  intro d
  induction d with
  | zero =>
    intro k i hd hi hk
    obtain ⟨k, rfl⟩ : ∃ n, k = n + 1 := ⟨k - 1, by omega⟩
    simp only [slices_Equal_int_int.l0]
    rw [if_neg (by omega), List.drop_eq_nil_of_le (by omega), List.drop_eq_nil_of_le (by omega)]; rfl
  | succ d ih =>
    intro k i hd hi hk
    obtain ⟨k, rfl⟩ : ∃ n, k = n + 1 := ⟨k - 1, by omega⟩
    simp only [slices_Equal_int_int.l0]
    rw [if_pos (by omega), if_pos (by omega), if_pos (by omega), if_pos (by omega), rd_nat _ _ (by omega), rd_nat _ _ (by omega), List.drop_eq_getElem_cons (by omega : i < l.length), List.drop_eq_getElem_cons (by omega : i < m.length)]
    by_cases h : l[i] = m[i]
    · rw [if_pos h, show wrap64 ((i : Int) + 1) = ((i + 1 : Nat) : Int) by unfold wrap64; omega, ih k (i + 1) (by omega) (by omega) (by omega), List.cons_beq_cons, beq_iff_eq.2 h, Bool.true_and]
    · rw [if_neg h, List.cons_beq_cons, beq_eq_false_iff_ne.2 h, Bool.false_and]
theorem same_pure (a b : S56) (hb : a.f6.length < 9223372036854775807) : event_same.f (a.f6.length + 1) a.f0 a.f1 a.f2 a.f3 a.f4 a.f5 a.f6 b.f0 b.f1 b.f2 b.f3 b.f4 b.f5 b.f6 = some (sameE a b) := by
  have he : slices_Equal_int_int.f (a.f6.length + 1) a.f6 b.f6 = some (a.f6 == b.f6) := by
    simp only [slices_Equal_int_int.f]
    by_cases h : a.f6.length = b.f6.length
    · rw [if_pos (by omega)]
      have := equal_loop a.f6 b.f6 h hb a.f6.length (a.f6.length + 1) 0 (by omega) (by omega) (by omega)
      simpa using this
    · rw [if_neg (by omega)]
      have : (a.f6 == b.f6) = false := by
        rw [beq_eq_false_iff_ne]
        intro e; rw [e] at h; exact h rfl
      rw [this]
  unfold event_same.f sameE
  rw [he]
  by_cases h0 : a.f0 = b.f0
  · by_cases h1 : a.f1 = b.f1
    · by_cases h2 : a.f2 = b.f2
      · by_cases h3 : a.f3 = b.f3
        · by_cases h4 : a.f4 = b.f4
          · by_cases h5 : a.f5 = b.f5
            · simp [h0, h1, h2, h3, h4, h5]
            · simp [h0, h1, h2, h3, h4, h5]
          · simp [h0, h1, h2, h3, h4]
        · simp [h0, h1, h2, h3]
      · simp [h0, h1, h2]
    · simp [h0, h1]
  · simp [h0]
def sameL (l m : List S56) : Bool := decide (l.length = m.length) && (List.range l.length).all fun i => sameE (rd_T56 l (i : Int)) (rd_T56 m (i : Int))
set_option maxHeartbeats 2000000 in
set_option maxRecDepth 100000 in
theorem equalFunc (A0 : Option Addr) (c0 : Nat) (l0 : List S56) (A1 : Option Addr) (c1 : Nat) (l1 : List S56) (w : World) (hr0 : Kd.C k56 w A0 l0.length l0) (hc0 : l0.length ≤ c0) (hr1 : Kd.C k56 w A1 l1.length l1) (hc1 : l1.length ≤ c1) (hb : ∀ i : Int, (rd_T56 l0 i).f6.length < 9223372036854775807) :
    Calls Try.prog 74 #[.slice A0 l0.length c0, .slice A1 l1.length c1, .func (.func 75) #[] #[]] w fun e w' => e = .returned (.bool (sameL l0 l1)) ∧ Below w.heap.size w w' := by
  have HR0 := Aside0.mk hr0
  have HR1 := Aside0.mk hr1
  have hm0 : l0.length ≤ 9223372036854775807 := hr0.2.1
  clear hr0 hr1
  have HB := Aside0.mk (Below.refl w.heap.size w)
  by_cases hl : l0.length = l1.length
  · have hl1 : ((l0.length : Int) != (l1.length : Int)) = false := by rw [hl]; simp
    have hl2 : (l0.length != l1.length) = false := by rw [hl]; simp
    have HL := Aside0.mk hl
    clear hl
    go_enter Try.func74, Try.ntmps74
    go_wp2
    go_loopw [17] (fun v wr => ∃ j : Nat, j ≤ l0.length ∧ v = .int .i64 j ∧ Aside0 (∀ i, i < j → sameE (rd_T56 l0 (i : Int)) (rd_T56 l1 (i : Int)) = true) ∧ Aside0 (Below w.heap.size w wr)) (fun v _ => l0.length - (intOf v).toNat)
    case atStart => exact ⟨0, by omega, rfl, ⟨fun i hi => by omega⟩, HB⟩
    case round =>
      clear HB
      obtain ⟨j, hj, rfl, HA, HB⟩ := hrel
      by_cases hlt : j < l0.length
      · have p0 : 0 ≤ (j : Int) := by omega
        have q0 : (j : Int) < l0.length := by omega
        have q1 : (j : Int) < l1.length := by rw [← HL.out]; omega
        obtain ⟨ad0, A6, c6, rfl, x0, x1, x2, x3, x4, x5, x6, xl, xg⟩ := at_T56 (Kd.C_below HR0.out HB.out) (j : Int) p0 q0
        obtain ⟨ad1, B6, d6, rfl, y0, y1, y2, y3, y4, y5, y6, yl, yg⟩ := at_T56 (Kd.C_below HR1.out HB.out) (j : Int) p0 q1
        simp only [Int.toNat_natCast] at x0 x1 x2 x3 x4 x5 x6 y0 y1 y2 y3 y4 y5 y6
        have z0 := fun o => pw_cell_below (below_alloc (Below.refl wr.heap.size wr) o) y0
        have z1 := fun o => pw_cell_below (below_alloc (Below.refl wr.heap.size wr) o) y1
        have z2 := fun o => pw_cell_below (below_alloc (Below.refl wr.heap.size wr) o) y2
        have z3 := fun o => pw_cell_below (below_alloc (Below.refl wr.heap.size wr) o) y3
        have z4 := fun o => pw_cell_below (below_alloc (Below.refl wr.heap.size wr) o) y4
        have z5 := fun o => pw_cell_below (below_alloc (Below.refl wr.heap.size wr) o) y5
        have z6 := fun o => pw_cell_below (below_alloc (Below.refl wr.heap.size wr) o) y6
        have XG := Aside0.mk xg
        have YG := Aside0.mk yg
        have XL := Aside0.mk xl
        have YL := Aside0.mk yl
        have hs := same_pure (rd_T56 l0 (j : Int)) (rd_T56 l1 (j : Int)) (hb _)
        have HS := Aside0.mk hs
        clear xg yg xl yl hs
        obtain ⟨b, hbe⟩ : ∃ b, sameE (rd_T56 l0 (j : Int)) (rd_T56 l1 (j : Int)) = b := ⟨_, rfl⟩
        rw [hbe] at HS
        have HBE := Aside0.mk hbe
        clear hbe
        cases b with
        | true =>
          go_wp2_with (go_at_call 75; (with_reducible refine (event_same.calls _ _ _ _ _ _ _ _ _ _ _ _ _ _ _ _ _ _ _ _ _ ?h1 XL.out ?h2 YL.out HS.out).mono ?_); (case h1 => (with_reducible repeat (first | apply Kd.C_alloc | apply Kd.C_drewN | apply Kd.C_drew)); exact XG.out); (case h2 => (with_reducible repeat (first | apply Kd.C_alloc | apply Kd.C_drewN | apply Kd.C_drew)); exact YG.out); rintro e w1 ⟨rfl, hb1⟩; have HB1 := Aside0.mk (below_step (below_alloc (below_alloc HB.out _) _) hb1); clear hb1)
          go_roundw
          case rel =>
            refine ⟨j + 1, by omega, by go_num, ⟨fun i hi => ?_⟩, HB1⟩
            by_cases e : i = j
            · subst e; exact HBE.out
            · exact HA.out i (by omega)
          case measure => simp [intOf]; omega
        | false =>
          go_wp2_with (go_at_call 75; (with_reducible refine (event_same.calls _ _ _ _ _ _ _ _ _ _ _ _ _ _ _ _ _ _ _ _ _ ?h1 XL.out ?h2 YL.out HS.out).mono ?_); (case h1 => (with_reducible repeat (first | apply Kd.C_alloc | apply Kd.C_drewN | apply Kd.C_drew)); exact XG.out); (case h2 => (with_reducible repeat (first | apply Kd.C_alloc | apply Kd.C_drewN | apply Kd.C_drew)); exact YG.out); rintro e w1 ⟨rfl, hb1⟩; have HB1 := Aside0.mk (below_step (below_alloc (below_alloc HB.out _) _) hb1); clear hb1)
          go_ret
          refine ⟨?_, HB1.out⟩
          have : sameL l0 l1 = false := by
            unfold sameL
            rw [Bool.and_eq_false_iff]
            right
            rw [List.all_eq_false]
            exact ⟨j, List.mem_range.2 hlt, by rw [HBE.out]; simp⟩
          rw [this]; rfl
      · obtain rfl : j = l0.length := by omega
        go_wp2
        go_ret
        refine ⟨?_, HB.out⟩
        have : sameL l0 l1 = true := by
          unfold sameL
          rw [Bool.and_eq_true]
          exact ⟨decide_eq_true HL.out, List.all_eq_true.2 fun i hi => HA.out i (List.mem_range.1 hi)⟩
        rw [this]; rfl
  · have hl1 : ((l0.length : Int) != (l1.length : Int)) = true := by rw [bne_iff_ne]; omega
    have hl2 : (l0.length != l1.length) = true := by rw [bne_iff_ne]; omega
    have HL := Aside0.mk hl
    clear hl
    go_enter Try.func74, Try.ntmps74
    go_wp2
    go_ret
    refine ⟨?_, HB.out⟩
    have : sameL l0 l1 = false := by unfold sameL; rw [decide_eq_false HL.out]; rfl
    rw [this]; rfl
def event_Same.f (l0 l1 : List S56) : Option Bool := if ∀ x ∈ l0, x.f6.length < 9223372036854775807 then some (sameL l0 l1) else none
theorem event_Same.calls (A0 : Option Addr) (c0 : Nat) (l0 : List S56) (A1 : Option Addr) (c1 : Nat) (l1 : List S56) (r : Bool) (w : World) (hr0 : Kd.C k56 w A0 l0.length l0) (hc0 : l0.length ≤ c0) (hr1 : Kd.C k56 w A1 l1.length l1) (hc1 : l1.length ≤ c1) (h : event_Same.f l0 l1 = some r) :
    Calls Try.prog 56 #[.slice A0 l0.length c0, .slice A1 l1.length c1] w fun e w' => e = .returned (.bool r) ∧ Below w.heap.size w w' := by
  unfold event_Same.f at h
  split at h
  · rename_i hx
    obtain rfl := Option.some.inj h
    have hb : ∀ i : Int, (rd_T56 l0 i).f6.length < 9223372036854775807 := fun i => by
      unfold rd_T56
      rw [List.getD_eq_getElem?_getD]
      by_cases hi : i.toNat < l0.length
      · rw [List.getElem?_eq_getElem hi]; exact hx _ (List.getElem_mem hi)
      · rw [List.getElem?_eq_none (by omega)]; show (z56).f6.length < _; decide
    have H := Aside0.mk (equalFunc A0 c0 l0 A1 c1 l1 w hr0 hc0 hr1 hc1 hb)
    clear hr0 hr1 hx hb h
    go_enter Try.func56, Try.ntmps56
    go_wp2_with (go_at_call 74; (with_reducible refine (H.out).mono ?_); rintro e w1 ⟨rfl, hb1⟩)
    go_ret
    exact ⟨rfl, hb1⟩
  · simp at h
end Go.Proofs.Ytjaiodlfgpndoaa.QEv
