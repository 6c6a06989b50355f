/- conf.Check: what is wrong first with a configuration. -/
import Derived.Test.YtgibmlbdkijflaaDoorGraphP
set_option linter.unusedVariables false
set_option linter.unusedSimpArgs false
set_option maxRecDepth 100000
namespace Go.Proofs.YtgibmlbdkijflaaDoor.QGc
open Go.RowKit Go.Proofs.YtgibmlbdkijflaaDoorW.PrintWords Go.Proofs.YtgibmlbdkijflaaDoorW.PrintLast Go.Proofs.YtgibmlbdkijflaaDoorW.PrintMore Go.Proofs.YtgibmlbdkijflaaDoor.Graph
theorem fresh6 (w : World) (cs : Array Value) (t : TypeId) (i : Nat) (v : Value) (h : cs[i]? = some v) : (w.alloc (.cells cs t)).cell? ⟨w.heap.size, i, none⟩ = some v := by
  have e := heap_alloc_new w (.cells cs t)
  simp only [World.cell?, e, h]
  rfl
theorem box_below (w : World) (o : Obj) : Below w.heap.size w (w.alloc o) := (Below.refl w.heap.size w).alloc (Nat.le_refl _) _
theorem wideR (x : Int) (w : World) : Calls Tryd.prog 65 #[.int .i64 x] w fun e w' => e = .returned (.bool (decide (x = 32 ∨ x = 64))) ∧ w = w' := by
  by_cases h1 : x = 32
  · have e : decide (x = 32 ∨ x = 64) = true := decide_eq_true (.inl h1)
    rw [e]
    subst h1
    clear e
    go_enter Tryd.func65, Tryd.ntmps65
    go_wp2
    go_ret
    exact ⟨rfl, rfl⟩
  · have e : decide (x = 32 ∨ x = 64) = (x == 64) := by
      rw [Bool.eq_iff_iff, decide_eq_true_eq, beq_iff_eq]
      exact ⟨fun h => h.resolve_left h1, .inr⟩
    rw [e]
    have t1 : (x == 32) = false := beq_eq_false_iff_ne.2 h1
    clear e
    go_enter Tryd.func65, Tryd.ntmps65
    go_wp2
    go_ret
    exact ⟨rfl, rfl⟩
theorem lapR (cap : Int) (w : World) : Calls Tryd.prog 66 #[.int .i64 cap] w fun e w' => e = .returned (.bool (rightB cap)) ∧ w = w' := by
  unfold rightB
  by_cases h1 : 2 ≤ cap
  · have t1 : decide (2 ≤ cap) = true := decide_eq_true h1
    by_cases h2 : cap ≤ 1073741824
    · have t2 : decide (cap ≤ 1073741824) = true := decide_eq_true h2
      have e : (bits .and .i64 cap (cap - 1) == 0) = (cap.toNat &&& (cap.toNat - 1) == 0) := by
        rw [and_nat cap h1 h2, Bool.eq_iff_iff, beq_iff_eq, beq_iff_eq]
        omega
      rw [t1, t2, Bool.true_and, Bool.true_and, ← e]
      clear e
      go_enter Tryd.func66, Tryd.ntmps66
      go_wp2
      go_ret
      exact ⟨rfl, rfl⟩
    · have t2 : decide (cap ≤ 1073741824) = false := decide_eq_false h2
      rw [t2, Bool.and_false, Bool.false_and]
      go_enter Tryd.func66, Tryd.ntmps66
      go_wp2
      go_ret
      exact ⟨rfl, rfl⟩
  · have t1 : decide (2 ≤ cap) = false := decide_eq_false h1
    rw [t1, Bool.false_and, Bool.false_and]
    go_enter Tryd.func66, Tryd.ntmps66
    go_wp2
    go_ret
    exact ⟨rfl, rfl⟩
theorem graphCheck (A : Option Addr) (C : Nat) (up : List (List Int)) (W : World) (hs : Sm up) (hr : Kd.C (Kd.slice 3 (Kd.int .i64)) W A up.length up) (hC : up.length ≤ C) :
    Calls Tryd.prog 67 #[.slice A up.length C] W fun e w' => e = .returned (.int .i64 (checkG up)) ∧ Below W.heap.size W w' := graph_Check.calls 100 A C up _ W hr hC (graph_check_ok up hs 100 (Nat.le_refl _))
set_option maxHeartbeats 1000000 in
theorem cc_v1 (v w c p s : Int) (A : Option Addr) (C : Nat) (up : List (List Int)) (W : World) (t1 : decide (v < 1) = true) :
    Calls Tryd.prog 31 #[.agg #[.int .i64 v, .int .i64 w, .int .i64 c, .int .i64 p, .int .u64 s, .slice A up.length C]] W fun e w' => e = .returned (.int .i64 2) ∧ Below W.heap.size W w' := by
  go_enter Tryd.func31, Tryd.ntmps31
  go_wp2_with fail
  go_ret
  exact ⟨rfl, box_below _ _⟩
set_option maxHeartbeats 1000000 in
theorem cc_v5 (v w c p s : Int) (A : Option Addr) (C : Nat) (up : List (List Int)) (W : World) (t1 : decide (v < 1) = false) (t2 : decide (5 < v) = true) :
    Calls Tryd.prog 31 #[.agg #[.int .i64 v, .int .i64 w, .int .i64 c, .int .i64 p, .int .u64 s, .slice A up.length C]] W fun e w' => e = .returned (.int .i64 2) ∧ Below W.heap.size W w' := by
  go_enter Tryd.func31, Tryd.ntmps31
  go_wp2_with fail
  go_ret
  exact ⟨rfl, box_below _ _⟩
set_option maxHeartbeats 1000000 in
theorem cc_w (v w c p s : Int) (A : Option Addr) (C : Nat) (up : List (List Int)) (W : World) (t1 : decide (v < 1) = false) (t2 : decide (5 < v) = false) (tw : decide (w = 32 ∨ w = 64) = false) :
    Calls Tryd.prog 31 #[.agg #[.int .i64 v, .int .i64 w, .int .i64 c, .int .i64 p, .int .u64 s, .slice A up.length C]] W fun e w' => e = .returned (.int .i64 3) ∧ Below W.heap.size W w' := by
  go_enter Tryd.func31, Tryd.ntmps31
  go_wp2_with (first | (go_at_call 65; refine (wideR _ _).mono ?_; rw [tw]; rintro e w' ⟨rfl, rfl⟩))
  go_ret
  exact ⟨rfl, box_below _ _⟩
set_option maxHeartbeats 1000000 in
theorem cc_c (v w c p s : Int) (A : Option Addr) (C : Nat) (up : List (List Int)) (W : World) (t1 : decide (v < 1) = false) (t2 : decide (5 < v) = false) (tw : decide (w = 32 ∨ w = 64) = true) (tc : rightB c = false) :
    Calls Tryd.prog 31 #[.agg #[.int .i64 v, .int .i64 w, .int .i64 c, .int .i64 p, .int .u64 s, .slice A up.length C]] W fun e w' => e = .returned (.int .i64 4) ∧ Below W.heap.size W w' := by
  go_enter Tryd.func31, Tryd.ntmps31
  go_wp2_with (first | (go_at_call 65; refine (wideR _ _).mono ?_; rw [tw]; rintro e w' ⟨rfl, rfl⟩) | (go_at_call 66; refine (lapR _ _).mono ?_; rw [tc]; rintro e w' ⟨rfl, rfl⟩))
  go_ret
  exact ⟨rfl, box_below _ _⟩
set_option maxHeartbeats 1000000 in
theorem cc_p1 (v w c p s : Int) (A : Option Addr) (C : Nat) (up : List (List Int)) (W : World) (t1 : decide (v < 1) = false) (t2 : decide (5 < v) = false) (tw : decide (w = 32 ∨ w = 64) = true) (tc : rightB c = true) (t3 : decide (p < 1) = true) :
    Calls Tryd.prog 31 #[.agg #[.int .i64 v, .int .i64 w, .int .i64 c, .int .i64 p, .int .u64 s, .slice A up.length C]] W fun e w' => e = .returned (.int .i64 5) ∧ Below W.heap.size W w' := by
  go_enter Tryd.func31, Tryd.ntmps31
  go_wp2_with (first | (go_at_call 65; refine (wideR _ _).mono ?_; rw [tw]; rintro e w' ⟨rfl, rfl⟩) | (go_at_call 66; refine (lapR _ _).mono ?_; rw [tc]; rintro e w' ⟨rfl, rfl⟩))
  go_ret
  exact ⟨rfl, box_below _ _⟩
set_option maxHeartbeats 1000000 in
theorem cc_p4 (v w c p s : Int) (A : Option Addr) (C : Nat) (up : List (List Int)) (W : World) (t1 : decide (v < 1) = false) (t2 : decide (5 < v) = false) (tw : decide (w = 32 ∨ w = 64) = true) (tc : rightB c = true) (t3 : decide (p < 1) = false) (t4 : decide (4 < p) = true) :
    Calls Tryd.prog 31 #[.agg #[.int .i64 v, .int .i64 w, .int .i64 c, .int .i64 p, .int .u64 s, .slice A up.length C]] W fun e w' => e = .returned (.int .i64 5) ∧ Below W.heap.size W w' := by
  go_enter Tryd.func31, Tryd.ntmps31
  go_wp2_with (first | (go_at_call 65; refine (wideR _ _).mono ?_; rw [tw]; rintro e w' ⟨rfl, rfl⟩) | (go_at_call 66; refine (lapR _ _).mono ?_; rw [tc]; rintro e w' ⟨rfl, rfl⟩))
  go_ret
  exact ⟨rfl, box_below _ _⟩
set_option maxHeartbeats 1000000 in
theorem cc_p1v (v w c p s : Int) (A : Option Addr) (C : Nat) (up : List (List Int)) (W : World) (t1 : decide (v < 1) = false) (t2 : decide (5 < v) = false) (tw : decide (w = 32 ∨ w = 64) = true) (tc : rightB c = true) (t3 : decide (p < 1) = false) (t4 : decide (4 < p) = false) (t5 : (v == 1) = true) (t6 : decide (1 < p) = true) :
    Calls Tryd.prog 31 #[.agg #[.int .i64 v, .int .i64 w, .int .i64 c, .int .i64 p, .int .u64 s, .slice A up.length C]] W fun e w' => e = .returned (.int .i64 5) ∧ Below W.heap.size W w' := by
  go_enter Tryd.func31, Tryd.ntmps31
  go_wp2_with (first | (go_at_call 65; refine (wideR _ _).mono ?_; rw [tw]; rintro e w' ⟨rfl, rfl⟩) | (go_at_call 66; refine (lapR _ _).mono ?_; rw [tc]; rintro e w' ⟨rfl, rfl⟩))
  go_ret
  exact ⟨rfl, box_below _ _⟩
set_option maxHeartbeats 1000000 in
theorem cc_ga (v w c p s : Int) (A : Option Addr) (C : Nat) (up : List (List Int)) (W : World) (t1 : decide (v < 1) = false) (t2 : decide (5 < v) = false) (tw : decide (w = 32 ∨ w = 64) = true) (tc : rightB c = true) (t3 : decide (p < 1) = false) (t4 : decide (4 < p) = false) (t5 : (v == 1) = false) (hs : Sm up) (hr : Kd.C (Kd.slice 3 (Kd.int .i64)) W A up.length up) (hC : up.length ≤ C) (g0 : (checkG up != 0) = true) :
    Calls Tryd.prog 31 #[.agg #[.int .i64 v, .int .i64 w, .int .i64 c, .int .i64 p, .int .u64 s, .slice A up.length C]] W fun e w' => e = .returned (.int .i64 (checkG up)) ∧ Below W.heap.size W w' := by
  have G0 := Aside0.mk g0
  clear g0
  have HG := Aside0.mk (graphCheck A C up (W.alloc (.cells #[.int .i64 v, .int .i64 w, .int .i64 c, .int .i64 p, .int .u64 s, .slice A up.length C] 25)) hs (Kd.C_alloc hr _) hC)
  clear hs hr
  go_enter Tryd.func31, Tryd.ntmps31
  go_wp2_with (first | (go_at_call 65; refine (wideR _ _).mono ?_; rw [tw]; rintro e w' ⟨rfl, rfl⟩) | (go_at_call 66; refine (lapR _ _).mono ?_; rw [tc]; rintro e w' ⟨rfl, rfl⟩))
  go_at_call 67
  refine (HG.out).mono ?_
  rintro e w2 ⟨rfl, hb⟩
  have HB := Aside0.mk ((box_below W (.cells #[.int .i64 v, .int .i64 w, .int .i64 c, .int .i64 p, .int .u64 s, .slice A up.length C] 25)).trans (hb.mono (box_below W (.cells #[.int .i64 v, .int .i64 w, .int .i64 c, .int .i64 p, .int .u64 s, .slice A up.length C] 25)).size))
  have HLE := Aside0.mk (Nat.le_trans (box_below W (.cells #[.int .i64 v, .int .i64 w, .int .i64 c, .int .i64 p, .int .u64 s, .slice A up.length C] 25)).size hb.size)
  have HLT := Aside0.mk (show W.heap.size < w2.heap.size from Nat.lt_of_lt_of_le (by simp) hb.size)
  have g0 := G0.out
  clear hb
  go_wp2
  go_ret
  exact ⟨rfl, HB.out⟩
set_option maxHeartbeats 1000000 in
theorem cc_ax (v w c p s : Int) (A : Option Addr) (C : Nat) (up : List (List Int)) (W : World) (t1 : decide (v < 1) = false) (t2 : decide (5 < v) = false) (tw : decide (w = 32 ∨ w = 64) = true) (tc : rightB c = true) (t3 : decide (p < 1) = false) (t4 : decide (4 < p) = false) (t5 : (v == 1) = false) (hs : Sm up) (hr : Kd.C (Kd.slice 3 (Kd.int .i64)) W A up.length up) (hC : up.length ≤ C) (g0 : (checkG up != 0) = false) (tb : boundB w c p = true) :
    Calls Tryd.prog 31 #[.agg #[.int .i64 v, .int .i64 w, .int .i64 c, .int .i64 p, .int .u64 s, .slice A up.length C]] W fun e w' => e = .returned (.int .i64 9) ∧ Below W.heap.size W w' := by
  have TB := Aside0.mk tb
  have HBD := Aside0.mk (bound_ok v w c p s up (of_decide_eq_true tw) tc (by have := of_decide_eq_false t3; omega) (by have := of_decide_eq_false t4; omega))
  rw [tb] at HBD
  have HR0 := Aside0.mk (Kd.C_alloc hr (.cells #[.int .i64 v, .int .i64 w, .int .i64 c, .int .i64 p, .int .u64 s, .slice A up.length C] 25))
  have HC0 := Aside0.mk hC
  have G0 := Aside0.mk g0
  clear tb g0
  have HG := Aside0.mk (graphCheck A C up (W.alloc (.cells #[.int .i64 v, .int .i64 w, .int .i64 c, .int .i64 p, .int .u64 s, .slice A up.length C] 25)) hs (Kd.C_alloc hr _) hC)
  clear hs hr
  go_enter Tryd.func31, Tryd.ntmps31
  go_wp2_with (first | (go_at_call 65; refine (wideR _ _).mono ?_; rw [tw]; rintro e w' ⟨rfl, rfl⟩) | (go_at_call 66; refine (lapR _ _).mono ?_; rw [tc]; rintro e w' ⟨rfl, rfl⟩))
  go_at_call 67
  refine (HG.out).mono ?_
  rintro e w2 ⟨rfl, hb⟩
  have HB := Aside0.mk ((box_below W (.cells #[.int .i64 v, .int .i64 w, .int .i64 c, .int .i64 p, .int .u64 s, .slice A up.length C] 25)).trans (hb.mono (box_below W (.cells #[.int .i64 v, .int .i64 w, .int .i64 c, .int .i64 p, .int .u64 s, .slice A up.length C] 25)).size))
  have HLE := Aside0.mk (Nat.le_trans (box_below W (.cells #[.int .i64 v, .int .i64 w, .int .i64 c, .int .i64 p, .int .u64 s, .slice A up.length C] 25)).size hb.size)
  have HLT := Aside0.mk (show W.heap.size < w2.heap.size from Nat.lt_of_lt_of_le (by simp) hb.size)
  have HR := Aside0.mk (Kd.C_below HR0.out hb)
  have hc0 : w2.cell? ⟨W.heap.size, 0, none⟩ = some (.int .i64 v) := (hb.cell (by simp)).trans (fresh6 W _ _ 0 _ rfl)
  have hc1 : w2.cell? ⟨W.heap.size, 1, none⟩ = some (.int .i64 w) := (hb.cell (by simp)).trans (fresh6 W _ _ 1 _ rfl)
  have hc2 : w2.cell? ⟨W.heap.size, 2, none⟩ = some (.int .i64 c) := (hb.cell (by simp)).trans (fresh6 W _ _ 2 _ rfl)
  have hc3 : w2.cell? ⟨W.heap.size, 3, none⟩ = some (.int .i64 p) := (hb.cell (by simp)).trans (fresh6 W _ _ 3 _ rfl)
  have hc4 : w2.cell? ⟨W.heap.size, 4, none⟩ = some (.int .u64 s) := (hb.cell (by simp)).trans (fresh6 W _ _ 4 _ rfl)
  have hc5 : w2.cell? ⟨W.heap.size, 5, none⟩ = some (.slice A up.length C) := (hb.cell (by simp)).trans (fresh6 W _ _ 5 _ rfl)
  have g0 := G0.out
  clear hb
  go_wp2_with (go_at_call 68; refine (conf_bound.calls v w c p s A C up _ _ (by first | exact HR.out | exact Kd.C_drewN HR.out _) HC0.out HBD.out).mono ?_; rintro e w3 ⟨rfl, hb3⟩; have hd2 := (hb3.cell (p := ⟨W.heap.size, 2, none⟩) HLT.out).trans hc2)
  go_ret
  exact ⟨rfl, HB.out.trans (hb3.mono HLE.out)⟩
set_option maxHeartbeats 1000000 in
theorem cc_ay (v w c p s : Int) (A : Option Addr) (C : Nat) (up : List (List Int)) (W : World) (t1 : decide (v < 1) = false) (t2 : decide (5 < v) = false) (tw : decide (w = 32 ∨ w = 64) = true) (tc : rightB c = true) (t3 : decide (p < 1) = false) (t4 : decide (4 < p) = false) (t5 : (v == 1) = false) (hs : Sm up) (hr : Kd.C (Kd.slice 3 (Kd.int .i64)) W A up.length up) (hC : up.length ≤ C) (g0 : (checkG up != 0) = false) (tb : boundB w c p = false) (t7 : decide (64 < c) = true) :
    Calls Tryd.prog 31 #[.agg #[.int .i64 v, .int .i64 w, .int .i64 c, .int .i64 p, .int .u64 s, .slice A up.length C]] W fun e w' => e = .returned (.int .i64 10) ∧ Below W.heap.size W w' := by
  have TB := Aside0.mk tb
  have HBD := Aside0.mk (bound_ok v w c p s up (of_decide_eq_true tw) tc (by have := of_decide_eq_false t3; omega) (by have := of_decide_eq_false t4; omega))
  rw [tb] at HBD
  have HR0 := Aside0.mk (Kd.C_alloc hr (.cells #[.int .i64 v, .int .i64 w, .int .i64 c, .int .i64 p, .int .u64 s, .slice A up.length C] 25))
  have HC0 := Aside0.mk hC
  have G0 := Aside0.mk g0
  clear tb g0
  have HG := Aside0.mk (graphCheck A C up (W.alloc (.cells #[.int .i64 v, .int .i64 w, .int .i64 c, .int .i64 p, .int .u64 s, .slice A up.length C] 25)) hs (Kd.C_alloc hr _) hC)
  clear hs hr
  go_enter Tryd.func31, Tryd.ntmps31
  go_wp2_with (first | (go_at_call 65; refine (wideR _ _).mono ?_; rw [tw]; rintro e w' ⟨rfl, rfl⟩) | (go_at_call 66; refine (lapR _ _).mono ?_; rw [tc]; rintro e w' ⟨rfl, rfl⟩))
  go_at_call 67
  refine (HG.out).mono ?_
  rintro e w2 ⟨rfl, hb⟩
  have HB := Aside0.mk ((box_below W (.cells #[.int .i64 v, .int .i64 w, .int .i64 c, .int .i64 p, .int .u64 s, .slice A up.length C] 25)).trans (hb.mono (box_below W (.cells #[.int .i64 v, .int .i64 w, .int .i64 c, .int .i64 p, .int .u64 s, .slice A up.length C] 25)).size))
  have HLE := Aside0.mk (Nat.le_trans (box_below W (.cells #[.int .i64 v, .int .i64 w, .int .i64 c, .int .i64 p, .int .u64 s, .slice A up.length C] 25)).size hb.size)
  have HLT := Aside0.mk (show W.heap.size < w2.heap.size from Nat.lt_of_lt_of_le (by simp) hb.size)
  have HR := Aside0.mk (Kd.C_below HR0.out hb)
  have hc0 : w2.cell? ⟨W.heap.size, 0, none⟩ = some (.int .i64 v) := (hb.cell (by simp)).trans (fresh6 W _ _ 0 _ rfl)
  have hc1 : w2.cell? ⟨W.heap.size, 1, none⟩ = some (.int .i64 w) := (hb.cell (by simp)).trans (fresh6 W _ _ 1 _ rfl)
  have hc2 : w2.cell? ⟨W.heap.size, 2, none⟩ = some (.int .i64 c) := (hb.cell (by simp)).trans (fresh6 W _ _ 2 _ rfl)
  have hc3 : w2.cell? ⟨W.heap.size, 3, none⟩ = some (.int .i64 p) := (hb.cell (by simp)).trans (fresh6 W _ _ 3 _ rfl)
  have hc4 : w2.cell? ⟨W.heap.size, 4, none⟩ = some (.int .u64 s) := (hb.cell (by simp)).trans (fresh6 W _ _ 4 _ rfl)
  have hc5 : w2.cell? ⟨W.heap.size, 5, none⟩ = some (.slice A up.length C) := (hb.cell (by simp)).trans (fresh6 W _ _ 5 _ rfl)
  have g0 := G0.out
  clear hb
  go_wp2_with (go_at_call 68; refine (conf_bound.calls v w c p s A C up _ _ (by first | exact HR.out | exact Kd.C_drewN HR.out _) HC0.out HBD.out).mono ?_; rintro e w3 ⟨rfl, hb3⟩; have hd2 := (hb3.cell (p := ⟨W.heap.size, 2, none⟩) HLT.out).trans hc2)
  go_ret
  exact ⟨rfl, HB.out.trans (hb3.mono HLE.out)⟩
set_option maxHeartbeats 1000000 in
theorem cc_az (v w c p s : Int) (A : Option Addr) (C : Nat) (up : List (List Int)) (W : World) (t1 : decide (v < 1) = false) (t2 : decide (5 < v) = false) (tw : decide (w = 32 ∨ w = 64) = true) (tc : rightB c = true) (t3 : decide (p < 1) = false) (t4 : decide (4 < p) = false) (t5 : (v == 1) = false) (hs : Sm up) (hr : Kd.C (Kd.slice 3 (Kd.int .i64)) W A up.length up) (hC : up.length ≤ C) (g0 : (checkG up != 0) = false) (tb : boundB w c p = false) (t7 : decide (64 < c) = false) :
    Calls Tryd.prog 31 #[.agg #[.int .i64 v, .int .i64 w, .int .i64 c, .int .i64 p, .int .u64 s, .slice A up.length C]] W fun e w' => e = .returned (.int .i64 0) ∧ Below W.heap.size W w' := by
  have TB := Aside0.mk tb
  have HBD := Aside0.mk (bound_ok v w c p s up (of_decide_eq_true tw) tc (by have := of_decide_eq_false t3; omega) (by have := of_decide_eq_false t4; omega))
  rw [tb] at HBD
  have HR0 := Aside0.mk (Kd.C_alloc hr (.cells #[.int .i64 v, .int .i64 w, .int .i64 c, .int .i64 p, .int .u64 s, .slice A up.length C] 25))
  have HC0 := Aside0.mk hC
  have G0 := Aside0.mk g0
  clear tb g0
  have HG := Aside0.mk (graphCheck A C up (W.alloc (.cells #[.int .i64 v, .int .i64 w, .int .i64 c, .int .i64 p, .int .u64 s, .slice A up.length C] 25)) hs (Kd.C_alloc hr _) hC)
  clear hs hr
  go_enter Tryd.func31, Tryd.ntmps31
  go_wp2_with (first | (go_at_call 65; refine (wideR _ _).mono ?_; rw [tw]; rintro e w' ⟨rfl, rfl⟩) | (go_at_call 66; refine (lapR _ _).mono ?_; rw [tc]; rintro e w' ⟨rfl, rfl⟩))
  go_at_call 67
  refine (HG.out).mono ?_
  rintro e w2 ⟨rfl, hb⟩
  have HB := Aside0.mk ((box_below W (.cells #[.int .i64 v, .int .i64 w, .int .i64 c, .int .i64 p, .int .u64 s, .slice A up.length C] 25)).trans (hb.mono (box_below W (.cells #[.int .i64 v, .int .i64 w, .int .i64 c, .int .i64 p, .int .u64 s, .slice A up.length C] 25)).size))
  have HLE := Aside0.mk (Nat.le_trans (box_below W (.cells #[.int .i64 v, .int .i64 w, .int .i64 c, .int .i64 p, .int .u64 s, .slice A up.length C] 25)).size hb.size)
  have HLT := Aside0.mk (show W.heap.size < w2.heap.size from Nat.lt_of_lt_of_le (by simp) hb.size)
  have HR := Aside0.mk (Kd.C_below HR0.out hb)
  have hc0 : w2.cell? ⟨W.heap.size, 0, none⟩ = some (.int .i64 v) := (hb.cell (by simp)).trans (fresh6 W _ _ 0 _ rfl)
  have hc1 : w2.cell? ⟨W.heap.size, 1, none⟩ = some (.int .i64 w) := (hb.cell (by simp)).trans (fresh6 W _ _ 1 _ rfl)
  have hc2 : w2.cell? ⟨W.heap.size, 2, none⟩ = some (.int .i64 c) := (hb.cell (by simp)).trans (fresh6 W _ _ 2 _ rfl)
  have hc3 : w2.cell? ⟨W.heap.size, 3, none⟩ = some (.int .i64 p) := (hb.cell (by simp)).trans (fresh6 W _ _ 3 _ rfl)
  have hc4 : w2.cell? ⟨W.heap.size, 4, none⟩ = some (.int .u64 s) := (hb.cell (by simp)).trans (fresh6 W _ _ 4 _ rfl)
  have hc5 : w2.cell? ⟨W.heap.size, 5, none⟩ = some (.slice A up.length C) := (hb.cell (by simp)).trans (fresh6 W _ _ 5 _ rfl)
  have g0 := G0.out
  clear hb
  go_wp2_with (go_at_call 68; refine (conf_bound.calls v w c p s A C up _ _ (by first | exact HR.out | exact Kd.C_drewN HR.out _) HC0.out HBD.out).mono ?_; rintro e w3 ⟨rfl, hb3⟩; have hd2 := (hb3.cell (p := ⟨W.heap.size, 2, none⟩) HLT.out).trans hc2)
  go_ret
  exact ⟨rfl, HB.out.trans (hb3.mono HLE.out)⟩
set_option maxHeartbeats 1000000 in
theorem cc_gb (v w c p s : Int) (A : Option Addr) (C : Nat) (up : List (List Int)) (W : World) (t1 : decide (v < 1) = false) (t2 : decide (5 < v) = false) (tw : decide (w = 32 ∨ w = 64) = true) (tc : rightB c = true) (t3 : decide (p < 1) = false) (t4 : decide (4 < p) = false) (t5 : (v == 1) = true) (t6 : decide (1 < p) = false) (hs : Sm up) (hr : Kd.C (Kd.slice 3 (Kd.int .i64)) W A up.length up) (hC : up.length ≤ C) (g0 : (checkG up != 0) = true) :
    Calls Tryd.prog 31 #[.agg #[.int .i64 v, .int .i64 w, .int .i64 c, .int .i64 p, .int .u64 s, .slice A up.length C]] W fun e w' => e = .returned (.int .i64 (checkG up)) ∧ Below W.heap.size W w' := by
  have G0 := Aside0.mk g0
  clear g0
  have HG := Aside0.mk (graphCheck A C up (W.alloc (.cells #[.int .i64 v, .int .i64 w, .int .i64 c, .int .i64 p, .int .u64 s, .slice A up.length C] 25)) hs (Kd.C_alloc hr _) hC)
  clear hs hr
  go_enter Tryd.func31, Tryd.ntmps31
  go_wp2_with (first | (go_at_call 65; refine (wideR _ _).mono ?_; rw [tw]; rintro e w' ⟨rfl, rfl⟩) | (go_at_call 66; refine (lapR _ _).mono ?_; rw [tc]; rintro e w' ⟨rfl, rfl⟩))
  go_at_call 67
  refine (HG.out).mono ?_
  rintro e w2 ⟨rfl, hb⟩
  have HB := Aside0.mk ((box_below W (.cells #[.int .i64 v, .int .i64 w, .int .i64 c, .int .i64 p, .int .u64 s, .slice A up.length C] 25)).trans (hb.mono (box_below W (.cells #[.int .i64 v, .int .i64 w, .int .i64 c, .int .i64 p, .int .u64 s, .slice A up.length C] 25)).size))
  have HLE := Aside0.mk (Nat.le_trans (box_below W (.cells #[.int .i64 v, .int .i64 w, .int .i64 c, .int .i64 p, .int .u64 s, .slice A up.length C] 25)).size hb.size)
  have HLT := Aside0.mk (show W.heap.size < w2.heap.size from Nat.lt_of_lt_of_le (by simp) hb.size)
  have g0 := G0.out
  clear hb
  go_wp2
  go_ret
  exact ⟨rfl, HB.out⟩
set_option maxHeartbeats 1000000 in
theorem cc_bx (v w c p s : Int) (A : Option Addr) (C : Nat) (up : List (List Int)) (W : World) (t1 : decide (v < 1) = false) (t2 : decide (5 < v) = false) (tw : decide (w = 32 ∨ w = 64) = true) (tc : rightB c = true) (t3 : decide (p < 1) = false) (t4 : decide (4 < p) = false) (t5 : (v == 1) = true) (t6 : decide (1 < p) = false) (hs : Sm up) (hr : Kd.C (Kd.slice 3 (Kd.int .i64)) W A up.length up) (hC : up.length ≤ C) (g0 : (checkG up != 0) = false) (tb : boundB w c p = true) :
    Calls Tryd.prog 31 #[.agg #[.int .i64 v, .int .i64 w, .int .i64 c, .int .i64 p, .int .u64 s, .slice A up.length C]] W fun e w' => e = .returned (.int .i64 9) ∧ Below W.heap.size W w' := by
  have TB := Aside0.mk tb
  have HBD := Aside0.mk (bound_ok v w c p s up (of_decide_eq_true tw) tc (by have := of_decide_eq_false t3; omega) (by have := of_decide_eq_false t4; omega))
  rw [tb] at HBD
  have HR0 := Aside0.mk (Kd.C_alloc hr (.cells #[.int .i64 v, .int .i64 w, .int .i64 c, .int .i64 p, .int .u64 s, .slice A up.length C] 25))
  have HC0 := Aside0.mk hC
  have G0 := Aside0.mk g0
  clear tb g0
  have HG := Aside0.mk (graphCheck A C up (W.alloc (.cells #[.int .i64 v, .int .i64 w, .int .i64 c, .int .i64 p, .int .u64 s, .slice A up.length C] 25)) hs (Kd.C_alloc hr _) hC)
  clear hs hr
  go_enter Tryd.func31, Tryd.ntmps31
  go_wp2_with (first | (go_at_call 65; refine (wideR _ _).mono ?_; rw [tw]; rintro e w' ⟨rfl, rfl⟩) | (go_at_call 66; refine (lapR _ _).mono ?_; rw [tc]; rintro e w' ⟨rfl, rfl⟩))
  go_at_call 67
  refine (HG.out).mono ?_
  rintro e w2 ⟨rfl, hb⟩
  have HB := Aside0.mk ((box_below W (.cells #[.int .i64 v, .int .i64 w, .int .i64 c, .int .i64 p, .int .u64 s, .slice A up.length C] 25)).trans (hb.mono (box_below W (.cells #[.int .i64 v, .int .i64 w, .int .i64 c, .int .i64 p, .int .u64 s, .slice A up.length C] 25)).size))
  have HLE := Aside0.mk (Nat.le_trans (box_below W (.cells #[.int .i64 v, .int .i64 w, .int .i64 c, .int .i64 p, .int .u64 s, .slice A up.length C] 25)).size hb.size)
  have HLT := Aside0.mk (show W.heap.size < w2.heap.size from Nat.lt_of_lt_of_le (by simp) hb.size)
  have HR := Aside0.mk (Kd.C_below HR0.out hb)
  have hc0 : w2.cell? ⟨W.heap.size, 0, none⟩ = some (.int .i64 v) := (hb.cell (by simp)).trans (fresh6 W _ _ 0 _ rfl)
  have hc1 : w2.cell? ⟨W.heap.size, 1, none⟩ = some (.int .i64 w) := (hb.cell (by simp)).trans (fresh6 W _ _ 1 _ rfl)
  have hc2 : w2.cell? ⟨W.heap.size, 2, none⟩ = some (.int .i64 c) := (hb.cell (by simp)).trans (fresh6 W _ _ 2 _ rfl)
  have hc3 : w2.cell? ⟨W.heap.size, 3, none⟩ = some (.int .i64 p) := (hb.cell (by simp)).trans (fresh6 W _ _ 3 _ rfl)
  have hc4 : w2.cell? ⟨W.heap.size, 4, none⟩ = some (.int .u64 s) := (hb.cell (by simp)).trans (fresh6 W _ _ 4 _ rfl)
  have hc5 : w2.cell? ⟨W.heap.size, 5, none⟩ = some (.slice A up.length C) := (hb.cell (by simp)).trans (fresh6 W _ _ 5 _ rfl)
  have g0 := G0.out
  clear hb
  go_wp2_with (go_at_call 68; refine (conf_bound.calls v w c p s A C up _ _ (by first | exact HR.out | exact Kd.C_drewN HR.out _) HC0.out HBD.out).mono ?_; rintro e w3 ⟨rfl, hb3⟩; have hd2 := (hb3.cell (p := ⟨W.heap.size, 2, none⟩) HLT.out).trans hc2)
  go_ret
  exact ⟨rfl, HB.out.trans (hb3.mono HLE.out)⟩
set_option maxHeartbeats 1000000 in
theorem cc_by (v w c p s : Int) (A : Option Addr) (C : Nat) (up : List (List Int)) (W : World) (t1 : decide (v < 1) = false) (t2 : decide (5 < v) = false) (tw : decide (w = 32 ∨ w = 64) = true) (tc : rightB c = true) (t3 : decide (p < 1) = false) (t4 : decide (4 < p) = false) (t5 : (v == 1) = true) (t6 : decide (1 < p) = false) (hs : Sm up) (hr : Kd.C (Kd.slice 3 (Kd.int .i64)) W A up.length up) (hC : up.length ≤ C) (g0 : (checkG up != 0) = false) (tb : boundB w c p = false) (t7 : decide (64 < c) = true) :
    Calls Tryd.prog 31 #[.agg #[.int .i64 v, .int .i64 w, .int .i64 c, .int .i64 p, .int .u64 s, .slice A up.length C]] W fun e w' => e = .returned (.int .i64 10) ∧ Below W.heap.size W w' := by
  have TB := Aside0.mk tb
  have HBD := Aside0.mk (bound_ok v w c p s up (of_decide_eq_true tw) tc (by have := of_decide_eq_false t3; omega) (by have := of_decide_eq_false t4; omega))
  rw [tb] at HBD
  have HR0 := Aside0.mk (Kd.C_alloc hr (.cells #[.int .i64 v, .int .i64 w, .int .i64 c, .int .i64 p, .int .u64 s, .slice A up.length C] 25))
  have HC0 := Aside0.mk hC
  have G0 := Aside0.mk g0
  clear tb g0
  have HG := Aside0.mk (graphCheck A C up (W.alloc (.cells #[.int .i64 v, .int .i64 w, .int .i64 c, .int .i64 p, .int .u64 s, .slice A up.length C] 25)) hs (Kd.C_alloc hr _) hC)
  clear hs hr
  go_enter Tryd.func31, Tryd.ntmps31
  go_wp2_with (first | (go_at_call 65; refine (wideR _ _).mono ?_; rw [tw]; rintro e w' ⟨rfl, rfl⟩) | (go_at_call 66; refine (lapR _ _).mono ?_; rw [tc]; rintro e w' ⟨rfl, rfl⟩))
  go_at_call 67
  refine (HG.out).mono ?_
  rintro e w2 ⟨rfl, hb⟩
  have HB := Aside0.mk ((box_below W (.cells #[.int .i64 v, .int .i64 w, .int .i64 c, .int .i64 p, .int .u64 s, .slice A up.length C] 25)).trans (hb.mono (box_below W (.cells #[.int .i64 v, .int .i64 w, .int .i64 c, .int .i64 p, .int .u64 s, .slice A up.length C] 25)).size))
  have HLE := Aside0.mk (Nat.le_trans (box_below W (.cells #[.int .i64 v, .int .i64 w, .int .i64 c, .int .i64 p, .int .u64 s, .slice A up.length C] 25)).size hb.size)
  have HLT := Aside0.mk (show W.heap.size < w2.heap.size from Nat.lt_of_lt_of_le (by simp) hb.size)
  have HR := Aside0.mk (Kd.C_below HR0.out hb)
  have hc0 : w2.cell? ⟨W.heap.size, 0, none⟩ = some (.int .i64 v) := (hb.cell (by simp)).trans (fresh6 W _ _ 0 _ rfl)
  have hc1 : w2.cell? ⟨W.heap.size, 1, none⟩ = some (.int .i64 w) := (hb.cell (by simp)).trans (fresh6 W _ _ 1 _ rfl)
  have hc2 : w2.cell? ⟨W.heap.size, 2, none⟩ = some (.int .i64 c) := (hb.cell (by simp)).trans (fresh6 W _ _ 2 _ rfl)
  have hc3 : w2.cell? ⟨W.heap.size, 3, none⟩ = some (.int .i64 p) := (hb.cell (by simp)).trans (fresh6 W _ _ 3 _ rfl)
  have hc4 : w2.cell? ⟨W.heap.size, 4, none⟩ = some (.int .u64 s) := (hb.cell (by simp)).trans (fresh6 W _ _ 4 _ rfl)
  have hc5 : w2.cell? ⟨W.heap.size, 5, none⟩ = some (.slice A up.length C) := (hb.cell (by simp)).trans (fresh6 W _ _ 5 _ rfl)
  have g0 := G0.out
  clear hb
  go_wp2_with (go_at_call 68; refine (conf_bound.calls v w c p s A C up _ _ (by first | exact HR.out | exact Kd.C_drewN HR.out _) HC0.out HBD.out).mono ?_; rintro e w3 ⟨rfl, hb3⟩; have hd2 := (hb3.cell (p := ⟨W.heap.size, 2, none⟩) HLT.out).trans hc2)
  go_ret
  exact ⟨rfl, HB.out.trans (hb3.mono HLE.out)⟩
set_option maxHeartbeats 1000000 in
theorem cc_bz (v w c p s : Int) (A : Option Addr) (C : Nat) (up : List (List Int)) (W : World) (t1 : decide (v < 1) = false) (t2 : decide (5 < v) = false) (tw : decide (w = 32 ∨ w = 64) = true) (tc : rightB c = true) (t3 : decide (p < 1) = false) (t4 : decide (4 < p) = false) (t5 : (v == 1) = true) (t6 : decide (1 < p) = false) (hs : Sm up) (hr : Kd.C (Kd.slice 3 (Kd.int .i64)) W A up.length up) (hC : up.length ≤ C) (g0 : (checkG up != 0) = false) (tb : boundB w c p = false) (t7 : decide (64 < c) = false) :
    Calls Tryd.prog 31 #[.agg #[.int .i64 v, .int .i64 w, .int .i64 c, .int .i64 p, .int .u64 s, .slice A up.length C]] W fun e w' => e = .returned (.int .i64 0) ∧ Below W.heap.size W w' := by
  have TB := Aside0.mk tb
  have HBD := Aside0.mk (bound_ok v w c p s up (of_decide_eq_true tw) tc (by have := of_decide_eq_false t3; omega) (by have := of_decide_eq_false t4; omega))
  rw [tb] at HBD
  have HR0 := Aside0.mk (Kd.C_alloc hr (.cells #[.int .i64 v, .int .i64 w, .int .i64 c, .int .i64 p, .int .u64 s, .slice A up.length C] 25))
  have HC0 := Aside0.mk hC
  have G0 := Aside0.mk g0
  clear tb g0
  have HG := Aside0.mk (graphCheck A C up (W.alloc (.cells #[.int .i64 v, .int .i64 w, .int .i64 c, .int .i64 p, .int .u64 s, .slice A up.length C] 25)) hs (Kd.C_alloc hr _) hC)
  clear hs hr
  go_enter Tryd.func31, Tryd.ntmps31
  go_wp2_with (first | (go_at_call 65; refine (wideR _ _).mono ?_; rw [tw]; rintro e w' ⟨rfl, rfl⟩) | (go_at_call 66; refine (lapR _ _).mono ?_; rw [tc]; rintro e w' ⟨rfl, rfl⟩))
  go_at_call 67
  refine (HG.out).mono ?_
  rintro e w2 ⟨rfl, hb⟩
  have HB := Aside0.mk ((box_below W (.cells #[.int .i64 v, .int .i64 w, .int .i64 c, .int .i64 p, .int .u64 s, .slice A up.length C] 25)).trans (hb.mono (box_below W (.cells #[.int .i64 v, .int .i64 w, .int .i64 c, .int .i64 p, .int .u64 s, .slice A up.length C] 25)).size))
  have HLE := Aside0.mk (Nat.le_trans (box_below W (.cells #[.int .i64 v, .int .i64 w, .int .i64 c, .int .i64 p, .int .u64 s, .slice A up.length C] 25)).size hb.size)
  have HLT := Aside0.mk (show W.heap.size < w2.heap.size from Nat.lt_of_lt_of_le (by simp) hb.size)
  have HR := Aside0.mk (Kd.C_below HR0.out hb)
  have hc0 : w2.cell? ⟨W.heap.size, 0, none⟩ = some (.int .i64 v) := (hb.cell (by simp)).trans (fresh6 W _ _ 0 _ rfl)
  have hc1 : w2.cell? ⟨W.heap.size, 1, none⟩ = some (.int .i64 w) := (hb.cell (by simp)).trans (fresh6 W _ _ 1 _ rfl)
  have hc2 : w2.cell? ⟨W.heap.size, 2, none⟩ = some (.int .i64 c) := (hb.cell (by simp)).trans (fresh6 W _ _ 2 _ rfl)
  have hc3 : w2.cell? ⟨W.heap.size, 3, none⟩ = some (.int .i64 p) := (hb.cell (by simp)).trans (fresh6 W _ _ 3 _ rfl)
  have hc4 : w2.cell? ⟨W.heap.size, 4, none⟩ = some (.int .u64 s) := (hb.cell (by simp)).trans (fresh6 W _ _ 4 _ rfl)
  have hc5 : w2.cell? ⟨W.heap.size, 5, none⟩ = some (.slice A up.length C) := (hb.cell (by simp)).trans (fresh6 W _ _ 5 _ rfl)
  have g0 := G0.out
  clear hb
  go_wp2_with (go_at_call 68; refine (conf_bound.calls v w c p s A C up _ _ (by first | exact HR.out | exact Kd.C_drewN HR.out _) HC0.out HBD.out).mono ?_; rintro e w3 ⟨rfl, hb3⟩; have hd2 := (hb3.cell (p := ⟨W.heap.size, 2, none⟩) HLT.out).trans hc2)
  go_ret
  exact ⟨rfl, HB.out.trans (hb3.mono HLE.out)⟩
theorem confCheck (v w c p s : Int) (A : Option Addr) (C : Nat) (up : List (List Int)) (W : World) (hs : Sm up) (hr : Kd.C (Kd.slice 3 (Kd.int .i64)) W A up.length up) (hC : up.length ≤ C) :
    Calls Tryd.prog 31 #[.agg #[.int .i64 v, .int .i64 w, .int .i64 c, .int .i64 p, .int .u64 s, .slice A up.length C]] W fun e w' => e = .returned (.int .i64 (checkC v w c p up)) ∧ Below W.heap.size W w' := by
  unfold checkC
  by_cases h1 : v < 1
  · rw [if_pos (.inl h1)]; exact cc_v1 v w c p s A C up W (decide_eq_true h1)
  have t1 := decide_eq_false h1
  by_cases h2 : 5 < v
  · rw [if_pos (.inr h2)]; exact cc_v5 v w c p s A C up W t1 (decide_eq_true h2)
  have t2 := decide_eq_false h2
  rw [if_neg (show ¬ (v < 1 ∨ 5 < v) by omega)]
  by_cases h3 : w = 32 ∨ w = 64
  · have tw := decide_eq_true h3
    rw [if_neg (not_not_intro h3)]
    cases tc : rightB c with
    | false => rw [if_pos rfl]; exact cc_c v w c p s A C up W t1 t2 tw tc
    | true =>
      rw [if_neg ntf]
      by_cases h4 : p < 1
      · rw [if_pos (.inl h4)]; exact cc_p1 v w c p s A C up W t1 t2 tw tc (decide_eq_true h4)
      have t3 := decide_eq_false h4
      by_cases h5 : 4 < p
      · rw [if_pos (.inr (.inl h5))]; exact cc_p4 v w c p s A C up W t1 t2 tw tc t3 (decide_eq_true h5)
      have t4 := decide_eq_false h5
      by_cases h6 : v = 1 ∧ 1 < p
      · rw [if_pos (.inr (.inr h6))]; exact cc_p1v v w c p s A C up W t1 t2 tw tc t3 t4 (beq_iff_eq.2 h6.1) (decide_eq_true h6.2)
      rw [if_neg (show ¬ (p < 1 ∨ 4 < p ∨ (v = 1 ∧ 1 < p)) by omega)]
      by_cases h7 : v = 1
      · have t5 := beq_iff_eq.2 h7
        have t6 : decide (1 < p) = false := decide_eq_false (fun h => h6 ⟨h7, h⟩)
        by_cases hg : checkG up = 0
        · rw [if_neg (not_not_intro hg)]
          have g0 : (checkG up != 0) = false := by simpa using hg
          cases tb : boundB w c p with
          | true => rw [if_pos rfl]; exact cc_bx v w c p s A C up W t1 t2 tw tc t3 t4 t5 t6 hs hr hC g0 tb
          | false =>
            rw [if_neg nf]
            by_cases h8 : 64 < c
            · rw [if_pos h8]; exact cc_by v w c p s A C up W t1 t2 tw tc t3 t4 t5 t6 hs hr hC g0 tb (decide_eq_true h8)
            · rw [if_neg h8]; exact cc_bz v w c p s A C up W t1 t2 tw tc t3 t4 t5 t6 hs hr hC g0 tb (decide_eq_false h8)
        · rw [if_pos hg]; exact cc_gb v w c p s A C up W t1 t2 tw tc t3 t4 t5 t6 hs hr hC (by simpa using hg)
      · have t5 := beq_eq_false_iff_ne.2 h7
        by_cases hg : checkG up = 0
        · rw [if_neg (not_not_intro hg)]
          have g0 : (checkG up != 0) = false := by simpa using hg
          cases tb : boundB w c p with
          | true => rw [if_pos rfl]; exact cc_ax v w c p s A C up W t1 t2 tw tc t3 t4 t5 hs hr hC g0 tb
          | false =>
            rw [if_neg nf]
            by_cases h8 : 64 < c
            · rw [if_pos h8]; exact cc_ay v w c p s A C up W t1 t2 tw tc t3 t4 t5 hs hr hC g0 tb (decide_eq_true h8)
            · rw [if_neg h8]; exact cc_az v w c p s A C up W t1 t2 tw tc t3 t4 t5 hs hr hC g0 tb (decide_eq_false h8)
        · rw [if_pos hg]; exact cc_ga v w c p s A C up W t1 t2 tw tc t3 t4 t5 hs hr hC (by simpa using hg)
  · rw [if_pos h3]; exact cc_w v w c p s A C up W t1 t2 (decide_eq_false h3)
end Go.Proofs.YtgibmlbdkijflaaDoor.QGc
namespace Go.Proofs.YtgibmlbdkijflaaDoor.QCf
open Go.RowKit Go.Proofs.YtgibmlbdkijflaaDoorW.PrintWords Go.Proofs.YtgibmlbdkijflaaDoor.Graph Go.Proofs.YtgibmlbdkijflaaDoor.QGc
end Go.Proofs.YtgibmlbdkijflaaDoor.QCf
