/- Groups of small numbers: Full, Without, Least, Next, All and List, walked; what List answers: the group's members, rising. Asked: the library's table of the numbers of trailing zeros lies as laid. -/
import Derived.Test.YtgibmlbdkijflaaDoorGrap
import Derived.RangeFuncBox
import Derived.RangeFuncLeaves
import Derived.Shelf.Abstract
import Derived.OwnWalkIn
import Derived.TacticsInMore
import Derived.LoopNIn
import Derived.LoopIn
import Derived.Maps.AppendAt
set_option linter.unusedVariables false
set_option linter.unusedSimpArgs false
set_option maxRecDepth 100000
namespace Go.Proofs.YtgibmlbdkijflaaDoor.Graph
open Go.RowKit Go.Shelf Go.Proofs.YtgibmlbdkijflaaDoorW.PrintWords
attribute [local go_sem] Oper.semAt_some
def dB : List Nat := [0, 1, 56, 2, 57, 49, 28, 3, 61, 58, 42, 50, 38, 29, 17, 4, 62, 47, 59, 36, 45, 43, 51, 22, 53, 39, 33, 30, 24, 18, 12, 5, 63, 55, 48, 27, 60, 41, 37, 16, 46, 35, 44, 21, 52, 32, 23, 11, 54, 26, 40, 15, 34, 20, 31, 10, 25, 14, 19, 9, 13, 8, 7, 6]
def Tabled (w : World) : Prop := ∀ j, j < 64 → w.cell? ⟨0, j, none⟩ = some (.int .u8 ((dB.getD j 0 : Nat) : Int))
theorem Tabled.below {w w' : World} (h : Tabled w) (b : Below w.heap.size w w') : Tabled w' := fun j hj => (b.cell (World.block_lt_of_cell? w _ (h j hj))).trans (h j hj)
def low (m : Nat) : Nat := ((List.range 6).find? (m.testBit ·)).getD 0
def kx (m : Nat) : Nat := (IntKind.u64.wrap (Go.bits .and .u64 (m : Int) (IntKind.u64.wrap (-(m : Int))) * 285870213051353865) / 288230376151711744).toNat
theorem kx_all : ∀ m : Nat, m < 64 → m ≠ 0 → IntKind.u64.wrap (Go.bits .and .u64 (m : Int) (IntKind.u64.wrap (-(m : Int))) * 285870213051353865) / 288230376151711744 = ((kx m : Nat) : Int) ∧ kx m < 64 ∧ dB.getD (kx m) 0 = low m ∧ low m < 6 := by decide +kernel
set_option maxHeartbeats 1000000 in
theorem tz_core (m k idx : Nat) (w : World) (hx0 : ((m : Int) == 0) = false)
    (key : IntKind.u64.wrap (Go.bits BinOp.and IntKind.u64 (m : Int) (IntKind.u64.wrap (-(m : Int))) * 285870213051353865) / 288230376151711744 = (idx : Int))
    (hi : idx < 64) (hk : k < 64) (hcell : w.cell? ⟨0, idx, none⟩ = some (.int .u8 k)) :
    Calls Tryd.prog 146 #[.int .u64 m] w fun e w' => e = .returned (.int .i64 k) ∧ w = w' := by
  go_enter Tryd.func146, Tryd.ntmps146
  go_wp2_with (simp only [key])
  go_ret
  exact ⟨rfl, rfl⟩
theorem tz (m : Nat) (hm : m < 64) (h0 : m ≠ 0) (w : World) (hT : Tabled w) : Calls Tryd.prog 146 #[.int .u64 m] w fun e w' => e = .returned (.int .i64 (low m)) ∧ w = w' := by
  obtain ⟨key, hi, ht, hl⟩ := kx_all m hm h0
  have hcell := hT (kx m) hi
  rw [ht] at hcell
  exact tz_core m (low m) (kx m) w (by simpa using h0) key hi (by omega) hcell
theorem least0 (w : World) : Calls Tryd.prog 133 #[.int .u64 ((0 : Nat) : Int)] w fun e w' => e = .returned (.tuple #[.int .i64 0, .bool false]) ∧ w = w' := by
  go_enter Tryd.func133, Tryd.ntmps133
  go_wp2
  refine bodyPost_ret (results_tmp2 rfl _ _ _) rfl ?_
  exact ⟨rfl, rfl⟩
theorem least1 (m : Nat) (hm : m < 64) (h0 : m ≠ 0) (w : World) (hT : Tabled w) : Calls Tryd.prog 133 #[.int .u64 m] w fun e w' => e = .returned (.tuple #[.int .i64 (low m), .bool true]) ∧ w = w' := by
  have hx0 : ((m : Int) == 0) = false := by simpa using h0
  go_enter Tryd.func133, Tryd.ntmps133
  go_wp2_with (go_at_call 146; refine (tz m hm h0 _ hT).mono ?_; rintro e w' ⟨rfl, rfl⟩)
  refine bodyPost_ret (results_tmp2 rfl _ _ _) rfl ?_
  exact ⟨rfl, rfl⟩
theorem shl_all : ∀ n, n < 7 → 0 < n → IntKind.u64.wrap (IntKind.u64.wrap (2 ^ n) - 1) = ((2 ^ n - 1 : Nat) : Int) := by decide +kernel
theorem full (n : Nat) (hn : n ≤ 6) (w : World) : Calls Tryd.prog 69 #[.int .i64 n] w fun e w' => e = .returned (.int .u64 ((2 ^ n - 1 : Nat) : Int)) ∧ w = w' := by
  by_cases h0 : n = 0
  · subst h0
    go_enter Tryd.func69, Tryd.ntmps69
    go_wp2
    go_ret
    exact ⟨rfl, rfl⟩
  · have h1 : decide ((n : Int) ≤ 0) = false := decide_eq_false (by omega)
    have h1' : n ≠ 0 := h0
    have h2 : decide (64 ≤ (n : Int)) = false := decide_eq_false (by omega)
    have h3 := shl_all n (by omega) (by omega)
    have h4 : decide (64 ≤ n) = false := decide_eq_false (by omega)
    have h5 : decide (n ≤ 0) = false := decide_eq_false (by omega)
    have h6 : ¬ (n : Int) < 0 := by omega
    go_enter Tryd.func69, Tryd.ntmps69
    go_wp2_with (simp only [h3])
    go_ret
    exact ⟨rfl, rfl⟩
def clr1 (m u : Nat) : Nat := if m.testBit u then m - 2 ^ u else m
theorem without_all : ∀ m : Nat, m < 64 → ∀ u, u < 6 → Go.bits .andNot .u64 (m : Int) (IntKind.u64.wrap (2 ^ u)) = ((clr1 m u : Nat) : Int) := by decide +kernel
theorem clr1_lt : ∀ m : Nat, m < 64 → ∀ u, u < 6 → clr1 m u < 64 ∧ ∀ x, x < 6 → (clr1 m u).testBit x = (m.testBit x && !decide (u = x)) := by decide +kernel
theorem without (m u : Nat) (w : World) (hm : m < 64) (hu : u < 6) : Calls Tryd.prog 70 #[.int .u64 m, .int .i64 u] w fun e w' => e = .returned (.int .u64 ((clr1 m u : Nat) : Int)) ∧ w = w' := by
  have hb := without_all m hm u hu
  have h1 : ¬ (u : Int) < 0 := by omega
  go_enter Tryd.func70, Tryd.ntmps70
  go_wp2_with (first | (go_at_call 108; refine (inG _ _ (by omega) (by omega)).mono ?_; rintro e w' ⟨rfl, rfl⟩) | (simp only [hb]))
  go_ret
  exact ⟨rfl, rfl⟩
def cutB (m k : Nat) : Nat := m / 2 ^ k * 2 ^ k
theorem cut_all : ∀ m : Nat, m < 64 → ∀ i, i < 6 → Go.bits .andNot .u64 (m : Int) ((2 ^ (i + 1) - 1 : Nat) : Int) = ((cutB m (i + 1) : Nat) : Int) := by decide +kernel
def memF (m k : Nat) : List Nat := (List.range 6).filter (fun j => decide (k ≤ j) && m.testBit j)
theorem mem_step : ∀ m : Nat, m < 64 → ∀ k, k < 7 → cutB m k < 64 ∧ (memF m k = [] → cutB m k = 0) ∧ (memF m k ≠ [] → cutB m k ≠ 0 ∧ low (cutB m k) < 6 ∧ memF m k = low (cutB m k) :: memF m (low (cutB m k) + 1)) := by decide +kernel
theorem next0 (m i : Nat) (hm : m < 64) (hi : i < 6) (h0 : cutB m (i + 1) = 0) (w : World) : Calls Tryd.prog 134 #[.int .u64 m, .int .i64 i] w fun e w' => e = .returned (.tuple #[.int .i64 0, .bool false]) ∧ w = w' := by
  have hb := cut_all m hm i hi
  rw [h0] at hb
  have h1 : decide (63 ≤ (i : Int)) = false := decide_eq_false (by omega)
  have h2 : decide (63 ≤ i) = false := decide_eq_false (by omega)
  have h3 : ¬ (i : Int) < -1 := by omega
  have h4 : IntKind.i64.wrap ((i : Int) + 1) = ((i + 1 : Nat) : Int) := by rw [IntKind.wrap_i64]; omega
  go_enter Tryd.func134, Tryd.ntmps134
  go_wp2_with (first | (go_at_call 69; refine (full (i + 1) (by omega) _).mono ?_; rintro e w' ⟨rfl, rfl⟩) | (simp only [hb]) | (go_at_call 133; refine (least0 _).mono ?_; rintro e w' ⟨rfl, rfl⟩) | (simp only [h4]))
  refine bodyPost_ret (results_tmp2 rfl _ _ _) rfl ?_
  exact ⟨rfl, rfl⟩
theorem next1 (m i : Nat) (hm : m < 64) (hi : i < 6) (hc : cutB m (i + 1) < 64) (h0 : cutB m (i + 1) ≠ 0) (w : World) (hT : Tabled w) : Calls Tryd.prog 134 #[.int .u64 m, .int .i64 i] w fun e w' => e = .returned (.tuple #[.int .i64 (low (cutB m (i + 1))), .bool true]) ∧ w = w' := by
  have hb := cut_all m hm i hi
  have h1 : decide (63 ≤ (i : Int)) = false := decide_eq_false (by omega)
  have h2 : decide (63 ≤ i) = false := decide_eq_false (by omega)
  have h3 : ¬ (i : Int) < -1 := by omega
  have h4 : IntKind.i64.wrap ((i : Int) + 1) = ((i + 1 : Nat) : Int) := by rw [IntKind.wrap_i64]; omega
  obtain ⟨q, hq⟩ : ∃ q, cutB m (i + 1) = q := ⟨_, rfl⟩
  rw [hq] at hb hc h0 ⊢
  go_enter Tryd.func134, Tryd.ntmps134
  go_wp2_with (first | (go_at_call 69; refine (full (i + 1) (by omega) _).mono ?_; rintro e w' ⟨rfl, rfl⟩) | (simp only [hb]) | (go_at_call 133; refine (least1 q hc h0 _ hT).mono ?_; rintro e w' ⟨rfl, rfl⟩) | (simp only [h4]))
  refine bodyPost_ret (results_tmp2 rfl _ _ _) rfl ?_
  exact ⟨rfl, rfl⟩
end Go.Proofs.YtgibmlbdkijflaaDoor.Graph
set_option linter.unusedVariables false
set_option linter.unusedSimpArgs false
set_option maxRecDepth 100000
namespace Go.Proofs.YtgibmlbdkijflaaDoor.Graph
open Go.RowKit Go.Shelf Go.Proofs.YtgibmlbdkijflaaDoorW.PrintWords
attribute [local go_sem] Oper.semAt_some
def st (m k : Nat) : Nat × Bool := if memF m k = [] then (0, false) else (low (cutB m k), true)
theorem cut_zero (m : Nat) : cutB m 0 = m := by simp [cutB]
theorem leastS (m : Nat) (hm : m < 64) (w : World) (hT : Tabled w) : Calls Tryd.prog 133 #[.int .u64 m] w fun e w' => e = .returned (.tuple #[.int .i64 (st m 0).1, .bool (st m 0).2]) ∧ w = w' := by
  obtain ⟨h1, h2, h3⟩ := mem_step m hm 0 (by omega)
  rw [cut_zero] at h1 h2 h3
  unfold st
  split
  · next h =>
    have := h2 h
    subst this
    exact least0 w
  · next h =>
    rw [cut_zero]
    exact least1 m hm (h3 h).1 w hT
theorem nextS (m i : Nat) (hm : m < 64) (hi : i < 6) (w : World) (hT : Tabled w) : Calls Tryd.prog 134 #[.int .u64 m, .int .i64 i] w fun e w' => e = .returned (.tuple #[.int .i64 (st m (i + 1)).1, .bool (st m (i + 1)).2]) ∧ w = w' := by
  obtain ⟨h1, h2, h3⟩ := mem_step m hm (i + 1) (by omega)
  unfold st
  split
  · next h => exact next0 m i hm hi (h2 h) w
  · next h => exact next1 m i hm hi h1 (h3 h).1 w hT
def KB (n₀ Bn : Nat) (A B : World) : Prop := Below n₀ A B ∧ B.heap[Bn]? = A.heap[Bn]?
theorem KB.trans {n₀ Bn : Nat} {A B C : World} (h : KB n₀ Bn A B) (k : KB n₀ Bn B C) : KB n₀ Bn A C := ⟨h.1.trans k.1, k.2.trans h.2⟩
theorem KB.cell {n₀ Bn : Nat} {A B : World} (h : KB n₀ Bn A B) {v : Value} (hc : A.cell? ⟨Bn, 0, none⟩ = some v) : B.cell? ⟨Bn, 0, none⟩ = some v := by
  rw [← hc]; simp only [World.cell?, h.2]
set_option maxHeartbeats 1000000 in
theorem all1_in (n : Nat) (hn : 1 ≤ n) (l Bn n₀ m : Nat) (hm : m < 64) (J Jx : List Nat → World → Prop)
    (hY : ∀ pre (x : Nat) W, J pre W → pre.length < (memF m 0).length → YieldAt Fence.wide (n - 1) Tryd.prog l #[.int .i64 x] W fun e W' =>
      (e = .returned (.bool true) ∧ J (pre ++ [x]) W' ∧ KB n₀ Bn W W') ∨ (e = .returned (.bool false) ∧ Jx (pre ++ [x]) W'))
    (W : World) (hBn : W.cell? ⟨Bn, 0, none⟩ = some (.int .u64 m)) (hn0 : 0 < n₀) (hT : Tabled W) (h0 : J [] W) :
    CallsIn Fence.wide n Tryd.prog 132 #[.func (.yield l) #[] #[], .pointer (some ⟨Bn, 0, none⟩)] W fun e W' => (∃ v, e = .returned v) ∧
      ((∃ ys, ys = memF m 0 ∧ J ys W') ∨ (∃ pre, pre <+: memF m 0 ∧ Jx pre W')) := by
  have htab : ∀ W', Below n₀ W W' → Tabled W' := fun W' hb j hj => (hb.cell (p := ⟨0, j, none⟩) (by simp only; omega)).trans (hT j hj)
  have h43 : Fence.wide.fn 133 := trivial
  have h44 : Fence.wide.fn 134 := trivial
  refine callsIn_of_wp Tryd.func132 rfl trivial ?_ rfl
  simp only [Tryd.ntmps132, List.size_toArray, List.length_cons, List.length_nil, Nat.reduceAdd, Nat.reduceSub, Array.replicate_succ, Array.replicate_zero, List.push_toArray, List.append_toArray, List.nil_append, List.cons_append]
  gi_wp2_with (gi_at_call 133; refine (callsIn_wide.2 (leastS m hm _ hT)).mono ?_; rintro e w' ⟨rfl, rfl⟩)
  gi_loopw [3, 4] (fun x y wr => ∃ (pre : List Nat) (k : Nat), k < 7 ∧ x = .int .i64 (st m k).1 ∧ y = .bool (st m k).2 ∧ memF m 0 = pre ++ memF m k ∧ KB n₀ Bn W wr ∧ J pre wr)
    (fun x y wr => match y with | .bool true => 7 - (intOf x).toNat | _ => 0)
  case atStart => exact ⟨[], 0, by omega, rfl, rfl, rfl, ⟨Below.refl _ _, rfl⟩, h0⟩
  case round =>
    obtain ⟨pre, k, hk, rfl, rfl, hx, hb, hJ⟩ := hrel
    obtain ⟨hc1, hc2, hc3⟩ := mem_step m hm k hk
    by_cases he : memF m k = []
    · have hst : st m k = (0, false) := by unfold st; rw [if_pos he]
      rw [hst]
      gi_wp2
      refine ⟨(by intro f h; cases h), ?_⟩
      go_at_K
      gi_wp2
      go_end0
      exact ⟨⟨_, rfl⟩, .inl ⟨pre, by simp [hx, he], hJ⟩⟩
    · have hst : st m k = (low (cutB m k), true) := by unfold st; rw [if_neg he]
      obtain ⟨h4, h5, h6⟩ := hc3 he
      obtain ⟨i, hi⟩ : ∃ i, low (cutB m k) = i := ⟨_, rfl⟩
      rw [hi] at hst h5 h6
      rw [hst]
      obtain ⟨fn, tmps, assign, body, hy, hR⟩ := hY pre i wr hJ (by rw [hx, h6]; simp)
      clear hc1 hc2 hc3 he h4
      gi_wp2
      refine hR.mono ?_
      rintro e W3 (⟨rfl, hJ3, hk3⟩ | ⟨rfl, hJx3⟩)
      · have hb3 : KB n₀ Bn W W3 := hb.trans hk3
        have hcell : W3.cell? ⟨Bn, 0, none⟩ = some (.int .u64 m) := hb3.cell hBn
        gi_wp2_with (gi_at_call 134; refine (callsIn_wide.2 (nextS m i hm h5 _ (htab _ hb3.1))).mono ?_; rintro e w' ⟨rfl, rfl⟩)
        go_roundw
        case rel => exact ⟨pre ++ [i], i + 1, by omega, rfl, rfl, by rw [hx, h6]; simp, hb3, hJ3⟩
        case measure =>
          obtain ⟨_, _, g3⟩ := mem_step m hm (i + 1) (by omega)
          by_cases he2 : memF m (i + 1) = []
          · have : st m (i + 1) = (0, false) := by unfold st; rw [if_pos he2]
            rw [this]
            simp [intOf]; omega
          · obtain ⟨_, g5, g6⟩ := g3 he2
            have e2 : st m (i + 1) = (low (cutB m (i + 1)), true) := by unfold st; rw [if_neg he2]
            have hge : i + 1 ≤ low (cutB m (i + 1)) := by
              have hmem : low (cutB m (i + 1)) ∈ memF m (i + 1) := by rw [g6]; exact List.mem_cons_self ..
              unfold memF at hmem
              rw [List.mem_filter] at hmem
              have := hmem.2
              simp only [Bool.and_eq_true, decide_eq_true_eq] at this
              exact this.1
            rw [e2]
            simp [intOf]; omega
      · gi_wp2
        go_end0
        exact ⟨⟨_, rfl⟩, .inr ⟨pre ++ [i], ⟨memF m (i + 1), by rw [hx, h6]; simp⟩, hJx3⟩⟩
set_option maxHeartbeats 1000000 in
theorem all_in (n m : Nat) (w : World) :
    CallsIn Fence.wide n Tryd.prog 109 #[.int .u64 m] w fun e w' => e = .returned (.func (.func 132) #[] #[.pointer (some ⟨w.heap.size, 0, none⟩)]) ∧ w' = w.alloc (.cells #[.int .u64 m] 104) := by
  refine callsIn_of_wp Tryd.func109 rfl trivial ?_ rfl
  simp only [Tryd.ntmps109, List.size_toArray, List.length_cons, List.length_nil, Nat.reduceAdd, Nat.reduceSub, Array.replicate_succ, Array.replicate_zero, List.push_toArray, List.append_toArray, List.nil_append, List.cons_append]
  gi_wp2
  go_ret
  exact ⟨rfl, rfl⟩
theorem all_stops (n : Nat) (hn : 1 ≤ n) (Bn n₀ m : Nat) (hm : m < 64) (w : World) (hn0 : 0 < n₀) (hBn : Bn < w.heap.size) (hc : w.cell? ⟨Bn, 0, none⟩ = some (.int .u64 m)) (hT : Tabled w) :
    SeqStopsK Fence.wide n Tryd.prog 132 #[.pointer (some ⟨Bn, 0, none⟩)] (fun x : Nat => #[Value.int .i64 x]) (KB n₀ Bn) (fun ys => ys = memF m 0) (fun pre => pre <+: memF m 0) (memF m 0).length w := fun l J Jx W hW _ _ hY h0 =>
  all1_in n hn l Bn n₀ m hm J Jx hY W ((hW.cell (p := ⟨Bn, 0, none⟩) hBn).trans hc) hn0 (hT.below hW) h0
theorem boxed_own' {β : Type} (B : Nat) (t : TypeId) (v : Value) : Own (fun (_ : β) W => Boxed W B t v) := by
  intro s X Y row h hg hrow
  exact h.kept hg (fun e' => by
    obtain ⟨o, ho, hc⟩ := hrow B e'.symm
    rw [show X.heap[B]? = _ from h] at ho; cases ho; cases hc)
theorem info3 : (Tryd.prog.info? 3).map (fun i => (i.zero, i.size, i.bytes)) = some (some (.int .i64 0), 1, 8) := by kernel_rfl
theorem memF_len (m : Nat) : (memF m 0).length ≤ 6 := by unfold memF; exact Nat.le_trans (List.length_filter_le _ _) (by simp)
set_option maxHeartbeats 2000000 in
theorem list_in (n m : Nat) (hn : 3 ≤ n) (hm : m < 64) (w : World) (hT : Tabled w) :
    CallsIn Fence.wide n Tryd.prog 71 #[.int .u64 m] w fun e W' => ∃ v, e = .returned v ∧ W'.ownsRow w.heap.size 3 1 v (memF m 0).length ((memF m 0).map fun (x : Nat) => Value.int .i64 (x : Int)) ∧ Below w.heap.size w W' := by
  have h1 : 1 ≤ n := by omega
  have hlen0 := memF_len m
  have hlen : (memF m 0).length ≤ maxLen := Nat.le_trans hlen0 (by decide)
  have hbytes : (memF m 0).length * 8 ≤ 140737488355328 := by omega
  clear hlen0
  obtain ⟨i0, hi, hz0, hz1, hz2⟩ := info_parts info3
  have h35 : Fence.wide.fn 109 := trivial
  have h42 : Fence.wide.fn 132 := trivial
  refine callsIn_of_wp_marks Tryd.func71 rfl trivial ?_ rfl
  simp only [Tryd.ntmps71, List.size_toArray, List.length_cons, List.length_nil, Nat.reduceAdd, Nat.reduceSub, Array.replicate_succ, Array.replicate_zero, List.push_toArray, List.append_toArray, List.nil_append, List.cons_append]
  gi_wp2_with (gi_at_call 109; refine (all_in (n - 1) _ _).mono ?_; rintro e w' ⟨rfl, rfl⟩)
  have bO := Boxed.new w 37 (.slice none 0 0)
  have bN := Boxed.new (w.alloc (.cells #[.slice none 0 0] 37)) 104 (.int .u64 m)
  rw [World.size_alloc] at bN
  have hB0 : Below w.heap.size w ((w.alloc (.cells #[.slice none 0 0] 37)).alloc (.cells #[.int .u64 m] 104)) := ((Below.refl _ w).alloc (Nat.le_refl _) _).alloc (by simp) _
  have hTb : Tabled ((w.alloc (.cells #[.slice none 0 0] 37)).alloc (.cells #[.int .u64 m] 104)) := hT.below hB0
  refine wpIn_rangeFunc_ownG rfl h1 (gf := 132) (lb := #[.pointer (some ⟨w.heap.size + 1, 0, none⟩)]) rfl h42 (enters_of Tryd.func132 (by kernel_rfl) rfl)
    (all_stops (n - 1) (by omega) (w.heap.size + 1) w.heap.size m hm _ (by have := World.block_lt_of_cell? w _ (hT 0 (by omega)); simp only at this; omega) (by simp) bN.cell hTb) KB.trans (fun W l o o' hl h h1 h2 => ⟨belowK_b (n₀ := w.heap.size) (by simp; omega) W l o o' hl h h1 h2, (belowK_b (n₀ := w.heap.size + 2) (by simp) W l o o' hl h h1 h2).block _ (by omega)⟩) (Below.refl _ _) (fun _ => rfl)
    (fun pre W => (∃ v, Boxed W w.heap.size 37 v ∧ W.ownsRow w.heap.size 3 1 v pre.length (pre.map (fun (x : Nat) => Value.int .i64 (x : Int))) ∧ (v = .slice none 0 0 ↔ pre = [])) ∧ Boxed W (w.heap.size + 1) 104 (.int .u64 m) ∧ Below w.heap.size w W)
    (fun _ _ _ => False)
    (OwnFrom.and (Own.from (holdsRow_own w.heap.size w.heap.size 37 3 1 (fun pre => pre.length) (fun pre => pre.map (fun (x : Nat) => Value.int .i64 (x : Int))) (fun pre v => v = .slice none 0 0 ↔ pre = [])) _) (OwnFrom.and (Own.from (boxed_own' _ _ _) _) (ownFrom_below (Nat.le_refl _) (by simp; omega))))
    (fun _ _ _ _ _ hs _ _ => hs)
    ⟨⟨_, bO.alloc _, World.ownsRow_nil _ _ _ _, by simp⟩, bN, hB0⟩
    (fun (x : Nat) => { tmps := #[.int .u64 m, undef, .slice none 0 0, .pointer (some ⟨w.heap.size, 0, none⟩), .int .i64 x, .int .u64 m, .func (.func 132) #[] #[.pointer (some ⟨w.heap.size + 1, 0, none⟩)], .int .i64 x, undef, undef, undef, undef, undef], defers := [] }) ?assign ?body ?done ?stop
  case assign =>
    intro l x W K hK
    gi_wp2
    exact hK
  case body =>
    rintro l pre x W ⟨⟨v, hv, hrow, hnil⟩, hbn, hB⟩ hlt
    have hc := hv.cell
    gi_wp2_with (gi_at_builtin; refine wpListIn_append_own _ rfl _ _ 37 rfl w.heap.size 3 i0 (.int .i64 0) 1 8 Tryd.underlying37 hi hz0 hz1 hz2 rfl (by decide) _ _ _ rfl (hrow.alloc _) ⟨W.heap.size, 0, none⟩ 1 1 [.int .i64 x] rfl rfl (cell_one_new _ _ _) (by simp [Value.oneCell']) (by omega) (by omega) (by have := hB.size; simp; omega) ?_; intro v' w1 hown' hgrow _; obtain ⟨g', cap', rfl⟩ := ownsRow_succ hown'; obtain ⟨hv1, hv2, hr2, hk2, hb2⟩ := hv.appended (by decide) hrow hB.size (Nat.le_refl _) hown' hgrow; have hbn2 := ((hbn.alloc _).kept hgrow (hbn.not_row (by decide) hrow)).kept (grownBy_setCell' w1 w.heap.size (.slice (some ⟨g', 0, none⟩) (pre.length + 1) cap')) (by simp); have hc1 := hv1.cell; have hf1 := hv1.frozen)
    exact ⟨hk2.from _, ⟨hb2, hbn2.trans hbn.symm⟩, ⟨_, hv2, by simpa using hr2, by simp⟩, hbn2, hB.trans hb2⟩
  case done =>
    rintro D ys W hD rfl ⟨⟨v, hv, hrow, hnil⟩, _, hB⟩ hK
    have hc := hv.cell
    gi_wp2
    refine ⟨by simp, .inl ⟨_, _, rfl, run_takeDeferred hK, ?_⟩⟩
    exact ⟨_, results_tmp rfl _ _ _, v, rfl, ownsRow_putObj hrow _ hK rfl, hB.trans (belowK_b (w := w) (Nat.le_refl _) W D _ _ (by simp at hD; omega) hK rfl rfl)⟩
  case stop =>
    rintro D c pre W _ _ h _
    exact h.elim
def memI (m : Nat) : List Int := (memF m 0).map fun (x : Nat) => (x : Int)
theorem list_calls (m : Nat) (hm : m < 64) (w : World) (hT : Tabled w) :
    Calls Tryd.prog 71 #[.int .u64 m] w fun e w' => ∃ A c, e = .returned (.slice A (memI m).length c) ∧ (memI m).length ≤ c ∧ Kd.C (Kd.int .i64) w' A (memI m).length (memI m) ∧ Below w.heap.size w w' :=
  (callsIn_wide.1 (list_in 3 m (by omega) hm w hT)).mono fun e w' ⟨v, he, hrow, hb⟩ => by
    have hR : Kd.R (Kd.int .i64) 3 w' w.heap.size (fun _ => True) v (memI m) := ⟨fun _ _ => trivial, by
      have h1 := Kd.reps_scalar (enc := Value.int .i64) (memI m)
      refine ⟨_, ?_, h1⟩
      have e1 : encs (Value.int .i64) (memI m) = (memF m 0).map fun (x : Nat) => Value.int .i64 (x : Int) := by
        simp [encs, memI]
      rw [e1]
      have e2 : (memI m).length = (memF m 0).length := by simp [memI]
      rw [e2]
      exact hrow⟩
    obtain ⟨A, c, rfl, h1, h2⟩ := Kd.R_reads hR
    exact ⟨A, c, he, h1, h2, hb⟩
end Go.Proofs.YtgibmlbdkijflaaDoor.Graph
