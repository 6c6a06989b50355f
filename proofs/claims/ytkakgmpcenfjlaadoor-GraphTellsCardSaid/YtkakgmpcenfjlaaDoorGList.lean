/- Groups of small numbers: Full, Without, Least, Next, All and List, walked; what List answers: the group's members, rising. Asked: the library's table of the numbers of trailing zeros lies as laid. -/
import Derived.Test.YtkakgmpcenfjlaaDoorAbove
import Derived.RangeFuncBox
import Derived.RangeFuncLeaves
import Derived.Shelf.Abstract
import Derived.OwnWalkIn
import Derived.TacticsInMore
import Derived.LoopNIn
import Derived.LoopIn
import Derived.Maps.AppendAt
set_option linter.unusedVariables false
set_option linter.unusedSimpArgs false
set_option maxRecDepth 100000
namespace Go.Proofs.YtkakgmpcenfjlaaDoor.Graph
open Go.RowKit Go.Shelf Go.Proofs.YtkakgmpcenfjlaaDoorW.PrintWords
attribute [local go_sem] Oper.semAt_some
/-- The library's table, read. -/
def dB : List Nat := [0, 1, 56, 2, 57, 49, 28, 3, 61, 58, 42, 50, 38, 29, 17, 4, 62, 47, 59, 36, 45, 43, 51, 22, 53, 39, 33, 30, 24, 18, 12, 5, 63, 55, 48, 27, 60, 41, 37, 16, 46, 35, 44, 21, 52, 32, 23, 11, 54, 26, 40, 15, 34, 20, 31, 10, 25, 14, 19, 9, 13, 8, 7, 6]
def Tabled (w : World) : Prop := ∀ j, j < 64 → w.cell? ⟨0, j, none⟩ = some (.int .u8 ((dB.getD j 0 : Nat) : Int))
theorem Tabled.below {w w' : World} (h : Tabled w) (b : Below w.heap.size w w') : Tabled w' := fun j hj => (b.cell (World.block_lt_of_cell? w _ (h j hj))).trans (h j hj)
def low (m : Nat) : Nat := ((List.range 6).find? (m.testBit ·)).getD 0
def kx (m : Nat) : Nat := (IntKind.u64.wrap (Go.bits .and .u64 (m : Int) (IntKind.u64.wrap (-(m : Int))) * 285870213051353865) / 288230376151711744).toNat
theorem kx_all : ∀ m : Nat, m < 64 → m ≠ 0 → IntKind.u64.wrap (Go.bits .and .u64 (m : Int) (IntKind.u64.wrap (-(m : Int))) * 285870213051353865) / 288230376151711744 = ((kx m : Nat) : Int) ∧ kx m < 64 ∧ dB.getD (kx m) 0 = low m ∧ low m < 6 := by decide +kernel
set_option maxHeartbeats 1000000 in
theorem tz_core (m k idx : Nat) (w : World) (hx0 : ((m : Int) == 0) = false)
    (key : IntKind.u64.wrap (Go.bits BinOp.and IntKind.u64 (m : Int) (IntKind.u64.wrap (-(m : Int))) * 285870213051353865) / 288230376151711744 = (idx : Int))
    (hi : idx < 64) (hk : k < 64) (hcell : w.cell? ⟨0, idx, none⟩ = some (.int .u8 k)) :
    Calls Tryd.prog 46 #[.int .u64 m] w fun e w' => e = .returned (.int .i64 k) ∧ w = w' := by
  go_enter Tryd.func46, Tryd.ntmps46
  go_wp2_with (simp only [key])
  go_ret
  exact ⟨rfl, rfl⟩
theorem tz (m : Nat) (hm : m < 64) (h0 : m ≠ 0) (w : World) (hT : Tabled w) : Calls Tryd.prog 46 #[.int .u64 m] w fun e w' => e = .returned (.int .i64 (low m)) ∧ w = w' := by
  obtain ⟨key, hi, ht, hl⟩ := kx_all m hm h0
  have hcell := hT (kx m) hi
  rw [ht] at hcell
  exact tz_core m (low m) (kx m) w (by simpa using h0) key hi (by omega) hcell
theorem least0 (w : World) : Calls Tryd.prog 43 #[.int .u64 ((0 : Nat) : Int)] w fun e w' => e = .returned (.tuple #[.int .i64 0, .bool false]) ∧ w = w' := by
  go_enter Tryd.func43, Tryd.ntmps43
  go_wp2
  refine bodyPost_ret (results_tmp2 rfl _ _ _) rfl ?_
  exact ⟨rfl, rfl⟩
theorem least1 (m : Nat) (hm : m < 64) (h0 : m ≠ 0) (w : World) (hT : Tabled w) : Calls Tryd.prog 43 #[.int .u64 m] w fun e w' => e = .returned (.tuple #[.int .i64 (low m), .bool true]) ∧ w = w' := by
  have hx0 : ((m : Int) == 0) = false := by simpa using h0
  go_enter Tryd.func43, Tryd.ntmps43
  go_wp2_with (go_at_call 46; refine (tz m hm h0 _ hT).mono ?_; rintro e w' ⟨rfl, rfl⟩)
  refine bodyPost_ret (results_tmp2 rfl _ _ _) rfl ?_
  exact ⟨rfl, rfl⟩
theorem shl_all : ∀ n, n < 7 → 0 < n → IntKind.u64.wrap (IntKind.u64.wrap (2 ^ n) - 1) = ((2 ^ n - 1 : Nat) : Int) := by decide +kernel
theorem full (n : Nat) (hn : n ≤ 6) (w : World) : Calls Tryd.prog 31 #[.int .i64 n] w fun e w' => e = .returned (.int .u64 ((2 ^ n - 1 : Nat) : Int)) ∧ w = w' := by
  by_cases h0 : n = 0
  · subst h0
    go_enter Tryd.func31, Tryd.ntmps31
    go_wp2
    go_ret
    exact ⟨rfl, rfl⟩
  · have h1 : decide ((n : Int) ≤ 0) = false := decide_eq_false (by omega)
    have h1' : n ≠ 0 := h0
    have h2 : decide (64 ≤ (n : Int)) = false := decide_eq_false (by omega)
    have h3 := shl_all n (by omega) (by omega)
    have h4 : decide (64 ≤ n) = false := decide_eq_false (by omega)
    have h5 : decide (n ≤ 0) = false := decide_eq_false (by omega)
    have h6 : ¬ (n : Int) < 0 := by omega
    go_enter Tryd.func31, Tryd.ntmps31
    go_wp2_with (simp only [h3])
    go_ret
    exact ⟨rfl, rfl⟩
/-- m without u. -/
def clr1 (m u : Nat) : Nat := if m.testBit u then m - 2 ^ u else m
theorem without_all : ∀ m : Nat, m < 64 → ∀ u, u < 6 → Go.bits .andNot .u64 (m : Int) (IntKind.u64.wrap (2 ^ u)) = ((clr1 m u : Nat) : Int) := by decide +kernel
theorem clr1_lt : ∀ m : Nat, m < 64 → ∀ u, u < 6 → clr1 m u < 64 ∧ ∀ x, x < 6 → (clr1 m u).testBit x = (m.testBit x && !decide (u = x)) := by decide +kernel
theorem without (m u : Nat) (w : World) (hm : m < 64) (hu : u < 6) : Calls Tryd.prog 32 #[.int .u64 m, .int .i64 u] w fun e w' => e = .returned (.int .u64 ((clr1 m u : Nat) : Int)) ∧ w = w' := by
  have hb := without_all m hm u hu
  have h1 : ¬ (u : Int) < 0 := by omega
  go_enter Tryd.func32, Tryd.ntmps32
  go_wp2_with (first | (go_at_call 34; refine (inG _ _ (by omega) (by omega)).mono ?_; rintro e w' ⟨rfl, rfl⟩) | (simp only [hb]))
  go_ret
  exact ⟨rfl, rfl⟩
/-- m without what is below k. -/
def cutB (m k : Nat) : Nat := m / 2 ^ k * 2 ^ k
theorem cut_all : ∀ m : Nat, m < 64 → ∀ i, i < 6 → Go.bits .andNot .u64 (m : Int) ((2 ^ (i + 1) - 1 : Nat) : Int) = ((cutB m (i + 1) : Nat) : Int) := by decide +kernel
/-- The members of m from k on, rising. -/
def memF (m k : Nat) : List Nat := (List.range 6).filter (fun j => decide (k ≤ j) && m.testBit j)
theorem mem_step : ∀ m : Nat, m < 64 → ∀ k, k < 7 → cutB m k < 64 ∧ (memF m k = [] → cutB m k = 0) ∧ (memF m k ≠ [] → cutB m k ≠ 0 ∧ low (cutB m k) < 6 ∧ memF m k = low (cutB m k) :: memF m (low (cutB m k) + 1)) := by decide +kernel
theorem next0 (m i : Nat) (hm : m < 64) (hi : i < 6) (h0 : cutB m (i + 1) = 0) (w : World) : Calls Tryd.prog 44 #[.int .u64 m, .int .i64 i] w fun e w' => e = .returned (.tuple #[.int .i64 0, .bool false]) ∧ w = w' := by
  have hb := cut_all m hm i hi
  rw [h0] at hb
  have h1 : decide (63 ≤ (i : Int)) = false := decide_eq_false (by omega)
  have h2 : decide (63 ≤ i) = false := decide_eq_false (by omega)
  have h3 : ¬ (i : Int) < -1 := by omega
  have h4 : IntKind.i64.wrap ((i : Int) + 1) = ((i + 1 : Nat) : Int) := by rw [IntKind.wrap_i64]; omega
  go_enter Tryd.func44, Tryd.ntmps44
  go_wp2_with (first | (go_at_call 31; refine (full (i + 1) (by omega) _).mono ?_; rintro e w' ⟨rfl, rfl⟩) | (simp only [hb]) | (go_at_call 43; refine (least0 _).mono ?_; rintro e w' ⟨rfl, rfl⟩) | (simp only [h4]))
  refine bodyPost_ret (results_tmp2 rfl _ _ _) rfl ?_
  exact ⟨rfl, rfl⟩
theorem next1 (m i : Nat) (hm : m < 64) (hi : i < 6) (hc : cutB m (i + 1) < 64) (h0 : cutB m (i + 1) ≠ 0) (w : World) (hT : Tabled w) : Calls Tryd.prog 44 #[.int .u64 m, .int .i64 i] w fun e w' => e = .returned (.tuple #[.int .i64 (low (cutB m (i + 1))), .bool true]) ∧ w = w' := by
  have hb := cut_all m hm i hi
  have h1 : decide (63 ≤ (i : Int)) = false := decide_eq_false (by omega)
  have h2 : decide (63 ≤ i) = false := decide_eq_false (by omega)
  have h3 : ¬ (i : Int) < -1 := by omega
  have h4 : IntKind.i64.wrap ((i : Int) + 1) = ((i + 1 : Nat) : Int) := by rw [IntKind.wrap_i64]; omega
  obtain ⟨q, hq⟩ : ∃ q, cutB m (i + 1) = q := ⟨_, rfl⟩
  rw [hq] at hb hc h0 ⊢
  go_enter Tryd.func44, Tryd.ntmps44
  go_wp2_with (first | (go_at_call 31; refine (full (i + 1) (by omega) _).mono ?_; rintro e w' ⟨rfl, rfl⟩) | (simp only [hb]) | (go_at_call 43; refine (least1 q hc h0 _ hT).mono ?_; rintro e w' ⟨rfl, rfl⟩) | (simp only [h4]))
  refine bodyPost_ret (results_tmp2 rfl _ _ _) rfl ?_
  exact ⟨rfl, rfl⟩
end Go.Proofs.YtkakgmpcenfjlaaDoor.Graph
