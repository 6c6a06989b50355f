/- A capacity's truth, told by package lap and by sakiaref02; the handles' constructors. -/
import Derived.Test.YtkakgmpcenfjlaaHandle
import Derived.LoopTactic
set_option linter.unusedVariables false
set_option linter.unusedSimpArgs false
set_option maxRecDepth 100000
namespace Go.Proofs.Ytkakgmpcenfjlaa.Handle
open Go.RowKit Go.Proofs.YtkakgmpcenfjlaaW.PrintWords
/-! ### Powers of two -/
theorem pow_and (k : Nat) : 2 ^ k &&& (2 ^ k - 1) = 0 := by rw [Nat.and_two_pow_sub_one_eq_mod]; exact Nat.mod_self _
theorem and_pow : ∀ (m : Nat), 1 ≤ m → m &&& (m - 1) = 0 → ∃ k, m = 2 ^ k := by
  intro m
  induction m using Nat.strongRecOn with
  | ind m ih =>
    intro h1 h
    have h2 : (m / 2) &&& ((m - 1) / 2) = 0 := by rw [← Nat.and_div_two, h]
    by_cases e : m % 2 = 0
    · have e2 : (m - 1) / 2 = m / 2 - 1 := by omega
      rw [e2] at h2
      obtain ⟨k, hk⟩ := ih (m / 2) (by omega) (by omega) h2
      exact ⟨k + 1, by rw [Nat.pow_succ]; omega⟩
    · have e2 : (m - 1) / 2 = m / 2 := by omega
      rw [e2, Nat.and_self] at h2
      exact ⟨0, by simp; omega⟩
theorem wraps_i64 (n : Int) (h₀ : 0 ≤ n) (h₁ : n < 2 ^ 62) : IntKind.i64.wrap n = n := by rw [IntKind.wrap_i64]; omega
def rightB (cap : Int) : Bool := decide (2 ≤ cap) && decide (cap ≤ 1073741824) && (cap.toNat &&& (cap.toNat - 1) == 0)
theorem and_nat (cap : Int) (h1 : 2 ≤ cap) (h2 : cap ≤ 1073741824) : bits .and .i64 cap (cap - 1) = ((cap.toNat &&& (cap.toNat - 1) : Nat) : Int) := by
  have := bits_nat .i64 62 (by decide) wraps_i64 cap.toNat (cap.toNat - 1) (by omega) (by omega)
  have e1 : ((cap.toNat : Nat) : Int) = cap := by omega
  have e2 : ((cap.toNat - 1 : Nat) : Int) = cap - 1 := by omega
  rw [e1, e2] at this
  exact this.1
theorem right_bd {cap : Int} (h : rightB cap = true) : 2 ≤ cap ∧ cap ≤ 1073741824 := by
  simp only [rightB, Bool.and_eq_true, decide_eq_true_eq] at h
  exact ⟨h.1.1, h.1.2⟩
theorem lapR (cap : Int) (w : World) : Calls Try.prog 56 #[.int .i64 cap] w fun e w' => e = .returned (.bool (rightB cap)) ∧ w = w' := by
  unfold rightB
  by_cases h1 : 2 ≤ cap
  · have t1 : decide (2 ≤ cap) = true := decide_eq_true h1
    by_cases h2 : cap ≤ 1073741824
    · have t2 : decide (cap ≤ 1073741824) = true := decide_eq_true h2
      have e : (bits .and .i64 cap (cap - 1) == 0) = (cap.toNat &&& (cap.toNat - 1) == 0) := by
        rw [and_nat cap h1 h2, Bool.eq_iff_iff, beq_iff_eq, beq_iff_eq]
        omega
      rw [t1, t2, Bool.true_and, Bool.true_and, ← e]
      clear e
      go_enter Try.func56, Try.ntmps56
      go_wp2
      go_ret
      exact ⟨rfl, rfl⟩
    · have t2 : decide (cap ≤ 1073741824) = false := decide_eq_false h2
      rw [t2, Bool.and_false, Bool.false_and]
      go_enter Try.func56, Try.ntmps56
      go_wp2
      go_ret
      exact ⟨rfl, rfl⟩
  · have t1 : decide (2 ≤ cap) = false := decide_eq_false h1
    rw [t1, Bool.false_and, Bool.false_and]
    go_enter Try.func56, Try.ntmps56
    go_wp2
    go_ret
    exact ⟨rfl, rfl⟩
theorem pow_right (k : Nat) (cap : Int) (h1 : 1 ≤ k) (h2 : k ≤ 30) (hk : k = 1 ∨ ((2 ^ (k - 1) : Nat) : Int) < cap) (hend : ¬ ((((2 ^ k : Nat) : Int) < cap) ∧ k < 30)) : (((2 ^ k : Nat) : Int) == cap) = rightB cap := by
  have hle : 2 ^ k ≤ 2 ^ 30 := Nat.pow_le_pow_right (by decide) h2
  have hge : 2 ^ 1 ≤ 2 ^ k := Nat.pow_le_pow_right (by decide) h1
  have h30 : (2 : Nat) ^ 30 = 1073741824 := by decide
  by_cases e : ((2 ^ k : Nat) : Int) = cap
  · subst e
    have : rightB ((2 ^ k : Nat) : Int) = true := by
      simp only [rightB, Bool.and_eq_true, decide_eq_true_eq, beq_iff_eq, Int.toNat_natCast]
      exact ⟨⟨by omega, by omega⟩, pow_and k⟩
    rw [this]
    simp
  · have : rightB cap = false := by
      rw [Bool.eq_false_iff]
      intro h
      obtain ⟨b1, b2⟩ := right_bd h
      simp only [rightB, Bool.and_eq_true, beq_iff_eq] at h
      obtain ⟨j, hj⟩ := and_pow cap.toNat (by omega) h.2
      have hc : cap = ((2 ^ j : Nat) : Int) := by omega
      have hjk : j ≠ k := by rintro rfl; exact e hc.symm
      by_cases hlt : j < k
      · have : 2 ^ j ≤ 2 ^ (k - 1) := Nat.pow_le_pow_right (by decide) (by omega)
        rcases hk with rfl | hk
        · have : j = 0 := by omega
          subst this
          rw [Nat.pow_zero] at hc
          omega
        · omega
      · have h3 : 2 ^ (k + 1) ≤ 2 ^ j := Nat.pow_le_pow_right (by decide) (by omega)
        rw [Nat.pow_succ] at h3
        have : ¬ k < 30 := by intro hk2; exact hend ⟨by omega, hk2⟩
        have : k = 30 := by omega
        subst this
        omega
    rw [this]
    simpa using e
theorem refR (cap : Int) (w : World) : Calls Try.prog 23 #[.int .i64 cap] w fun e w' => e = .returned (.bool (rightB cap)) ∧ w = w' := by
  go_enter Try.func23, Try.ntmps23
  go_wp2
  go_loop [3] (fun n => ∃ k : Nat, 1 ≤ k ∧ k ≤ 30 ∧ (k = 1 ∨ ((2 ^ (k - 1) : Nat) : Int) < cap) ∧ n = .int .i64 ((2 ^ k : Nat) : Int)) (fun n => 1073741824 - (intOf n).toNat)
  case atStart => exact ⟨1, Nat.le_refl _, by decide, .inl rfl, rfl⟩
  case round =>
    obtain ⟨k, h1, h2, hk, rfl⟩ := hrel
    have hle : 2 ^ k ≤ 2 ^ 30 := Nat.pow_le_pow_right (by decide) h2
    have hge : 2 ^ 1 ≤ 2 ^ k := Nat.pow_le_pow_right (by decide) h1
    have h30 : (2 : Nat) ^ 30 = 1073741824 := by decide
    have hR := Aside.mk (pow_right k cap h1 h2 hk)
    by_cases c1 : ((2 ^ k : Nat) : Int) < cap
    · have t1 : decide (((2 ^ k : Nat) : Int) < cap) = true := decide_eq_true c1
      by_cases c2 : ((2 ^ k : Nat) : Int) < 1073741824
      · have t2 : decide (((2 ^ k : Nat) : Int) < 1073741824) = true := decide_eq_true c2
        have hk30 : k < 30 := by
          rcases Nat.lt_or_ge k 30 with h | h
          · exact h
          · have : k = 30 := by omega
            subst this
            omega
        have hA := Aside.mk (⟨h1, hk30, c1, hge⟩ : 1 ≤ k ∧ k < 30 ∧ ((2 ^ k : Nat) : Int) < cap ∧ 2 ^ 1 ≤ 2 ^ k)
        clear h1 h2 hk hle hge c1 hk30
        generalize hp : (2 ^ k : Nat) = p at *
        have hw : (2 * (p : Int) + 9223372036854775808) % 18446744073709551616 - 9223372036854775808 = 2 * (p : Int) := by omega
        go_wp2
        go_round
        case rel =>
          obtain ⟨b1, b2, b3, b4⟩ := hA.out
          refine ⟨k + 1, by omega, by omega, .inr ?_, ?_⟩
          · rw [show k + 1 - 1 = k from rfl, hp]; exact b3
          · rw [Nat.pow_succ, hp]
            have e2 : (2 * (p : Int)) = ((p * 2 : Nat) : Int) := by omega
            rw [e2]
        case measure =>
          obtain ⟨b1, b2, b3, b4⟩ := hA.out
          simp [intOf]
          omega
      · have t2 : decide (((2 ^ k : Nat) : Int) < 1073741824) = false := decide_eq_false c2
        have hk30 : ¬ k < 30 := by
          intro h
          have := Nat.pow_lt_pow_right (a := 2) (by decide) h
          omega
        have hf := hR.out (fun h => hk30 h.2)
        have hF := Aside.mk hf
        clear hf hR hle hge h1 h2 hk
        generalize (2 ^ k : Nat) = p at *
        go_wp2
        go_ret
        exact ⟨by rw [hF.out]; rfl, rfl⟩
    · have t1 : decide (((2 ^ k : Nat) : Int) < cap) = false := decide_eq_false c1
      have hf := hR.out (fun h => c1 h.1)
      have hF := Aside.mk hf
      clear hf hR hle hge h1 h2 hk
      generalize (2 ^ k : Nat) = p at *
      go_wp2
      go_ret
      exact ⟨by rw [hF.out]; rfl, rfl⟩
/-! ### The constructors -/
def newP (cap : Int) : HS := ⟨cap, true, false, 0, 0, 0, 0⟩
def newC (cap st : Int) : HS := ⟨cap, false, false, 0, 0, st, st⟩
theorem producer32N (cap : Int) (w : World) (h : rightB cap = false) : Calls Try.prog 35 #[.int .i64 cap] w fun e w' => e = .returned (.pointer none) ∧ w = w' := by
  go_enter Try.func35, Try.ntmps35
  go_wp2_with (go_at_call 56; refine (lapR _ _).mono ?_; rintro e w' ⟨rfl, rfl⟩)
  go_ret
  exact ⟨rfl, rfl⟩
theorem producer32 (cap : Int) (w : World) (h : rightB cap = true) : Calls Try.prog 35 #[.int .i64 cap] w fun e w' => e = .returned (.pointer (some ⟨w.heap.size, 0, none⟩)) ∧ Stands .u32 91 w' w.heap.size (newP cap) ∧ Below w.heap.size w w' ∧ w.heap.size < w'.heap.size := by
  go_enter Try.func35, Try.ntmps35
  go_wp2_with (go_at_call 56; refine (lapR _ _).mono ?_; rintro e w' ⟨rfl, rfl⟩)
  go_ret
  exact ⟨rfl, heap_alloc_new w _, below_alloc_ w _, by simp⟩
theorem consumer32N (cap : Int) (st : Int) (w : World) (h : rightB cap = false) : Calls Try.prog 33 #[.int .i64 cap, .int .u32 st] w fun e w' => e = .returned (.pointer none) ∧ w = w' := by
  go_enter Try.func33, Try.ntmps33
  go_wp2_with (go_at_call 56; refine (lapR _ _).mono ?_; rintro e w' ⟨rfl, rfl⟩)
  go_ret
  exact ⟨rfl, rfl⟩
theorem consumer32 (cap : Int) (st : Int) (w : World) (h : rightB cap = true) : Calls Try.prog 33 #[.int .i64 cap, .int .u32 st] w fun e w' => e = .returned (.pointer (some ⟨w.heap.size, 0, none⟩)) ∧ Stands .u32 91 w' w.heap.size (newC cap st) ∧ Below w.heap.size w w' ∧ w.heap.size < w'.heap.size := by
  go_enter Try.func33, Try.ntmps33
  go_wp2_with (go_at_call 56; refine (lapR _ _).mono ?_; rintro e w' ⟨rfl, rfl⟩)
  go_ret
  exact ⟨rfl, heap_alloc_new w _, below_alloc_ w _, by simp⟩
theorem producer64N (cap : Int) (w : World) (h : rightB cap = false) : Calls Try.prog 36 #[.int .i64 cap] w fun e w' => e = .returned (.pointer none) ∧ w = w' := by
  go_enter Try.func36, Try.ntmps36
  go_wp2_with (go_at_call 56; refine (lapR _ _).mono ?_; rintro e w' ⟨rfl, rfl⟩)
  go_ret
  exact ⟨rfl, rfl⟩
theorem producer64 (cap : Int) (w : World) (h : rightB cap = true) : Calls Try.prog 36 #[.int .i64 cap] w fun e w' => e = .returned (.pointer (some ⟨w.heap.size, 0, none⟩)) ∧ Stands .u64 82 w' w.heap.size (newP cap) ∧ Below w.heap.size w w' ∧ w.heap.size < w'.heap.size := by
  go_enter Try.func36, Try.ntmps36
  go_wp2_with (go_at_call 56; refine (lapR _ _).mono ?_; rintro e w' ⟨rfl, rfl⟩)
  go_ret
  exact ⟨rfl, heap_alloc_new w _, below_alloc_ w _, by simp⟩
theorem consumer64N (cap : Int) (st : Int) (w : World) (h : rightB cap = false) : Calls Try.prog 22 #[.int .i64 cap, .int .u64 st] w fun e w' => e = .returned (.pointer none) ∧ w = w' := by
  go_enter Try.func22, Try.ntmps22
  go_wp2_with (go_at_call 56; refine (lapR _ _).mono ?_; rintro e w' ⟨rfl, rfl⟩)
  go_ret
  exact ⟨rfl, rfl⟩
theorem consumer64 (cap : Int) (st : Int) (w : World) (h : rightB cap = true) : Calls Try.prog 22 #[.int .i64 cap, .int .u64 st] w fun e w' => e = .returned (.pointer (some ⟨w.heap.size, 0, none⟩)) ∧ Stands .u64 82 w' w.heap.size (newC cap st) ∧ Below w.heap.size w w' ∧ w.heap.size < w'.heap.size := by
  go_enter Try.func22, Try.ntmps22
  go_wp2_with (go_at_call 56; refine (lapR _ _).mono ?_; rintro e w' ⟨rfl, rfl⟩)
  go_ret
  exact ⟨rfl, heap_alloc_new w _, below_alloc_ w _, by simp⟩
end Go.Proofs.Ytkakgmpcenfjlaa.Handle
