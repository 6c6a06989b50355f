/- A capacity's truth: a power of two from 2 to 2^30. -/
import Derived.WalkKit
import Derived.Laws.BitsLemmas
set_option linter.unusedVariables false
set_option linter.unusedSimpArgs false
namespace Go.Proofs.YtgibmlbdkijflaaDoor.Graph
open Go.RowKit
theorem pow_and (k : Nat) : 2 ^ k &&& (2 ^ k - 1) = 0 := by rw [Nat.and_two_pow_sub_one_eq_mod]; exact Nat.mod_self _
theorem and_pow : ∀ (m : Nat), 1 ≤ m → m &&& (m - 1) = 0 → ∃ k, m = 2 ^ k := by
  intro m
  induction m using Nat.strongRecOn with
  | ind m ih =>
    intro h1 h
    have h2 : (m / 2) &&& ((m - 1) / 2) = 0 := by rw [← Nat.and_div_two, h]
    by_cases e : m % 2 = 0
    · have e2 : (m - 1) / 2 = m / 2 - 1 := by omega
      rw [e2] at h2
      obtain ⟨k, hk⟩ := ih (m / 2) (by omega) (by omega) h2
      exact ⟨k + 1, by rw [Nat.pow_succ]; omega⟩
    · have e2 : (m - 1) / 2 = m / 2 := by omega
      rw [e2, Nat.and_self] at h2
      exact ⟨0, by simp; omega⟩
theorem wraps_i64 (n : Int) (h₀ : 0 ≤ n) (h₁ : n < 2 ^ 62) : IntKind.i64.wrap n = n := by rw [IntKind.wrap_i64]; omega
def rightB (cap : Int) : Bool := decide (2 ≤ cap) && decide (cap ≤ 1073741824) && (cap.toNat &&& (cap.toNat - 1) == 0)
theorem and_nat (cap : Int) (h1 : 2 ≤ cap) (h2 : cap ≤ 1073741824) : bits .and .i64 cap (cap - 1) = ((cap.toNat &&& (cap.toNat - 1) : Nat) : Int) := by
  have := bits_nat .i64 62 (by decide) wraps_i64 cap.toNat (cap.toNat - 1) (by omega) (by omega)
  have e1 : ((cap.toNat : Nat) : Int) = cap := by omega
  have e2 : ((cap.toNat - 1 : Nat) : Int) = cap - 1 := by omega
  rw [e1, e2] at this
  exact this.1
theorem right_bd {cap : Int} (h : rightB cap = true) : 2 ≤ cap ∧ cap ≤ 1073741824 := by
  simp only [rightB, Bool.and_eq_true, decide_eq_true_eq] at h
  exact ⟨h.1.1, h.1.2⟩
theorem pow_right (k : Nat) (cap : Int) (h1 : 1 ≤ k) (h2 : k ≤ 30) (hk : k = 1 ∨ ((2 ^ (k - 1) : Nat) : Int) < cap) (hend : ¬ ((((2 ^ k : Nat) : Int) < cap) ∧ k < 30)) : (((2 ^ k : Nat) : Int) == cap) = rightB cap := by
  have hle : 2 ^ k ≤ 2 ^ 30 := Nat.pow_le_pow_right (by decide) h2
  have hge : 2 ^ 1 ≤ 2 ^ k := Nat.pow_le_pow_right (by decide) h1
  have h30 : (2 : Nat) ^ 30 = 1073741824 := by decide
  by_cases e : ((2 ^ k : Nat) : Int) = cap
  · subst e
    have : rightB ((2 ^ k : Nat) : Int) = true := by
      simp only [rightB, Bool.and_eq_true, decide_eq_true_eq, beq_iff_eq, Int.toNat_natCast]
      exact ⟨⟨by omega, by omega⟩, pow_and k⟩
    rw [this]
    simp
  · have : rightB cap = false := by
      rw [Bool.eq_false_iff]
      intro h
      obtain ⟨b1, b2⟩ := right_bd h
      simp only [rightB, Bool.and_eq_true, beq_iff_eq] at h
      obtain ⟨j, hj⟩ := and_pow cap.toNat (by omega) h.2
      have hc : cap = ((2 ^ j : Nat) : Int) := by omega
      have hjk : j ≠ k := by rintro rfl; exact e hc.symm
      by_cases hlt : j < k
      · have : 2 ^ j ≤ 2 ^ (k - 1) := Nat.pow_le_pow_right (by decide) (by omega)
        rcases hk with rfl | hk
        · have : j = 0 := by omega
          subst this
          rw [Nat.pow_zero] at hc
          omega
        · omega
      · have h3 : 2 ^ (k + 1) ≤ 2 ^ j := Nat.pow_le_pow_right (by decide) (by omega)
        rw [Nat.pow_succ] at h3
        have : ¬ k < 30 := by intro hk2; exact hend ⟨by omega, hk2⟩
        have : k = 30 := by omega
        subst this
        omega
    rw [this]
    simpa using e
end Go.Proofs.YtgibmlbdkijflaaDoor.Graph
