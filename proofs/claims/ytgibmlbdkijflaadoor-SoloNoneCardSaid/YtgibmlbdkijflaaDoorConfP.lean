/- Plain laws of package conf's check, and of the document's. -/
import Derived.Test.YtgibmlbdkijflaaDoorConfCheck
import Derived.Test.YtgibmlbdkijflaaDoorQCfx
set_option linter.unusedVariables false
set_option linter.unusedSimpArgs false
namespace Go.Proofs.YtgibmlbdkijflaaDoor.QCf
open Go.RowKit Go.Proofs.YtgibmlbdkijflaaDoorW.PrintWords Go.Proofs.YtgibmlbdkijflaaDoorW.PrintLast Go.Proofs.YtgibmlbdkijflaaDoorW.PrintMore Go.Proofs.YtgibmlbdkijflaaDoor.Graph Go.Proofs.YtgibmlbdkijflaaDoor.QGc
theorem pow_loop (c : Int) : ∀ (d k i : Nat), 31 - i = d → 1 ≤ i → i ≤ 30 → d < k → (i = 1 ∨ ((2 ^ (i - 1) : Nat) : Int) < c) → sakiaref02_Right.l0 k c ((2 ^ i : Nat) : Int) = some (rightB c) := by
  intro d
  induction d with
  | zero => intro k i hd h1 h30 hk h; omega
  | succ d ih =>
    intro k i hd h1 h30 hk h
    obtain ⟨k, rfl⟩ : ∃ m, k = m + 1 := ⟨k - 1, by omega⟩
    have hle : 2 ^ i ≤ 2 ^ 30 := Nat.pow_le_pow_right (by decide) h30
    have h30' : (2 : Nat) ^ 30 = 1073741824 := by decide
    simp only [sakiaref02_Right.l0]
    by_cases c1 : ((2 ^ i : Nat) : Int) < c
    · rw [if_pos c1]
      by_cases c2 : ((2 ^ i : Nat) : Int) < 1073741824
      · have hi : i < 30 := by
          rcases Nat.lt_or_ge i 30 with h | h
          · exact h
          · have : i = 30 := by omega
            subst this
            omega
        have hww : wrap64 (2 * ((2 ^ i : Nat) : Int)) = 2 * ((2 ^ i : Nat) : Int) := by
          generalize (2 ^ i : Nat) = q at *
          exact w64_in (by omega) (by omega)
        rw [if_pos c2, hww]
        have e : 2 * ((2 ^ i : Nat) : Int) = ((2 ^ (i + 1) : Nat) : Int) := by rw [Nat.pow_succ]; omega
        rw [e]
        exact ih k (i + 1) (by omega) (by omega) (by omega) (by omega) (.inr (by simpa using c1))
      · rw [if_neg c2, pow_right i c h1 h30 h (fun h => by
          have := Nat.pow_lt_pow_right (a := 2) (by decide) h.2
          omega)]
    · rw [if_neg c1, pow_right i c h1 h30 h (fun h => c1 h.1)]
theorem ref_right_ok (c : Int) (k : Nat) (hk : 50 ≤ k) : sakiaref02_Right.f k c = some (rightB c) := pow_loop c 30 k 1 (by omega) (by omega) (by omega) (by omega) (.inl rfl)
theorem ref_check_ok (v w c p s : Int) (up : List (List Int)) (k : Nat) (hk : 200 ≤ k) : sakiaref10_Check.f k v w c p s up = some (checkC v w c p up) := by
  obtain ⟨k, rfl⟩ : ∃ n, k = n + 4 := ⟨k - 4, by omega⟩
  have h3 : ∀ b, sakiaref10_Check.j3 (k + 1) b v w c p s up = some (if b = true then 9 else if 64 < c then 10 else 0) := by
    intro b
    simp only [sakiaref10_Check.j3]
    cases b
    · simp; split <;> rfl
    · rfl
  have h2 : 1 ≤ p → p ≤ 4 → rightB c = true → (w = 32 ∨ w = 64) → ∀ b, sakiaref10_Check.j2 (k + 2) b v w c p s up = some (if b = true then 5 else if checkG up ≠ 0 then checkG up else if boundB w c p = true then 9 else if 64 < c then 10 else 0) := by
    intro hp1 hp4 hc hw b
    obtain ⟨c1, c2⟩ := right_bd hc
    have hm1 : 0 ≤ (p + 2) * c := Int.mul_nonneg (by omega) (by omega)
    have hm2 : (p + 2) * c ≤ 6 * 1073741824 := Int.mul_le_mul (by omega) c2 (by omega) (by omega)
    simp only [sakiaref10_Check.j2, sakiaref09_Check.f, Option.bind_some]
    cases b with
    | true => rfl
    | false =>
      rw [if_neg nf, if_neg nf]
      by_cases hg : checkG up = 0
      · rw [if_pos hg, if_neg (not_not_intro hg)]
        unfold boundB
        rcases hw with rfl | rfl
        · rw [if_pos rfl, h3, w64_in (x := p + 2) (by omega) (by omega), w64_in (by omega) (by omega)]
          simp
        · rw [if_neg (show ¬ ((64 : Int) = 32) by decide), h3]
          simp
      · rw [if_neg hg, if_pos hg]
  have h1 : ∀ b, sakiaref10_Check.j1 (k + 3) b v w c p s up = some (if b = true then 3 else if rightB c = false then 4 else if p < 1 ∨ 4 < p ∨ (v = 1 ∧ 1 < p) then 5
      else if checkG up ≠ 0 then checkG up else if boundB w c p = true then 9 else if 64 < c then 10 else 0) ∨ ¬ (w = 32 ∨ w = 64) := by
    intro b
    by_cases hw : w = 32 ∨ w = 64
    · left
      simp only [sakiaref10_Check.j1]
      cases b with
      | true => rfl
      | false =>
        rw [if_neg nf, if_neg nf, ref_right_ok c _ (by omega), Option.bind_some]
        cases hc : rightB c with
        | false => rfl
        | true =>
          rw [if_pos rfl, if_neg ntf]
          by_cases hp1 : p < 1
          · rw [if_pos hp1, if_pos (.inl hp1)]
            simp only [sakiaref10_Check.j2]
            rfl
          · rw [if_neg hp1]
            by_cases hp4 : 4 < p
            · rw [if_pos hp4, if_pos (.inr (.inl hp4))]
              simp only [sakiaref10_Check.j2]
              rfl
            · rw [if_neg hp4]
              by_cases hv : v = 1
              · rw [if_pos hv, h2 (by omega) (by omega) hc hw]
                congr 1
                by_cases hp : p = 1
                · rw [if_neg (by simp [hp]), if_neg (show ¬ (p < 1 ∨ 4 < p ∨ (v = 1 ∧ 1 < p)) by omega)]
                · rw [if_pos (by simpa using hp), if_pos (show p < 1 ∨ 4 < p ∨ (v = 1 ∧ 1 < p) by omega)]
              · rw [if_neg hv, h2 (by omega) (by omega) hc hw, if_neg nf, if_neg (show ¬ (p < 1 ∨ 4 < p ∨ (v = 1 ∧ 1 < p)) by omega)]
    · exact .inr hw
  have h0 : ∀ b, sakiaref10_Check.j0 (k + 4) b v w c p s up = if b = true then some 2 else some (if ¬ (w = 32 ∨ w = 64) then 3 else if rightB c = false then 4 else if p < 1 ∨ 4 < p ∨ (v = 1 ∧ 1 < p) then 5
      else if checkG up ≠ 0 then checkG up else if boundB w c p = true then 9 else if 64 < c then 10 else 0) := by
    intro b
    simp only [sakiaref10_Check.j0]
    cases b with
    | true => rfl
    | false =>
      rw [if_neg nf, if_neg nf]
      by_cases hw : w = 32 ∨ w = 64
      · rw [if_neg (not_not_intro hw)]
        by_cases h32 : w = 32
        · rw [if_pos h32, (h1 false).resolve_right (fun h => h hw), if_neg nf]
        · rw [if_neg h32]
          have e : (w != 64) = false := by simpa using hw.resolve_left h32
          rw [e, (h1 false).resolve_right (fun h => h hw), if_neg nf]
      · rw [if_pos hw, if_neg (fun h => hw (.inl h))]
        have e : (w != 64) = true := by simpa using fun h => hw (.inr h)
        rw [e]
        simp only [sakiaref10_Check.j1]
        rfl
  unfold sakiaref10_Check.f checkC
  rw [h0, h0]
  by_cases h1 : v < 1
  · rw [if_pos h1, if_pos rfl, if_pos (.inl h1)]
  · rw [if_neg h1]
    by_cases h5 : 5 < v
    · rw [if_pos (decide_eq_true h5), if_pos (.inr h5)]
    · rw [if_neg (by simpa using h5), if_neg (show ¬ (v < 1 ∨ 5 < v) by omega)]
end Go.Proofs.YtgibmlbdkijflaaDoor.QCf
