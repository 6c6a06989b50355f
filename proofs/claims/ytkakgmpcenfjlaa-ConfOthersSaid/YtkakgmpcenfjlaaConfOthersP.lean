/- ConfOthers: the plain law. -/
import Derived.Test.YtkakgmpcenfjlaaConfAlikeSP
import Derived.Test.YtkakgmpcenfjlaaOthers
import Derived.Test.YtkakgmpcenfjlaaQCfx9
set_option linter.unusedVariables false
set_option linter.unusedSimpArgs false
namespace Go.Proofs.Ytkakgmpcenfjlaa.QCf
open Go.RowKit Go.Proofs.YtkakgmpcenfjlaaW.PrintWords Go.Proofs.YtkakgmpcenfjlaaW.PrintLast Go.Proofs.YtkakgmpcenfjlaaW.PrintMore Go.Proofs.Ytkakgmpcenfjlaa.Graph Go.Proofs.Ytkakgmpcenfjlaa.QGc
theorem rl1_step (v w c p s : Int) (up : List (List Int)) (hs0 : 0 ≤ s) (xs : List S25) (v' x5 : Int) (k : Nat) (hk : 300 ≤ k) (hx : xs.length ≤ 200) (h5 : x5 ≤ 64) :
    sakiaref10_Others.l1 (k + 1) xs v' x5 v w c p s up = sakiaref10_Others.l1 k (xs ++ wAt v' c p (s % 4294967296) up x5) v' (wrap64 (x5 + 32)) v w c p s up := by
  simp only [sakiaref10_Others.l1]
  rw [if_pos h5, Int.tmod_eq_emod_of_nonneg hs0, ref_right v' x5 c p _ up k (by omega), Option.bind_some]
  unfold wAt
  by_cases a : checkC v' x5 c p up = 0
  · have a' : (checkC v' x5 c p up == 0) = true := by rw [a]; rfl
    rw [a', if_pos rfl, if_pos (by omega), if_pos a]
  · have a' : (checkC v' x5 c p up == 0) = false := by simpa using a
    rw [a', if_neg nf, if_neg a, List.append_nil]
theorem rl1_ok (v w c p s : Int) (up : List (List Int)) (hs0 : 0 ≤ s) (xs : List S25) (v' : Int) (k : Nat) (hk : 300 ≤ k) (hx : xs.length ≤ 100) :
    sakiaref10_Others.l1 (k + 3) xs v' 32 v w c p s up = sakiaref10_Others.l0 k (xs ++ widthsL v' c p (s % 4294967296) up) (wrap64 (v' + 1)) v w c p s up := by
  have g1 : wrap64 ((32 : Int) + 32) = 64 := by decide +kernel
  have g2 : wrap64 ((64 : Int) + 32) = 96 := by decide +kernel
  have hw := wAt_len v' c p (s % 4294967296) up 32
  rw [rl1_step v w c p s up hs0 xs v' 32 (k + 2) (by omega) (by omega) (by decide), g1, rl1_step v w c p s up hs0 _ v' 64 (k + 1) (by omega) (by rw [List.length_append]; omega) (by decide), g2]
  simp only [sakiaref10_Others.l1]
  rw [if_neg (show ¬ (96 : Int) ≤ 64 by decide), List.append_assoc]
  rfl
theorem rl0_ok (v w c p s : Int) (up : List (List Int)) (hs0 : 0 ≤ s) : ∀ (d n k : Nat), 5 - n = d → n ≤ 5 → 300 + 10 * d < k →
    sakiaref10_Others.l0 k (othersN c p (s % 4294967296) up n) ((n : Int) + 1) v w c p s up = some (othersN c p (s % 4294967296) up 5) := by
  intro d
  induction d with
  | zero =>
    intro n k hd hn hk
    obtain ⟨k, rfl⟩ : ∃ m, k = m + 1 := ⟨k - 1, by omega⟩
    have : n = 5 := by omega
    subst this
    simp only [sakiaref10_Others.l0]
    rw [if_neg (by omega)]
  | succ d ih =>
    intro n k hd hn hk
    obtain ⟨k, rfl⟩ : ∃ m, k = m + 4 := ⟨k - 4, by omega⟩
    have hl := othersN_len c p (s % 4294967296) up n
    simp only [sakiaref10_Others.l0]
    rw [if_pos (by omega), rl1_ok v w c p s up hs0 _ _ k (by omega) (by omega)]
    have := ih (n + 1) k (by omega) (by omega) (by omega)
    rw [show wrap64 ((n : Int) + 1 + 1) = ((n + 1 : Nat) : Int) + 1 by unfold wrap64; omega]
    exact this
theorem rothers_ok (v w c p s : Int) (up : List (List Int)) (hs0 : 0 ≤ s) (k : Nat) (hk : 400 ≤ k) : sakiaref10_Others.f k v w c p s up = some (othersN c p (cutN 32 s) up 5) :=
  rl0_ok v w c p s up hs0 5 0 k (by omega) (by omega) (by omega)
/-- Of a right configuration: which others are right. -/
theorem other_right {v w c p v' w' : Int} {up : List (List Int)} (h : checkC v w c p up = 0) (hv : 1 ≤ v' ∧ v' ≤ 5) (hw : w' = 32 ∨ w' = 64) : checkC v' w' c p up = 0 ↔ (v' = 1 → p = 1) := by
  obtain ⟨_, _, hc, hp, hg, hb, h64⟩ := checkC_zero h
  obtain ⟨c1, c2⟩ := right_bd hc
  have hm2 : (p + 2) * c ≤ 6 * 64 := Int.mul_le_mul (by omega) h64 (by omega) (by omega)
  have hbb : boundB w' c p = false := by
    unfold boundB
    rw [decide_eq_false (show ¬ 2147483648 ≤ (p + 2) * c by omega), Bool.and_false]
  unfold checkC
  rw [if_neg (show ¬ (v' < 1 ∨ 5 < v') by omega), if_neg (not_not_intro hw), if_neg (by rw [hc]; decide)]
  by_cases a : p < 1 ∨ 4 < p ∨ (v' = 1 ∧ 1 < p)
  · rw [if_pos a]
    exact ⟨fun h => absurd h (by decide), fun h => by omega⟩
  · rw [if_neg a, if_neg (not_not_intro hg), hbb, if_neg nf, if_neg (show ¬ 64 < c by omega)]
    exact ⟨fun _ => by omega, fun _ => rfl⟩
theorem widthsL_right {v w c p s v' : Int} {up : List (List Int)} (h : checkC v w c p up = 0) (hv : 1 ≤ v' ∧ v' ≤ 5) (h1 : v' = 1 → p = 1) : widthsL v' c p s up = [⟨v', 32, c, p, s, up⟩, ⟨v', 64, c, p, s, up⟩] := by
  unfold widthsL
  rw [wAt_yes ((other_right h hv (.inl rfl)).2 h1), wAt_yes ((other_right h hv (.inr rfl)).2 h1)]
  rfl
theorem widthsL_wrong {v w c p s : Int} {up : List (List Int)} (h : checkC v w c p up = 0) (h1 : ¬ p = 1) : widthsL 1 c p s up = [] := by
  unfold widthsL
  rw [wAt_no (fun x => h1 ((other_right h (by omega) (.inl rfl)).1 x rfl)), wAt_no (fun x => h1 ((other_right h (by omega) (.inr rfl)).1 x rfl))]
  rfl
theorem others_count {v w c p s : Int} {up : List (List Int)} (h : checkC v w c p up = 0) : ((othersN c p s up 5).length : Int) = if p = 1 then 10 else 8 := by
  have g : ∀ n : Nat, 2 ≤ n → n ≤ 5 → (widthsL ((n : Nat) : Int) c p s up).length = 2 := fun n h2 h5 => by
    rw [widthsL_right h (by omega) (by omega)]; rfl
  have g2 := g 2 (by omega) (by omega)
  have g3 := g 3 (by omega) (by omega)
  have g4 := g 4 (by omega) (by omega)
  have g5 := g 5 (by omega) (by omega)
  have e : (othersN c p s up 5).length = (widthsL ((1 : Nat) : Int) c p s up).length + 2 + 2 + 2 + 2 := by
    simp only [othersN, List.length_append, List.nil_append, Nat.zero_add]
    rw [show ((1 + 1 : Nat)) = 2 from rfl, show ((2 + 1 : Nat)) = 3 from rfl, show ((3 + 1 : Nat)) = 4 from rfl, show ((4 + 1 : Nat)) = 5 from rfl, g2, g3, g4, g5]
  rw [e]
  by_cases hp : p = 1
  · rw [if_pos hp, show ((1 : Nat) : Int) = 1 from rfl, widthsL_right h (by omega) (fun _ => hp)]; rfl
  · rw [if_neg hp, show ((1 : Nat) : Int) = 1 from rfl, widthsL_wrong h hp]; rfl
theorem wAt_mem {v c p s w : Int} {up : List (List Int)} {x : S25} (h : x ∈ wAt v c p s up w) : checkC x.f0 x.f1 x.f2 x.f3 x.f5 = 0 ∧ x.f2 = c ∧ x.f3 = p ∧ x.f4 = s ∧ x.f5 = up := by
  unfold wAt at h
  split at h
  · rename_i hc
    obtain rfl := List.mem_singleton.1 h
    exact ⟨hc, rfl, rfl, rfl, rfl⟩
  · simp at h
theorem others_mem {c p s : Int} {up : List (List Int)} {x : S25} : ∀ n, x ∈ othersN c p s up n → checkC x.f0 x.f1 x.f2 x.f3 x.f5 = 0 ∧ x.f2 = c ∧ x.f3 = p ∧ x.f4 = s ∧ x.f5 = up
  | 0, h => by simp [othersN] at h
  | n + 1, h => by
    unfold othersN widthsL at h
    rcases List.mem_append.1 h with h | h
    · exact others_mem n h
    · rcases List.mem_append.1 h with h | h
      · exact wAt_mem h
      · exact wAt_mem h
theorem rsame_refl (x : S25) (hs : Sm x.f5) (k : Nat) (hk : 1200 ≤ k) : sakiaref10_Same.f k x.f0 x.f1 x.f2 x.f3 x.f4 x.f5 x.f0 x.f1 x.f2 x.f3 x.f4 x.f5 = some true := by
  unfold sakiaref10_Same.f
  rw [if_pos rfl, if_pos rfl, if_pos rfl, if_pos rfl, if_pos rfl, graphs_ok _ _ hs k hk]
  simp
end Go.Proofs.Ytkakgmpcenfjlaa.QCf
