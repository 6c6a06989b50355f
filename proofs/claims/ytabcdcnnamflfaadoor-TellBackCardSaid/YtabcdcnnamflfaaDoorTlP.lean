/- Plain laws of the printed functions over events: which rows are long, and which are the same. -/
import Derived.Test.YtabcdcnnamflfaaDoorQTex1
import Derived.Test.YtabcdcnnamflfaaDoorQTex2
set_option linter.unusedVariables false
set_option linter.unusedSimpArgs false
namespace Go.Proofs.YtabcdcnnamflfaaDoor.QTe
open Go.RowKit Go.Proofs.YtabcdcnnamflfaaDoorW.PrintWords Go.Proofs.YtabcdcnnamflfaaDoorW.PrintLast Go.Proofs.YtabcdcnnamflfaaDoorW.PrintMore
theorem rd_nat (xs : List Int) (i : Nat) (h : i < xs.length) : rd xs (i : Int) = xs[i] := by simp [rd, h]
theorem ws {i : Nat} (h : i < 4611686018427387904) : wrap64 ((i : Int) + 1) = ((i + 1 : Nat) : Int) := by unfold wrap64; omega
theorem rdT (l : List S76) (i : Nat) (h : i < l.length) : rd_T76 l (i : Int) = l[i] := by simp [rd_T76, h]
def Small (l : List S76) : Prop := l.length ≤ 100 ∧ ∀ x ∈ l, x.f6.length ≤ 100
theorem Small.at {l : List S76} (h : Small l) (i : Nat) (hi : i < l.length) : l[i].f6.length ≤ 100 := h.2 _ (List.getElem_mem hi)
theorem long_loop (l : List S76) : ∀ (d k i : Nat), 100 - i = d → i ≤ 100 → (∀ j (h : j < l.length), j < i → l[j].f6.length ≤ 100) → 2 * d + 1 < k → ∃ b, sakialaw15_Long.l0 k l 100 (i : Int) = some b ∧ (b = false → Small l) := by
  intro d
  induction d with
  | zero =>
    intro k i hd hi hj hk
    obtain ⟨k, rfl⟩ : ∃ n, k = n + 2 := ⟨k - 2, by omega⟩
    have e : (if (i : Int) < (l.length : Int) then sakialaw15_Long.j1 (k + 1) l 100 (i : Int) (decide ((i : Int) < 100)) else sakialaw15_Long.j1 (k + 1) l 100 (i : Int) false) = sakialaw15_Long.j1 (k + 1) l 100 (i : Int) false := by
      split
      · rw [decide_eq_false (by omega)]
      · rfl
    refine ⟨decide ((l.length : Int) > 100), ?_, fun hb => ?_⟩
    · simp only [sakialaw15_Long.l0]
      rw [e]
      simp only [sakialaw15_Long.j1]
      rw [if_neg (by simp)]
    · have hl : l.length ≤ 100 := by have := of_decide_eq_false hb; omega
      exact ⟨hl, fun x hx => by
        obtain ⟨j, hj2, rfl⟩ := List.mem_iff_getElem.1 hx
        exact hj j hj2 (by omega)⟩
  | succ d ih =>
    intro k i hd hi hj hk
    obtain ⟨k, rfl⟩ : ∃ n, k = n + 2 := ⟨k - 2, by omega⟩
    simp only [sakialaw15_Long.l0]
    by_cases hlt : i < l.length
    · rw [if_pos (by omega), decide_eq_true (by omega : (i : Int) < 100)]
      simp only [sakialaw15_Long.j1]
      rw [if_pos trivial, if_pos (by omega), if_pos (by omega), rdT l i hlt]
      by_cases hc : (l[i].f6.length : Int) > 100
      · exact ⟨true, by rw [if_pos hc], fun h => by simp at h⟩
      · rw [if_neg hc, ws (by omega)]
        exact ih k (i + 1) (by omega) (by omega) (fun j h hji => by
          by_cases e : j = i
          · subst e; omega
          · exact hj j h (by omega)) (by omega)
    · rw [if_neg (by omega)]
      simp only [sakialaw15_Long.j1]
      rw [if_neg (by simp)]
      refine ⟨_, rfl, fun _ => ⟨by omega, fun x hx => ?_⟩⟩
      obtain ⟨j, hj2, rfl⟩ := List.mem_iff_getElem.1 hx
      exact hj j hj2 (by omega)
theorem long_ok (l : List S76) (k : Nat) (hk : 1000 ≤ k) : ∃ b, sakialaw15_Long.f k l 100 = some b ∧ (b = false → Small l) :=
  long_loop l 100 k 0 (by omega) (by omega) (fun j h hj => by omega) (by omega)
theorem rsame5_loop (l m : List Int) (hl : l.length = m.length) (hb : l.length < 4611686018427387904) : ∀ (d k i : Nat), l.length - i = d → i ≤ l.length → d < k → sakiaref05_Same.l0 k l m (i : Int) = some (l.drop i == m.drop i) := by
  intro d
  induction d with
  | zero =>
    intro k i hd hi hk
    obtain ⟨k, rfl⟩ : ∃ n, k = n + 1 := ⟨k - 1, by omega⟩
    simp only [sakiaref05_Same.l0]
    rw [if_neg (by omega), List.drop_eq_nil_of_le (by omega), List.drop_eq_nil_of_le (by omega)]; rfl
  | succ d ih =>
    intro k i hd hi hk
    obtain ⟨k, rfl⟩ : ∃ n, k = n + 1 := ⟨k - 1, by omega⟩
    simp only [sakiaref05_Same.l0]
    rw [if_pos (by omega), if_pos (by omega), if_pos (by omega), rd_nat _ _ (by omega), rd_nat _ _ (by omega), List.drop_eq_getElem_cons (by omega : i < l.length), List.drop_eq_getElem_cons (by omega : i < m.length)]
    by_cases h : l[i] = m[i]
    · rw [if_pos h, ws (by omega), ih k (i + 1) (by omega) (by omega) (by omega), List.cons_beq_cons, beq_iff_eq.2 h, Bool.true_and]
    · rw [if_neg h, List.cons_beq_cons, beq_eq_false_iff_ne.2 h, Bool.false_and]
theorem rsame5_ok (l m : List Int) (hb : l.length ≤ 100) (k : Nat) (hk : 200 ≤ k) : sakiaref05_Same.f k l m = some (l == m) := by
  simp only [sakiaref05_Same.f]
  by_cases h : l.length = m.length
  · rw [if_pos (by omega)]
    have := rsame5_loop l m h (by omega) l.length k 0 (by omega) (by omega) (by omega)
    simpa using this
  · rw [if_neg (by omega)]
    have : (l == m) = false := by
      rw [beq_eq_false_iff_ne]
      intro e; rw [e] at h; exact h rfl
    rw [this]
def sameE (a b : S76) : Bool := a.f0 == b.f0 && (a.f1 == b.f1 && (a.f2 == b.f2 && (a.f3 == b.f3 && (a.f4 == b.f4 && (a.f5 == b.f5 && a.f6 == b.f6)))))
theorem one_ok (a b : S76) (hb : a.f6.length ≤ 100) (k : Nat) (hk : 200 ≤ k) : sakiaref15_One.f k a.f0 a.f1 a.f2 a.f3 a.f4 a.f5 a.f6 b.f0 b.f1 b.f2 b.f3 b.f4 b.f5 b.f6 = some (sameE a b) := by
  unfold sakiaref15_One.f sameE
  rw [rsame5_ok a.f6 b.f6 hb k hk]
  by_cases h0 : a.f0 = b.f0
  · by_cases h1 : a.f1 = b.f1
    · by_cases h2 : a.f2 = b.f2
      · by_cases h3 : a.f3 = b.f3
        · by_cases h4 : a.f4 = b.f4
          · by_cases h5 : a.f5 = b.f5
            · simp [h0, h1, h2, h3, h4, h5]
            · simp [h0, h1, h2, h3, h4, h5]
          · simp [h0, h1, h2, h3, h4]
        · simp [h0, h1, h2, h3]
      · simp [h0, h1, h2]
    · simp [h0, h1]
  · simp [h0]
def sameL (l m : List S76) : Bool := decide (l.length = m.length) && (List.range l.length).all fun i => sameE (rd_T76 l (i : Int)) (rd_T76 m (i : Int))
theorem rsame_loop (l m : List S76) (hl : Small l) (he : l.length = m.length) : ∀ (d k i : Nat), l.length - i = d → i ≤ l.length → d + 200 < k → (∀ j, j < i → sameE (rd_T76 l (j : Int)) (rd_T76 m (j : Int)) = true) → sakiaref15_Same.l0 k l m (i : Int) = some (sameL l m) := by
  intro d
  induction d with
  | zero =>
    intro k i hd hi hk hj
    obtain ⟨k, rfl⟩ : ∃ n, k = n + 1 := ⟨k - 1, by omega⟩
    simp only [sakiaref15_Same.l0]
    rw [if_neg (by omega)]
    have : sameL l m = true := by
      unfold sameL
      rw [Bool.and_eq_true]
      exact ⟨decide_eq_true he, List.all_eq_true.2 fun j hj' => hj j (by have := List.mem_range.1 hj'; omega)⟩
    rw [this]
  | succ d ih =>
    intro k i hd hi hk hj
    obtain ⟨k, rfl⟩ : ∃ n, k = n + 1 := ⟨k - 1, by omega⟩
    have hlt : i < l.length := by omega
    have hs := hl.1
    simp only [sakiaref15_Same.l0]
    rw [if_pos (by omega), if_pos (by omega), if_pos (by omega), one_ok _ _ (by rw [rdT l i hlt]; exact hl.at i hlt) k (by omega)]
    simp only [Option.bind_some]
    by_cases hc : sameE (rd_T76 l (i : Int)) (rd_T76 m (i : Int)) = true
    · rw [if_pos hc, ws (by omega)]
      exact ih k (i + 1) (by omega) (by omega) (by omega) (fun j hji => by
        by_cases e : j = i
        · subst e; exact hc
        · exact hj j (by omega))
    · rw [if_neg hc]
      have : sameL l m = false := by
        unfold sameL
        rw [Bool.and_eq_false_iff]
        right
        rw [List.all_eq_false]
        exact ⟨i, List.mem_range.2 hlt, hc⟩
      rw [this]
theorem rsame_ok (l m : List S76) (hl : Small l) (k : Nat) (hk : 1000 ≤ k) : sakiaref15_Same.f k l m = some (sameL l m) := by
  have := hl.1
  simp only [sakiaref15_Same.f]
  by_cases h : l.length = m.length
  · rw [if_pos (by omega)]
    exact rsame_loop l m hl h l.length k 0 (by omega) (by omega) (by omega) (fun j hj => by omega)
  · rw [if_neg (by omega)]
    have : sameL l m = false := by unfold sameL; rw [decide_eq_false h]; rfl
    rw [this]
theorem sameE_refl (x : S76) : sameE x x = true := by unfold sameE; simp
theorem sameL_refl (l : List S76) : sameL l l = true := by
  unfold sameL
  rw [Bool.and_eq_true]
  exact ⟨decide_eq_true rfl, List.all_eq_true.2 fun j _ => sameE_refl _⟩
end Go.Proofs.YtabcdcnnamflfaaDoor.QTe
