/- Plain laws of the events' functions that EventMerges and EventLogs need: lists and numbers alone. -/
import Derived.Test.YtjaiodlfgpndoaaQEvx4
import Derived.Test.YtjaiodlfgpndoaaQEvx5
set_option linter.unusedVariables false
namespace Go.Proofs.Ytjaiodlfgpndoaa.QEv
open Go.RowKit Go.Proofs.YtjaiodlfgpndoaaW.PrintWords Go.Proofs.YtjaiodlfgpndoaaW.PrintLast
theorem rd_nat (xs : List Int) (i : Nat) (h : i < xs.length) : rd xs (i : Int) = xs[i] := by simp [rd, h]
theorem ws {i : Nat} (h : i < 4611686018427387904) : wrap64 ((i : Int) + 1) = ((i + 1 : Nat) : Int) := by unfold wrap64; omega
theorem rdT (l : List S56) (i : Nat) (h : i < l.length) : rd_T56 l (i : Int) = l[i] := by simp [rd_T56, h]
def Small (l : List S56) : Prop := l.length ≤ 200 ∧ ∀ x ∈ l, x.f6.length ≤ 100
theorem Small.at {l : List S56} (h : Small l) (i : Nat) (hi : i < l.length) : l[i].f6.length ≤ 100 := h.2 _ (List.getElem_mem hi)
theorem long_loop (l : List S56) : ∀ (d k i : Nat), 200 - i = d → i ≤ 200 → (∀ j (h : j < l.length), j < i → l[j].f6.length ≤ 100) → 2 * d + 1 < k → ∃ b, sakialaw15_Long.l0 k l 200 (i : Int) = some b ∧ (b = false → Small l) := by
  intro d
  induction d with
  | zero =>
    intro k i hd hi hj hk
    obtain ⟨k, rfl⟩ : ∃ n, k = n + 2 := ⟨k - 2, by omega⟩
    have e : (if (i : Int) < (l.length : Int) then sakialaw15_Long.j1 (k + 1) l 200 (i : Int) (decide ((i : Int) < 200)) else sakialaw15_Long.j1 (k + 1) l 200 (i : Int) false) = sakialaw15_Long.j1 (k + 1) l 200 (i : Int) false := by
      split
      · rw [decide_eq_false (by omega)]
      · rfl
    refine ⟨decide ((l.length : Int) > 200), ?_, fun hb => ?_⟩
    · simp only [sakialaw15_Long.l0]
      rw [e]
      simp only [sakialaw15_Long.j1]
      rw [if_neg (by simp)]
    · have hl : l.length ≤ 200 := by have := of_decide_eq_false hb; omega
      exact ⟨hl, fun x hx => by
        obtain ⟨j, hj2, rfl⟩ := List.mem_iff_getElem.1 hx
        exact hj j hj2 (by omega)⟩
  | succ d ih =>
    intro k i hd hi hj hk
    obtain ⟨k, rfl⟩ : ∃ n, k = n + 2 := ⟨k - 2, by omega⟩
    simp only [sakialaw15_Long.l0]
    by_cases hlt : i < l.length
    · rw [if_pos (by omega), decide_eq_true (by omega : (i : Int) < 200)]
      simp only [sakialaw15_Long.j1]
      rw [if_pos trivial, if_pos (by omega), if_pos (by omega), rdT l i hlt]
      by_cases hc : (l[i].f6.length : Int) > 100
      · exact ⟨true, by rw [if_pos hc], fun h => by simp at h⟩
      · rw [if_neg hc, ws (by omega)]
        exact ih k (i + 1) (by omega) (by omega) (fun j h hji => by
          by_cases e : j = i
          · subst e; omega
          · exact hj j h (by omega)) (by omega)
    · rw [if_neg (by omega)]
      simp only [sakialaw15_Long.j1]
      rw [if_neg (by simp)]
      refine ⟨_, rfl, fun _ => ⟨by omega, fun x hx => ?_⟩⟩
      obtain ⟨j, hj2, rfl⟩ := List.mem_iff_getElem.1 hx
      exact hj j hj2 (by omega)
theorem long_ok (l : List S56) (k : Nat) (hk : 1000 ≤ k) : ∃ b, sakialaw15_Long.f k l 200 = some b ∧ (b = false → Small l) :=
  long_loop l 200 k 0 (by omega) (by omega) (fun j h hj => by omega) (by omega)
theorem copied_ok (x : S56) (h : x.f6.length ≤ 100) : event_copied.f x.f0 x.f1 x.f2 x.f3 x.f4 x.f5 x.f6 = some (x.f0, x.f1, x.f2, x.f3, x.f4, x.f5, x.f6) := by
  simp only [event_copied.f, Option.bind_some]
  rw [if_pos (by simp; omega)]; rfl
theorem eta (x : S56) : (⟨x.f0, x.f1, x.f2, x.f3, x.f4, x.f5, x.f6⟩ : S56) = x := rfl
theorem copy_loop (l : List S56) (hl : Small l) : ∀ (d k i : Nat), l.length - i = d → i ≤ l.length → d < k → event_Copy.l0 k (l.take i) l (l.length : Int) (i : Int) = some l := by
  intro d
  induction d with
  | zero =>
    intro k i hd hi hk
    obtain ⟨k, rfl⟩ : ∃ n, k = n + 1 := ⟨k - 1, by omega⟩
    simp only [event_Copy.l0]
    rw [if_neg (by omega), List.take_of_length_le (by omega)]
  | succ d ih =>
    intro k i hd hi hk
    obtain ⟨k, rfl⟩ : ∃ n, k = n + 1 := ⟨k - 1, by omega⟩
    have hlt : i < l.length := by omega
    have hs := hl.1
    simp only [event_Copy.l0]
    rw [if_pos (by omega), if_pos (by omega), if_pos (by omega), rdT l i hlt, copied_ok _ (hl.at i hlt)]
    simp only [Option.bind_some, eta]
    rw [if_pos (by simp; omega), ws (by omega)]
    have := ih k (i + 1) (by omega) (by omega) (by omega)
    rw [List.take_succ_eq_append_getElem hlt] at this
    exact this
theorem copy_ok (l : List S56) (hl : Small l) (k : Nat) (hk : 1000 ≤ k) : event_Copy.f k l = some l := by
  have := hl.1
  exact copy_loop l hl l.length k 0 (by omega) (by omega) (by omega)
theorem rsame5_loop (l m : List Int) (hl : l.length = m.length) (hb : l.length < 4611686018427387904) : ∀ (d k i : Nat), l.length - i = d → i ≤ l.length → d < k → sakiaref05_Same.l0 k l m (i : Int) = some (l.drop i == m.drop i) := by
  intro d
  induction d with
  | zero =>
    intro k i hd hi hk
    obtain ⟨k, rfl⟩ : ∃ n, k = n + 1 := ⟨k - 1, by omega⟩
    simp only [sakiaref05_Same.l0]
    rw [if_neg (by omega), List.drop_eq_nil_of_le (by omega), List.drop_eq_nil_of_le (by omega)]; rfl
  | succ d ih =>
    intro k i hd hi hk
    obtain ⟨k, rfl⟩ : ∃ n, k = n + 1 := ⟨k - 1, by omega⟩
    simp only [sakiaref05_Same.l0]
    rw [if_pos (by omega), if_pos (by omega), if_pos (by omega), rd_nat _ _ (by omega), rd_nat _ _ (by omega), List.drop_eq_getElem_cons (by omega : i < l.length), List.drop_eq_getElem_cons (by omega : i < m.length)]
    by_cases h : l[i] = m[i]
    · rw [if_pos h, ws (by omega), ih k (i + 1) (by omega) (by omega) (by omega), List.cons_beq_cons, beq_iff_eq.2 h, Bool.true_and]
    · rw [if_neg h, List.cons_beq_cons, beq_eq_false_iff_ne.2 h, Bool.false_and]
theorem rsame5_ok (l m : List Int) (hb : l.length ≤ 100) (k : Nat) (hk : 200 ≤ k) : sakiaref05_Same.f k l m = some (l == m) := by
  simp only [sakiaref05_Same.f]
  by_cases h : l.length = m.length
  · rw [if_pos (by omega)]
    have := rsame5_loop l m h (by omega) l.length k 0 (by omega) (by omega) (by omega)
    simpa using this
  · rw [if_neg (by omega)]
    have : (l == m) = false := by
      rw [beq_eq_false_iff_ne]
      intro e; rw [e] at h; exact h rfl
    rw [this]
end Go.Proofs.Ytjaiodlfgpndoaa.QEv
