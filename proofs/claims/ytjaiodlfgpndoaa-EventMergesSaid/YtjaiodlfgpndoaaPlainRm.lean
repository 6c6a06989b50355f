/- Plain laws of sakiaref15.Merge: it answers what event.Merge does. -/
import Derived.Test.YtjaiodlfgpndoaaPlainMg
import Derived.Test.YtjaiodlfgpndoaaRMergeF
set_option linter.unusedVariables false
set_option linter.unusedSimpArgs false
namespace Go.Proofs.Ytjaiodlfgpndoaa.QEv
open Go.RowKit Go.Proofs.YtjaiodlfgpndoaaW.PrintWords Go.Proofs.YtjaiodlfgpndoaaW.PrintLast
theorem rplus_ok (w p n : Int) : sakiaref01_Plus.f w p n = some (Wide.plusW w p n) := by
  rw [← Wide.rplus_eq]
  unfold sakiaref01_Plus.f sakiaref01_Cut.f Wide.cutW Wide.a64
  have hb : 0 ≤ IntKind.u64.wrap (p + IntKind.u64.wrap n) := by simp only [Wide.u64_wrap]; omega
  split
  · rw [Int.tmod_eq_emod_of_nonneg hb]; rfl
  · split <;> rfl
theorem rm_both (w : Int) (l : List S56) (hl : Fit l) : ∀ d : Nat,
    (∀ (k i : Nat) (o : List S56), l.length - i = d → i ≤ l.length → 2 * d + 1 ≤ k → o.length ≤ i → total o + total (l.drop i) ≤ 20000 → (∀ h : i < l.length, mstep w o l[i] = o ++ [l[i]]) → sakiaref15_Merge.l0 k w l o (i : Int) = some ((l.drop i).foldl (mstep w) o)) ∧
    (∀ (k i : Nat) (o : List S56) (c : S56), l.length - i = d → i ≤ l.length → 2 * d + 2 ≤ k → o.length + 1 ≤ i → total o + c.f6.length + total (l.drop i) ≤ 20000 → sakiaref15_Merge.l1 k w l o (i : Int) c.f0 c.f1 c.f2 c.f3 c.f4 c.f5 c.f6 = some ((l.drop i).foldl (mstep w) (o ++ [c]))) := by
  have hs := hl.1
  -- the outer loop, given the inner one further on
  have outer : ∀ d : Nat, (∀ (k i : Nat) (o : List S56) (c : S56), l.length - i = d → i ≤ l.length → 2 * d + 2 ≤ k → o.length + 1 ≤ i → total o + c.f6.length + total (l.drop i) ≤ 20000 → sakiaref15_Merge.l1 k w l o (i : Int) c.f0 c.f1 c.f2 c.f3 c.f4 c.f5 c.f6 = some ((l.drop i).foldl (mstep w) (o ++ [c]))) →
      (∀ (k i : Nat) (o : List S56), l.length - i = d + 1 → i ≤ l.length → 2 * (d + 1) + 1 ≤ k → o.length ≤ i → total o + total (l.drop i) ≤ 20000 → (∀ h : i < l.length, mstep w o l[i] = o ++ [l[i]]) → sakiaref15_Merge.l0 k w l o (i : Int) = some ((l.drop i).foldl (mstep w) o)) := by
    intro d ih k i o hd hi hk ho ht hn
    obtain ⟨k, rfl⟩ : ∃ n, k = n + 1 := ⟨k - 1, by omega⟩
    have hlt : i < l.length := by omega
    have hx := hl.at i hlt
    rw [total_at l i hlt] at ht
    rw [List.drop_eq_getElem_cons hlt, List.foldl_cons, hn hlt, ← ih k (i + 1) o l[i] (by omega) (by omega) (by omega) (by omega) (by omega)]
    simp only [sakiaref15_Merge.l0]
    rw [if_pos (by omega), if_pos (by omega), rdT l i hlt, ws (by omega)]
    simp only [Option.bind_some, List.nil_append, List.length_nil]
    rw [if_pos (by omega)]
  -- the inner loop's end
  have fin : ∀ (d k i : Nat) (o : List S56) (c : S56), (∀ (k i : Nat) (o : List S56), l.length - i = d → i ≤ l.length → 2 * d + 1 ≤ k → o.length ≤ i → total o + total (l.drop i) ≤ 20000 → (∀ h : i < l.length, mstep w o l[i] = o ++ [l[i]]) → sakiaref15_Merge.l0 k w l o (i : Int) = some ((l.drop i).foldl (mstep w) o)) → l.length - i = d → i ≤ l.length → 2 * d + 1 ≤ k → o.length + 1 ≤ i → total o + c.f6.length + total (l.drop i) ≤ 20000 → (∀ h : i < l.length, joinsB w c l[i] = false) → (if o.length < 1954687338268 then sakiaref15_Merge.l0 k w l (o ++ [(⟨c.f0, c.f1, c.f2, c.f3, c.f4, c.f5, c.f6⟩ : S56)]) (i : Int) else none) = some ((l.drop i).foldl (mstep w) (o ++ [c])) := by
    intro d k i o c h0 hd hi hk ho ht hj
    rw [if_pos (by omega), eta]
    exact h0 k i (o ++ [c]) hd hi hk (by simpa using ho) (by rw [total_snoc]; exact ht) (fun h => by rw [mstep_snoc, hj h]; rfl)
  intro d
  induction d with
  | zero =>
    have h0 : ∀ (k i : Nat) (o : List S56), l.length - i = 0 → i ≤ l.length → 2 * 0 + 1 ≤ k → o.length ≤ i → total o + total (l.drop i) ≤ 20000 → (∀ h : i < l.length, mstep w o l[i] = o ++ [l[i]]) → sakiaref15_Merge.l0 k w l o (i : Int) = some ((l.drop i).foldl (mstep w) o) := by
      intro k i o hd hi hk ho ht hn
      obtain ⟨k, rfl⟩ : ∃ n, k = n + 1 := ⟨k - 1, by omega⟩
      simp only [sakiaref15_Merge.l0]
      rw [if_neg (by omega), List.drop_eq_nil_of_le (by omega)]; rfl
    refine ⟨h0, ?_⟩
    intro k i o c hd hi hk ho ht
    obtain ⟨k, rfl⟩ : ∃ n, k = n + 1 := ⟨k - 1, by omega⟩
    simp only [sakiaref15_Merge.l1]
    rw [if_neg (by omega)]
    exact fin 0 k i o c h0 hd hi (by omega) ho ht (fun h => by omega)
  | succ d ih =>
    have h0 := outer d ih.2
    refine ⟨h0, ?_⟩
    intro k i o c hd hi hk ho ht
    obtain ⟨k, rfl⟩ : ∃ n, k = n + 1 := ⟨k - 1, by omega⟩
    have hlt : i < l.length := by omega
    have e1 := eq_true (show (i : Int) < (l.length : Int) by omega)
    have e2 := eq_true (show 0 ≤ (i : Int) by omega)
    have no : joinsB w c l[i] = false → (if o.length < 1954687338268 then sakiaref15_Merge.l0 k w l (o ++ [(⟨c.f0, c.f1, c.f2, c.f3, c.f4, c.f5, c.f6⟩ : S56)]) (i : Int) else none) = some ((l.drop i).foldl (mstep w) (o ++ [c])) := fun hj => fin (d + 1) k i o c h0 hd hi (by omega) ho ht (fun _ => hj)
    simp only [sakiaref15_Merge.l1, e1, e2, if_true, rdT l i hlt, rplus_ok, Option.bind_some]
    by_cases c0 : c.f0 = 5
    · rw [if_pos c0]
      by_cases b0 : l[i].f0 = 5
      · rw [if_pos b0]
        by_cases t1 : l[i].f1 = c.f1
        · rw [if_pos t1]
          by_cases p4 : l[i].f4 = Wide.plusW w c.f4 c.f3
          · have hj : joinsB w c l[i] = true := by unfold joinsB; rw [beq_iff_eq.2 c0, beq_iff_eq.2 b0, beq_iff_eq.2 t1.symm, beq_iff_eq.2 p4.symm]; rfl
            rw [total_at l i hlt] at ht
            rw [if_pos p4, if_pos (by omega), ws (by omega), List.drop_eq_getElem_cons hlt, List.foldl_cons, mstep_snoc, if_pos hj]
            exact ih.2 k (i + 1) o (glue c l[i]) (by omega) (by omega) (by omega) (by omega) (by simp only [glue, List.length_append]; omega)
          · rw [if_neg p4]
            exact no (by unfold joinsB; rw [beq_eq_false_iff_ne.2 (fun e => p4 e.symm)]; simp)
        · rw [if_neg t1]
          exact no (by unfold joinsB; rw [beq_eq_false_iff_ne.2 (fun e => t1 e.symm)]; simp)
      · rw [if_neg b0]
        exact no (by unfold joinsB; rw [beq_eq_false_iff_ne.2 b0]; simp)
    · rw [if_neg c0]
      exact no (by unfold joinsB; rw [beq_eq_false_iff_ne.2 c0]; simp)
theorem rmerge_ok (w : Int) (l : List S56) (hl : Fit l) (k : Nat) (hk : 1000 ≤ k) : sakiaref15_Merge.f k w l = some (mergeL w l) := by
  have := hl.1
  exact (rm_both w l hl l.length).1 k 0 [] (by omega) (by omega) (by omega) (by simp) (by simpa [total] using hl.2) (fun h => rfl)
end Go.Proofs.Ytjaiodlfgpndoaa.QEv
