/- Plain laws of event.Merge and event.Shift: lists and numbers alone. -/
import Derived.Test.YtjaiodlfgpndoaaPlainA
import Derived.Test.YtjaiodlfgpndoaaQEvx2
import Derived.Test.YtjaiodlfgpndoaaQEvx6
import Derived.Test.YtjaiodlfgpndoaaWide
set_option linter.unusedVariables false
set_option linter.unusedSimpArgs false
namespace Go.Proofs.Ytjaiodlfgpndoaa.QEv
open Go.RowKit Go.Proofs.YtjaiodlfgpndoaaW.PrintWords Go.Proofs.YtjaiodlfgpndoaaW.PrintLast
/-! ### numbers -/
theorem plus_ok (w p n : Int) : wide_Plus.f w p n = some (Wide.plusW w p n) := by
  unfold wide_Plus.f Wide.plusW
  split
  · simp only [wide_Of_uint32.f, wide_Add_uint32.f, wide_Up_uint32.f, Option.bind_some, Wide.a32, Wide.u64_wrap]
    congr 1; omega
  · split
    · rfl
    · rfl
theorem gap_ok (w p n : Int) : wide_Gap.f w p n = some (Wide.gapW w p n) := by
  unfold wide_Gap.f Wide.gapW
  split
  · simp only [wide_Of_uint32.f, wide_Diff_uint32.f, wide_signed_uint32.f, wide_Bits_uint32.f, Option.bind_some, Wide.d32, Wide.s32, if_true]
  · split
    · simp only [wide_Diff_uint64.f, wide_signed_uint64.f, wide_Bits_uint64.f, Option.bind_some, Wide.d64]
      rw [if_neg (by decide)]; rfl
    · rfl
theorem right_ok (w : Int) : wide_Right.f w = some (Wide.rightW w) := by
  unfold wide_Right.f Wide.rightW
  split
  · next h => subst h; rfl
  · next h => rw [beq_eq_false_iff_ne.2 h, Bool.false_or]
def joinsB (w : Int) (a b : S56) : Bool := a.f0 == 5 && (b.f0 == 5 && (a.f1 == b.f1 && Wide.plusW w a.f4 a.f3 == b.f4))
theorem joins_ok (w : Int) (a b : S56) : event_joins.f w a.f0 a.f1 a.f2 a.f3 a.f4 a.f5 a.f6 b.f0 b.f1 b.f2 b.f3 b.f4 b.f5 b.f6 = some (joinsB w a b) := by
  unfold event_joins.f joinsB
  rw [plus_ok]
  by_cases h0 : a.f0 = 5
  · by_cases h1 : b.f0 = 5
    · by_cases h2 : a.f1 = b.f1
      · simp [h0, h1, h2]
      · simp [h0, h1, h2]
    · simp [h0, h1]
  · simp [h0]
/-! ### merging -/
def glue (a b : S56) : S56 := ⟨a.f0, a.f1, a.f2, wrap64 (a.f3 + b.f3), a.f4, a.f5, a.f6 ++ b.f6⟩
def mstep (w : Int) (out : List S56) (e : S56) : List S56 := match out.getLast? with
  | some c => if joinsB w c e = true then out.dropLast ++ [glue c e] else out ++ [e]
  | none => [e]
def mergeL (w : Int) (l : List S56) : List S56 := l.foldl (mstep w) []
theorem mstep_nil (w : Int) (e : S56) : mstep w [] e = [e] := rfl
theorem mstep_snoc (w : Int) (o : List S56) (c e : S56) : mstep w (o ++ [c]) e = if joinsB w c e = true then o ++ [glue c e] else o ++ [c] ++ [e] := by
  unfold mstep
  simp only [List.getLast?_append, List.getLast?_singleton, Option.some_or, List.dropLast_concat]
def total (l : List S56) : Nat := (l.map fun x => x.f6.length).sum
theorem total_snoc (l : List S56) (e : S56) : total (l ++ [e]) = total l + e.f6.length := by simp [total]
theorem total_cons (l : List S56) (e : S56) : total (e :: l) = e.f6.length + total l := by simp [total]
theorem total_at (l : List S56) (i : Nat) (h : i < l.length) : total (l.drop i) = l[i].f6.length + total (l.drop (i + 1)) := by rw [List.drop_eq_getElem_cons h, total_cons]
theorem total_mem : ∀ (l : List S56) (x : S56), x ∈ l → x.f6.length ≤ total l
  | [], x, h => by simp at h
  | a :: l, x, h => by
    rw [total_cons]
    rcases List.mem_cons.1 h with rfl | h
    · omega
    · have := total_mem l x h; omega
theorem total_drop (l : List S56) (i : Nat) : total (l.drop i) ≤ total l := by
  have : total (l.take i ++ l.drop i) = total (l.take i) + total (l.drop i) := by unfold total; rw [List.map_append, List.sum_append]
  rw [List.take_append_drop] at this
  omega
theorem snoc_cases (o : List S56) : o = [] ∨ ∃ p c, o = p ++ [c] := by
  cases o with
  | nil => exact .inl rfl
  | cons a o => exact .inr ⟨(a :: o).dropLast, (a :: o).getLast (by simp), (List.dropLast_concat_getLast (by simp)).symm⟩
theorem mstep_len (w : Int) (o : List S56) (e : S56) : (mstep w o e).length ≤ o.length + 1 := by
  rcases snoc_cases o with rfl | ⟨p, c, rfl⟩
  · simp [mstep_nil]
  · rw [mstep_snoc]; split <;> simp
theorem mstep_total (w : Int) (o : List S56) (e : S56) : total (mstep w o e) = total o + e.f6.length := by
  rcases snoc_cases o with rfl | ⟨p, c, rfl⟩
  · simp [mstep_nil, total]
  · rw [mstep_snoc]; split
    · simp only [total_snoc, glue, List.length_append]; omega
    · simp only [total_snoc]
theorem fold_len (w : Int) : ∀ (l o : List S56), (l.foldl (mstep w) o).length ≤ o.length + l.length
  | [], o => by simp
  | e :: l, o => by
    have h1 := fold_len w l (mstep w o e)
    have h2 := mstep_len w o e
    simp only [List.foldl_cons, List.length_cons]; omega
theorem fold_total (w : Int) : ∀ (l o : List S56), total (l.foldl (mstep w) o) = total o + total l
  | [], o => by simp [total]
  | e :: l, o => by
    rw [List.foldl_cons, fold_total w l, mstep_total, total_cons]; omega
theorem merge_len (w : Int) (l : List S56) : (mergeL w l).length ≤ l.length := by
  have := fold_len w l []
  simpa [mergeL] using this
theorem merge_total (w : Int) (l : List S56) : total (mergeL w l) = total l := by
  have := fold_total w l []
  simpa [mergeL, total] using this
theorem merge_snoc (w : Int) (l : List S56) (e : S56) : mergeL w (l ++ [e]) = mstep w (mergeL w l) e := by
  simp [mergeL, List.foldl_append]
theorem joins_glue (w : Int) (d c e : S56) : joinsB w d (glue c e) = joinsB w d c := rfl
theorem snoc_inj {p o : List S56} {c d : S56} (h : p ++ [c] = o ++ [d]) : p = o ∧ c = d := by
  have := List.append_inj' h rfl
  exact ⟨this.1, by simpa using this.2⟩
theorem merge_idem (w : Int) : ∀ (n : Nat) (l : List S56), l.length = n → mergeL w (mergeL w l) = mergeL w l := by
  intro n
  induction n with
  | zero => intro l h; obtain rfl := List.eq_nil_of_length_eq_zero h; rfl
  | succ n ih =>
    intro l h
    rcases snoc_cases l with rfl | ⟨l, e, rfl⟩
    · simp at h
    · have IH := ih l (by simpa using h)
      rw [merge_snoc]
      rcases snoc_cases (mergeL w l) with h0 | ⟨o, c, h0⟩
      · rw [h0]; rfl
      · rw [h0] at IH ⊢
        rw [mstep_snoc]
        split
        · next hj =>
          rw [merge_snoc] at IH ⊢
          rcases snoc_cases (mergeL w o) with h1 | ⟨p, d, h1⟩
          · rw [h1] at IH ⊢
            have : o = [] := by
              rw [mstep_nil] at IH
              have := congrArg List.length IH
              simp at this
              exact this
            subst this; rfl
          · rw [h1] at IH ⊢
            rw [mstep_snoc] at IH ⊢
            rw [joins_glue]
            split at IH
            · obtain ⟨rfl, _⟩ := snoc_inj IH
              have := merge_len w p
              rw [h1] at this
              simp at this
              omega
            · next hd =>
              rw [if_neg hd]
              obtain ⟨rfl, _⟩ := snoc_inj IH
              rfl
        · next hj =>
          rw [merge_snoc, IH, mstep_snoc, if_neg hj]
/-! ### rows of at most 200, of at most 20000 numbers -/
def Fit (l : List S56) : Prop := l.length ≤ 200 ∧ total l ≤ 20000
theorem Fit.at {l : List S56} (h : Fit l) (i : Nat) (hi : i < l.length) : l[i].f6.length ≤ 20000 := Nat.le_trans (total_mem _ _ (List.getElem_mem hi)) h.2
theorem small_total : ∀ (l : List S56), (∀ x ∈ l, x.f6.length ≤ 100) → total l ≤ 100 * l.length
  | [], _ => by simp [total]
  | e :: l, h => by
    have h1 := small_total l (fun x hx => h x (List.mem_cons_of_mem _ hx))
    have h2 := h e (List.mem_cons_self ..)
    rw [total_cons]; simp only [List.length_cons]; omega
theorem Small.fit {l : List S56} (h : Small l) : Fit l := ⟨h.1, by have := small_total l h.2; have := h.1; omega⟩
theorem Fit.merge {l : List S56} (h : Fit l) (w : Int) : Fit (mergeL w l) := ⟨Nat.le_trans (merge_len w l) h.1, by rw [merge_total]; exact h.2⟩
theorem copied_fit (x : S56) (h : x.f6.length ≤ 20000) : event_copied.f x.f0 x.f1 x.f2 x.f3 x.f4 x.f5 x.f6 = some (x.f0, x.f1, x.f2, x.f3, x.f4, x.f5, x.f6) := by
  simp only [event_copied.f, Option.bind_some]
  rw [if_pos (by simp; omega)]; rfl
theorem rd_snoc (p : List S56) (c : S56) : rd_T56 (p ++ [c]) (p.length : Int) = c := by simp [rd_T56]
theorem set_snoc (p : List S56) (c x : S56) : (p ++ [c]).set p.length x = p ++ [x] := by simp
theorem merge_loop (w : Int) (l : List S56) (hl : Fit l) : ∀ (d k i : Nat) (o : List S56), l.length - i = d → i ≤ l.length → d < k → o.length ≤ i → total o + total (l.drop i) ≤ 20000 → event_Merge.l0 k w o l (l.length : Int) (i : Int) = some ((l.drop i).foldl (mstep w) o) := by
  intro d
  induction d with
  | zero =>
    intro k i o hd hi hk ho ht
    obtain ⟨k, rfl⟩ : ∃ n, k = n + 1 := ⟨k - 1, by omega⟩
    simp only [event_Merge.l0]
    rw [if_neg (by omega), List.drop_eq_nil_of_le (by omega)]; rfl
  | succ d ih =>
    intro k i o hd hi hk ho ht
    obtain ⟨k, rfl⟩ : ∃ n, k = n + 1 := ⟨k - 1, by omega⟩
    have hlt : i < l.length := by omega
    have hs := hl.1
    have hx := hl.at i hlt
    rw [total_at l i hlt] at ht
    rw [List.drop_eq_getElem_cons hlt, List.foldl_cons]
    have IH := ih k (i + 1) (mstep w o l[i]) (by omega) (by omega) (by omega) (by have := mstep_len w o l[i]; omega) (by rw [mstep_total]; omega)
    rw [← IH]
    simp only [event_Merge.l0]
    rw [if_pos (by omega), if_pos (by omega), if_pos (by omega), rdT l i hlt, ws (by omega)]
    rcases snoc_cases o with rfl | ⟨p, c, rfl⟩
    · have e0 : wrap64 ((([] : List S56).length : Int) - 1) = -1 := by simp [wrap64]
      rw [e0, if_neg (by decide), copied_fit _ hx]
      simp only [Option.bind_some, eta]
      rw [if_pos (by simp)]
      rfl
    · have hp : p.length + 1 ≤ i := by simpa using ho
      have e0 : wrap64 (((p ++ [c]).length : Int) - 1) = (p.length : Int) := by
        rw [List.length_append, List.length_singleton]; unfold wrap64; omega
      rw [e0, if_pos (by omega), if_pos (by omega), if_pos (by simp; omega), rd_snoc, joins_ok, Int.toNat_natCast, set_snoc, set_snoc, mstep_snoc]
      simp only [Option.bind_some]
      rw [total_snoc] at ht
      by_cases hj : joinsB w c l[i] = true
      · rw [if_pos hj, if_pos hj, if_pos (by omega)]; rfl
      · rw [if_neg hj, if_neg hj, copied_fit _ hx]
        simp only [Option.bind_some, eta]
        rw [if_pos (by simp; omega)]
theorem merge_ok (w : Int) (l : List S56) (hl : Fit l) (hw : Wide.rightW w = true) (k : Nat) (hk : 1000 ≤ k) : event_Merge.f k w l = some (mergeL w l) := by
  have := hl.1
  simp only [event_Merge.f]
  rw [right_ok, hw]
  simp only [Option.bind_some, if_true]
  exact merge_loop w l hl l.length k 0 [] (by omega) (by omega) (by omega) (by simp) (by simpa [total] using hl.2)
theorem merge_none (w : Int) (l : List S56) (hw : Wide.rightW w = false) (k : Nat) : event_Merge.f k w l = some [] := by
  simp only [event_Merge.f]
  rw [right_ok, hw]
  simp
/-! ### shifting -/
def placedB (e : S56) : Bool := if e.f0 = 3 then true else if e.f0 = 5 then true else if e.f0 = 6 then true else if e.f0 = 7 then true else if e.f0 = 2 then (if e.f2 = 1 then (if e.f5 = 0 then true else if e.f2 = 6 then decide (e.f3 > 0) else false) else if e.f2 = 6 then decide (e.f3 > 0) else false) else false
def moved (w fr : Int) (e : S56) : S56 := ⟨e.f0, e.f1, e.f2, e.f3, IntKind.u64.wrap (Wide.gapW w e.f4 fr), e.f5, e.f6⟩
def shiftE (w fr : Int) (e : S56) : S56 := if placedB e = true then moved w fr e else e
def shiftL (w fr : Int) (l : List S56) : List S56 := l.map (shiftE w fr)
theorem placed_ok (e : S56) (k : Nat) (hk : 0 < k) : event_placed.f k e.f0 e.f1 e.f2 e.f3 e.f4 e.f5 e.f6 = some (placedB e) := by
  obtain ⟨k, rfl⟩ : ∃ n, k = n + 1 := ⟨k - 1, by omega⟩
  unfold event_placed.f placedB
  simp only [event_placed.j0]
  by_cases h3 : e.f0 = 3
  · simp [h3]
  · by_cases h5 : e.f0 = 5
    · simp [h5]
    · by_cases h6 : e.f0 = 6
      · simp [h6]
      · by_cases h7 : e.f0 = 7
        · simp [h7]
        · have e7 : (e.f0 == 7) = false := beq_eq_false_iff_ne.2 h7
          simp only [if_neg h3, if_neg h5, if_neg h6, if_neg h7, e7]
          rw [if_neg (by decide)]
          by_cases h2 : e.f0 = 2
          · simp only [if_pos h2]
            by_cases h1 : e.f2 = 1
            · simp only [if_pos h1]
              by_cases hc : e.f5 = 0
              · simp only [if_pos hc]
              · simp only [if_neg hc]
                split <;> rfl
            · simp only [if_neg h1]
              split <;> rfl
          · simp only [if_neg h2]
theorem shift_set (w fr : Int) (l : List S56) (i : Nat) (hi : i < l.length) (x : S56) : (((l.take i).map (shiftE w fr)) ++ l.drop i).set i x = ((l.take i).map (shiftE w fr)) ++ x :: l.drop (i + 1) := by
  have hlen : ((l.take i).map (shiftE w fr)).length = i := by simp; omega
  rw [List.set_append, if_neg (by omega), hlen, Nat.sub_self, List.drop_eq_getElem_cons hi]; rfl
theorem shift_rd (w fr : Int) (l : List S56) (i : Nat) (hi : i < l.length) : rd_T56 (((l.take i).map (shiftE w fr)) ++ l.drop i) (i : Int) = l[i] := by
  have hlen : ((l.take i).map (shiftE w fr)).length = i := by simp; omega
  have h2 : i + (i - ((l.take i).map (shiftE w fr)).length) = i := by omega
  rw [rdT _ i (by simp; omega), List.getElem_append_right (by omega)]
  simp only [List.getElem_drop, h2]
theorem shift_loop (w fr : Int) (l : List S56) (hb : l.length ≤ 200) : ∀ (d k i : Nat), l.length - i = d → i ≤ l.length → d + 1 < k → event_Shift.l0 k w fr (((l.take i).map (shiftE w fr)) ++ l.drop i) (l.length : Int) (i : Int) = some (shiftL w fr l) := by
  intro d
  induction d with
  | zero =>
    intro k i hd hi hk
    obtain ⟨k, rfl⟩ : ∃ n, k = n + 1 := ⟨k - 1, by omega⟩
    simp only [event_Shift.l0]
    rw [if_neg (by omega), List.drop_eq_nil_of_le (by omega), List.take_of_length_le (by omega), List.append_nil]; rfl
  | succ d ih =>
    intro k i hd hi hk
    obtain ⟨k, rfl⟩ : ∃ n, k = n + 1 := ⟨k - 1, by omega⟩
    have hlt : i < l.length := by omega
    have IH := ih k (i + 1) (by omega) (by omega) (by omega)
    rw [List.take_succ_eq_append_getElem hlt, List.map_append, List.map_singleton, List.append_assoc, List.singleton_append] at IH
    simp only [event_Shift.l0]
    rw [if_pos (by omega), if_pos (by omega), if_pos (by simp; omega), shift_rd w fr l i hlt, placed_ok _ k (by omega), gap_ok, Int.toNat_natCast, ws (by omega)]
    simp only [Option.bind_some]
    rw [shift_set w fr l i hlt]
    by_cases hp : placedB l[i] = true
    · rw [if_pos hp]
      have : shiftE w fr l[i] = moved w fr l[i] := by unfold shiftE; rw [if_pos hp]
      rw [this] at IH
      exact IH
    · rw [if_neg hp]
      have : shiftE w fr l[i] = l[i] := by unfold shiftE; rw [if_neg hp]
      rw [this, ← List.drop_eq_getElem_cons hlt] at IH
      exact IH
theorem shift_ok (w fr : Int) (l : List S56) (hl : Small l) (hw : Wide.rightW w = true) (k : Nat) (hk : 1000 ≤ k) : event_Shift.f k w fr l = some (shiftL w fr l) := by
  have := hl.1
  simp only [event_Shift.f]
  rw [right_ok, hw, copy_ok l hl k hk]
  simp only [Option.bind_some, if_true]
  exact shift_loop w fr l hl.1 l.length k 0 (by omega) (by omega) (by omega)
theorem shift_none (w fr : Int) (l : List S56) (hw : Wide.rightW w = false) (k : Nat) : event_Shift.f k w fr l = some [] := by
  simp only [event_Shift.f]
  rw [right_ok, hw]
  simp
theorem shift_len (w fr : Int) (l : List S56) : (shiftL w fr l).length = l.length := by simp [shiftL]
theorem shift_fit (w fr : Int) (l : List S56) (hl : Fit l) : Fit (shiftL w fr l) := by
  refine ⟨by rw [shift_len]; exact hl.1, ?_⟩
  have : total (shiftL w fr l) = total l := by
    unfold total shiftL
    rw [List.map_map]
    congr 1
    apply List.map_congr_left
    intro a _
    show (shiftE w fr a).f6.length = _
    unfold shiftE; split <;> rfl
  rw [this]; exact hl.2
/-! ### a row is the same as itself -/
theorem rsame5_self (l : List Int) (hb : l.length ≤ 20000) (k : Nat) (hk : 20001 ≤ k) : sakiaref05_Same.f k l l = some true := by
  simp only [sakiaref05_Same.f, if_true]
  have := rsame5_loop l l rfl (by omega) l.length k 0 (by omega) (by omega) (by omega)
  simpa using this
theorem one_self (a : S56) (hb : a.f6.length ≤ 20000) (k : Nat) (hk : 20001 ≤ k) : sakiaref15_One.f k a.f0 a.f1 a.f2 a.f3 a.f4 a.f5 a.f6 a.f0 a.f1 a.f2 a.f3 a.f4 a.f5 a.f6 = some true := by
  unfold sakiaref15_One.f
  rw [rsame5_self a.f6 hb k hk]
  simp
theorem rself_loop (l : List S56) (hl : Fit l) : ∀ (d k i : Nat), l.length - i = d → i ≤ l.length → d + 20002 < k → sakiaref15_Same.l0 k l l (i : Int) = some true := by
  intro d
  induction d with
  | zero =>
    intro k i hd hi hk
    obtain ⟨k, rfl⟩ : ∃ n, k = n + 1 := ⟨k - 1, by omega⟩
    simp only [sakiaref15_Same.l0]
    rw [if_neg (by omega)]
  | succ d ih =>
    intro k i hd hi hk
    obtain ⟨k, rfl⟩ : ∃ n, k = n + 1 := ⟨k - 1, by omega⟩
    have hlt : i < l.length := by omega
    have hs := hl.1
    simp only [sakiaref15_Same.l0]
    rw [if_pos (by omega), if_pos (by omega), if_pos (by omega), one_self _ (by rw [rdT l i hlt]; exact hl.at i hlt) k (by omega)]
    simp only [Option.bind_some, if_true]
    rw [ws (by omega)]
    exact ih k (i + 1) (by omega) (by omega) (by omega)
theorem rself_ok (l : List S56) (hl : Fit l) (k : Nat) (hk : 30000 ≤ k) : sakiaref15_Same.f k l l = some true := by
  have := hl.1
  simp only [sakiaref15_Same.f, if_true]
  exact rself_loop l hl l.length k 0 (by omega) (by omega) (by omega)
end Go.Proofs.Ytjaiodlfgpndoaa.QEv
