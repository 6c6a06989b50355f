/- Plain laws of an event's line: its words, and what they are read as. No program in sight. -/
import Derived.Test.YtabcdcnnamflfaaDoorWdPure
set_option linter.unusedVariables false
set_option linter.unusedSimpArgs false
namespace Go.Proofs.YtabcdcnnamflfaaDoor.Wd
open Go
/-! ### joined words -/
theorem plainB_no {w : List UInt8} (h : plainB w = true) (c : UInt8) (hc : c.toNat ≤ 32) : c ∉ w := fun hm => by
  unfold plainB at h
  simp only [Bool.and_eq_true, List.all_eq_true, decide_eq_true_eq] at h
  have := (h.2 c hm).1
  omega
theorem plainB_mk {w : List UInt8} (h : w ≠ []) (h2 : ∀ b ∈ w, 32 < b.toNat ∧ b.toNat ≤ 126) : plainB w = true := by
  unfold plainB
  simp only [Bool.and_eq_true, List.all_eq_true, decide_eq_true_eq]
  exact ⟨by simpa using h, h2⟩
theorem plain_join (c : UInt8) (hc : 32 < c.toNat ∧ c.toNat ≤ 126) : ∀ (ws : List (List UInt8)), ws ≠ [] → (∀ w ∈ ws, plainB w = true) → plainB (Lib.join ws [c]) = true
  | [], h, _ => absurd rfl h
  | [x], _, h => by rw [Lib.join_one]; exact h x (by simp)
  | x :: y :: r, _, h => by
    have ih := plain_join c hc (y :: r) (by simp) (fun w hw => h w (List.mem_cons_of_mem _ hw))
    rw [Lib.join_cons] at ih
    rw [Lib.join_cons, joinTail_cons]
    have hx := h x (by simp)
    unfold plainB at hx ih ⊢
    simp only [Bool.and_eq_true, List.all_eq_true, decide_eq_true_eq] at hx ih ⊢
    refine ⟨by simp, fun b hb => ?_⟩
    simp only [List.mem_append, List.mem_singleton] at hb
    rcases hb with hb | (rfl | hb) | hb
    · exact hx.2 b hb
    · exact hc
    · exact ih.2 b (by simp [hb])
    · exact ih.2 b (by simp [hb])
theorem itoa_plain (n : Int) : plainB (Lib.itoa n) = true := plainB_mk (itoa_ne n) fun b hb => by
  rcases itoa_byte n b hb with e | ⟨e1, e2⟩ <;> omega
theorem dec_plain (u : Nat) : plainB (Lib.decDigits u) = true := plainB_mk (decDigits_ne u) fun b hb => by
  have := decDigits_dig u b hb
  unfold isDig at this; omega
theorem listTxt_plain (l : List Int) : plainB (listTxt l) = true := by
  unfold listTxt
  split
  · decide
  · next h =>
    refine plain_join 44 (by decide) _ (by simpa using h) fun w hw => ?_
    obtain ⟨n, _, rfl⟩ := List.mem_map.1 hw
    exact itoa_plain n
theorem words_join {ws : List (List UInt8)} (h0 : ws ≠ []) (h : ∀ w ∈ ws, plainB w = true) : lineB (Lib.join ws [32]) = true ∧ wordsOf (Lib.join ws [32]) = ws ∧ Lib.join ws [32] ≠ [] := by
  have h1 := sp_join 32 ws h0 (fun w hw => plainB_no (h w hw) 32 (by decide))
  have hne : Lib.join ws [32] ≠ [] := by
    intro e
    rw [e] at h1
    have : ws = [[]] := by rw [← h1]; rfl
    rw [this] at h
    exact absurd (h [] (by simp)) (by decide)
  refine ⟨?_, ?_, hne⟩
  · unfold lineB
    rw [h1]
    simp only [Bool.or_eq_true, List.all_eq_true]
    exact .inr h
  · unfold wordsOf
    rw [if_neg hne, h1]
theorem join_no10 {ws : List (List UInt8)} (h : ∀ w ∈ ws, plainB w = true) : (10 : UInt8) ∉ Lib.join ws [32] := by
  induction ws with
  | nil => simp [Lib.join_nil]
  | cons x r ih =>
    cases r with
    | nil => rw [Lib.join_one]; exact plainB_no (h x (by simp)) 10 (by decide)
    | cons y r =>
      have ih := ih (fun w hw => h w (List.mem_cons_of_mem _ hw))
      rw [Lib.join_cons] at ih
      rw [Lib.join_cons, joinTail_cons]
      have hx := plainB_no (h x (by simp)) 10 (by decide)
      simp only [List.mem_append, List.mem_singleton, not_or] at ih ⊢
      exact ⟨hx, ⟨by decide, ih.1⟩, ih.2⟩
/-- Lines, each with its end. -/
def textOf (ls : List (List UInt8)) : List UInt8 := (ls.map (· ++ [10])).flatten
theorem textOf_snoc (ls : List (List UInt8)) (x : List UInt8) : textOf (ls ++ [x]) = textOf ls ++ (x ++ [10]) := by simp [textOf]
theorem sp_text (ls : List (List UInt8)) (h : ∀ l ∈ ls, (10 : UInt8) ∉ l) : sp 10 (textOf ls) = ls ++ [[]] := by
  induction ls with
  | nil => rfl
  | cons x r ih =>
    have e : textOf (x :: r) = x ++ 10 :: textOf r := by simp [textOf]
    rw [e, sp_front x _ (h x (by simp)), ih (fun l hl => h l (List.mem_cons_of_mem _ hl))]
    rfl
theorem lines_text (ls : List (List UInt8)) (h : ∀ l ∈ ls, (10 : UInt8) ∉ l) (h2 : ∀ l ∈ ls, lineB l = true) : linesOf (textOf ls) = (some ls, 0) := lines_end h2 (sp_text ls h)
/-! ### events -/
structure Ev where
  kind : Int
  thread : Int
  op : Int
  n : Int
  pos : Int
  code : Int
  data : List Int
/-- A kind's word, an op's word: none is the text without bytes. -/
def kindT (n : Int) : List UInt8 := if n = 1 then [105, 110, 118, 111, 107, 101] else if n = 2 then [114, 101, 116, 117, 114, 110] else if n = 3 then [116, 97, 107, 101] else if n = 4 then [103, 114, 97, 110, 116] else if n = 5 then [112, 117, 116] else if n = 6 then [115, 101, 101, 110] else if n = 7 then [102, 114, 101, 101] else []
def opT (n : Int) : List UInt8 := if n = 1 then [99, 108, 97, 105, 109] else if n = 2 then [112, 117, 98, 108, 105, 115, 104] else if n = 3 then [97, 118, 97, 105, 108] else if n = 4 then [114, 101, 108, 101, 97, 115, 101] else if n = 5 then [115, 101, 110, 100] else if n = 6 then [114, 101, 99, 101, 105, 118, 101] else []
/-- What stands for an op in a line. -/
def opX (n : Int) : List UInt8 := if opT n = [] then Lib.itoa n else opT n
def cleanB (e : Ev) : Bool :=
  if e.kind = 1 then decide (e.pos = 0) && decide (e.code = 0)
  else if e.kind = 2 then true
  else if e.kind = 3 then decide (e.op = 0) && decide (e.code = 0) && decide (e.data.length = 0)
  else if e.kind = 4 then decide (e.op = 0) && decide (e.code = 0) && decide (e.pos = 0) && decide (e.n = 0) && decide (e.data.length = 0)
  else if e.kind = 5 then decide (e.op = 0) && decide (e.code = 0)
  else if e.kind = 6 ∨ e.kind = 7 then decide (e.op = 0) && decide (e.code = 0) && decide (e.n = 0) && decide (e.data.length = 0)
  else false
def wds (e : Ev) : List (List UInt8) :=
  [Lib.itoa e.thread, kindT e.kind] ++
  (if e.kind = 1 then [opX e.op, Lib.itoa e.n, listTxt e.data]
  else if e.kind = 2 then [opX e.op, Lib.itoa e.code, Lib.decDigits e.pos.toNat, Lib.itoa e.n, listTxt e.data]
  else if e.kind = 3 then [Lib.decDigits e.pos.toNat, Lib.itoa e.n]
  else if e.kind = 4 then []
  else if e.kind = 5 then [Lib.decDigits e.pos.toNat, Lib.itoa e.n, listTxt e.data]
  else [Lib.decDigits e.pos.toNat])
def lineE (e : Ev) : List UInt8 := if cleanB e = true then Lib.join (wds e) [32] else []
theorem kindT_plain (n : Int) (h1 : 1 ≤ n) (h2 : n ≤ 7) : plainB (kindT n) = true := by
  have : n = 1 ∨ n = 2 ∨ n = 3 ∨ n = 4 ∨ n = 5 ∨ n = 6 ∨ n = 7 := by omega
  rcases this with rfl | rfl | rfl | rfl | rfl | rfl | rfl <;> decide
theorem opT_out (n : Int) (h : n < 1 ∨ 6 < n) : opT n = [] := by
  unfold opT
  repeat rw [if_neg (by omega)]
theorem opT_in (n : Int) (h1 : 1 ≤ n) (h2 : n ≤ 6) : plainB (opT n) = true ∧ opT n ≠ [] := by
  have : n = 1 ∨ n = 2 ∨ n = 3 ∨ n = 4 ∨ n = 5 ∨ n = 6 := by omega
  rcases this with rfl | rfl | rfl | rfl | rfl | rfl <;> exact ⟨by decide, by decide⟩
theorem opX_plain (n : Int) : plainB (opX n) = true := by
  unfold opX
  split
  · exact itoa_plain n
  · next h =>
    by_cases h1 : 1 ≤ n ∧ n ≤ 6
    · exact (opT_in n h1.1 h1.2).1
    · exact absurd (opT_out n (by omega)) h
theorem clean_kind {e : Ev} (h : cleanB e = true) : 1 ≤ e.kind ∧ e.kind ≤ 7 := by
  unfold cleanB at h
  repeat' (split at h)
  all_goals first | omega | cases h
theorem wds_plain {e : Ev} (h : cleanB e = true) : ∀ w ∈ wds e, plainB w = true := by
  obtain ⟨h1, h2⟩ := clean_kind h
  intro w hw
  unfold wds at hw
  simp only [List.mem_append, List.mem_cons, List.not_mem_nil, or_false] at hw
  rcases hw with (rfl | rfl) | hw
  · exact itoa_plain _
  · exact kindT_plain _ h1 h2
  · repeat' (split at hw)
    all_goals
      simp only [List.mem_cons, List.not_mem_nil, or_false] at hw
    · rcases hw with rfl | rfl | rfl
      exact opX_plain _
      exact itoa_plain _
      exact listTxt_plain _
    · rcases hw with rfl | rfl | rfl | rfl | rfl
      exact opX_plain _
      exact itoa_plain _
      exact dec_plain _
      exact itoa_plain _
      exact listTxt_plain _
    · rcases hw with rfl | rfl
      exact dec_plain _
      exact itoa_plain _
    · rcases hw with rfl | rfl | rfl
      exact dec_plain _
      exact itoa_plain _
      exact listTxt_plain _
    · subst hw; exact dec_plain _
theorem wds_ne (e : Ev) : wds e ≠ [] := by simp [wds]
theorem lineE_clean {e : Ev} (h : cleanB e = true) : lineE e = Lib.join (wds e) [32] ∧ lineB (lineE e) = true ∧ wordsOf (lineE e) = wds e ∧ lineE e ≠ [] ∧ (10 : UInt8) ∉ lineE e := by
  have h1 : lineE e = Lib.join (wds e) [32] := by unfold lineE; rw [if_pos h]
  obtain ⟨a, b, c⟩ := words_join (wds_ne e) (wds_plain h)
  rw [h1]
  exact ⟨rfl, a, b, c, join_no10 (wds_plain h)⟩
theorem lineE_none {e : Ev} (h : cleanB e = false) : lineE e = [] := by unfold lineE; rw [if_neg (by rw [h]; decide)]
theorem lineE_nil (e : Ev) : decide (lineE e = []) = !cleanB e := by
  cases h : cleanB e with
  | true => rw [decide_eq_false (lineE_clean h).2.2.2.1]; rfl
  | false => rw [decide_eq_true (lineE_none h)]; rfl
/-- The op that a word is. -/
def opOfT (w : List UInt8) : Int := if w = [99, 108, 97, 105, 109] then 1 else if w = [112, 117, 98, 108, 105, 115, 104] then 2 else if w = [97, 118, 97, 105, 108] then 3 else if w = [114, 101, 108, 101, 97, 115, 101] then 4 else if w = [115, 101, 110, 100] then 5 else if w = [114, 101, 99, 101, 105, 118, 101] then 6 else 0
def kindOfT (w : List UInt8) : Int := if w = [105, 110, 118, 111, 107, 101] then 1 else if w = [114, 101, 116, 117, 114, 110] then 2 else if w = [116, 97, 107, 101] then 3 else if w = [103, 114, 97, 110, 116] then 4 else if w = [112, 117, 116] then 5 else if w = [115, 101, 101, 110] then 6 else if w = [102, 114, 101, 101] then 7 else 0
theorem kindOfT_T (n : Int) (h1 : 1 ≤ n) (h2 : n ≤ 7) : kindOfT (kindT n) = n := by
  have : n = 1 ∨ n = 2 ∨ n = 3 ∨ n = 4 ∨ n = 5 ∨ n = 6 ∨ n = 7 := by omega
  rcases this with rfl | rfl | rfl | rfl | rfl | rfl | rfl <;> decide
theorem opOfT_itoa (n : Int) : opOfT (Lib.itoa n) = 0 := by
  have hno : ∀ c : UInt8, 57 < c.toNat → ∀ r, Lib.itoa n ≠ c :: r := fun c hc r e => itoa_no n c (by omega) (by rw [e]; simp)
  unfold opOfT
  repeat rw [if_neg (hno _ (by decide) _)]
theorem opOfT_in (n : Int) (h1 : 1 ≤ n) (h2 : n ≤ 6) : opOfT (opT n) = n := by
  have : n = 1 ∨ n = 2 ∨ n = 3 ∨ n = 4 ∨ n = 5 ∨ n = 6 := by omega
  rcases this with rfl | rfl | rfl | rfl | rfl | rfl <;> decide
/-- An op's word: it has one, and is found; or it has none, and is told by its number. -/
theorem opX_cases (n : Int) : (1 ≤ n ∧ n ≤ 6 ∧ opX n = opT n ∧ opOfT (opX n) = n ∧ opT n ≠ []) ∨ ((n < 1 ∨ 6 < n) ∧ opX n = Lib.itoa n ∧ opOfT (opX n) = 0 ∧ opT n = []) := by
  by_cases h : 1 ≤ n ∧ n ≤ 6
  · have h3 := opT_in n h.1 h.2
    have e : opX n = opT n := by unfold opX; rw [if_neg h3.2]
    exact .inl ⟨h.1, h.2, e, by rw [e]; exact opOfT_in n h.1 h.2, h3.2⟩
  · have h3 := opT_out n (by omega)
    have e : opX n = Lib.itoa n := by unfold opX; rw [if_pos h3]
    exact .inr ⟨by omega, e, by rw [e]; exact opOfT_itoa n, h3⟩
end Go.Proofs.YtabcdcnnamflfaaDoor.Wd
