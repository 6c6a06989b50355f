/- Plain laws: the reference's line of an event, and the program's test, are what they are. -/
import Derived.Test.YtabcdcnnamflfaaDoorQTex3
import Derived.Test.YtabcdcnnamflfaaDoorQTex4
set_option linter.unusedVariables false
set_option linter.unusedSimpArgs false
namespace Go.Proofs.YtabcdcnnamflfaaDoor.QTe
open Go.RowKit Wd
/-- What is known of an event that came in. -/
structure EvOk (e : Ev) : Prop where
  t : In64 e.thread
  o : In64 e.op
  n : In64 e.n
  p : 0 ≤ e.pos ∧ e.pos < 18446744073709551616
  c : In64 e.code
  d : ∀ n ∈ e.data, In64 n
theorem beqd (a b : Int) : (a == b) = decide (a = b) := by
  by_cases h : a = b
  · rw [decide_eq_true h, h]; simp
  · rw [decide_eq_false h]; simpa using h
theorem beql {α : Type} (l : List α) : ((l.length : Int) == 0) = decide (l.length = 0) := by
  rw [beqd]
  by_cases h : l.length = 0
  · rw [decide_eq_true h, decide_eq_true (by omega)]
  · rw [decide_eq_false h, decide_eq_false (by omega)]
theorem clean_f (e : Ev) : tell_Clean.f 5 e.kind e.thread e.op e.n e.pos e.code e.data = some (cleanB e) := by
  unfold tell_Clean.f cleanB
  simp only [tell_Clean.j0, beqd, beql]
  by_cases h1 : e.kind = 1
  · simp only [if_pos h1]
    split <;> split <;> simp_all
  simp only [if_neg h1]
  by_cases h2 : e.kind = 2
  · simp only [if_pos h2]; split <;> rfl
  simp only [if_neg h2]
  by_cases h3 : e.kind = 3
  · simp only [if_pos h3]
    split
    · next h => split <;> simp_all
    · next h => simp_all
  simp only [if_neg h3]
  by_cases h4 : e.kind = 4
  · simp only [if_pos h4]
    split
    · next h => repeat' split
                all_goals simp_all
    · next h => simp_all
  simp only [if_neg h4]
  by_cases h5 : e.kind = 5
  · simp only [if_pos h5]
    split <;> simp_all
  simp only [if_neg h5]
  by_cases h6 : e.kind = 6
  · simp only [if_pos h6, if_pos (Or.inl h6)]
    split
    · next h => repeat' split
                all_goals simp_all
    · next h => simp_all
  simp only [if_neg h6]
  by_cases h7 : e.kind = 7
  · simp only [if_pos h7, if_pos (Or.inr h7)]
    split
    · next h => repeat' split
                all_goals simp_all
    · next h => simp_all
  simp only [if_neg h7, if_neg (not_or.2 ⟨h6, h7⟩)]
  split <;> rfl
theorem same_nil (k : Nat) (l : List Int) : sakiaref05_Same.f (k + 1) l [] = some (decide (l.length = 0)) := by
  unfold sakiaref05_Same.f
  cases l with
  | nil => simp [sakiaref05_Same.l0]
  | cons a r => rw [if_neg (by simp; omega)]; simp
theorem num_f {n : Int} (h : In64 n) : sakiaref06_Num.f n = some (bs (Lib.itoa n)) := if_pos h
theorem big_f {n : Int} (h : 0 ≤ n ∧ n < 18446744073709551616) : sakiaref06_Big.f n = some (bs (Lib.decDigits n.toNat)) := if_pos h
theorem list_f {l : List Int} (h : (∀ n ∈ l, In64 n) ∧ l.length ≤ 100000) : sakiaref06_List.f l = some (bs (listTxt l)) := if_pos h
theorem opx_f {n : Int} (h : In64 n) : sakiaref37_op.f n = some (bs (opX n)) := by
  unfold sakiaref37_op.f sakiaref15_OpWord.f opX
  simp only [Option.bind_some, bs_toList, num_f h]
  split
  · rfl
  · rfl
theorem one_f (k : Nat) (a b c d e f : Int) (l : List Int) : sakiaref15_One.f (k + 1) a b c d e f l 0 0 0 0 0 0 [] = some (decide (a = 0) && decide (b = 0) && decide (c = 0) && decide (d = 0) && decide (e = 0) && decide (f = 0) && decide (l.length = 0)) := by
  unfold sakiaref15_One.f
  simp only [same_nil, Option.bind_some]
  repeat' split
  all_goals simp_all
theorem kindT_len (n : Int) : (kindT n).length ≤ 6 := by
  unfold kindT
  repeat' split
  all_goals simp
theorem opX_len {n : Int} (h : In64 n) : (opX n).length ≤ 21 := by
  unfold opX
  split
  · exact itoa_len n h.1 h.2
  · unfold opT
    repeat' split
    all_goals simp
theorem listTxt_len {l : List Int} (h : (∀ n ∈ l, In64 n) ∧ l.length ≤ 100000) : (listTxt l).length ≤ 22 * l.length + 1 := by
  unfold listTxt
  split
  · simp
  · have := join_bound l (fun n hn => h.1 n hn); omega
theorem kindT_none {n : Int} (h : ¬ (1 ≤ n ∧ n ≤ 7)) : kindT n = [] := by
  unfold kindT
  repeat rw [if_neg (by omega)]
theorem join2 (a : List UInt8) (r : List (List UInt8)) : Lib.join (a :: r) [32] = a ++ Lib.joinTail [32] r := Lib.join_cons a r [32]
theorem tail_nil : Lib.joinTail [32] [] = [] := rfl
theorem bs32 : (⟨#[32]⟩ : ByteArray) = bs [32] := rfl
theorem bs0 : (⟨#[]⟩ : ByteArray) = bs [] := rfl
theorem line_f (e : Ev) (h : EvOk e) (hl : e.data.length ≤ 100000) : sakiaref37_Line.f 20 e.kind e.thread e.op e.n e.pos e.code e.data = some (bs (lineE e)) := by
  have l1 := itoa_len e.thread h.t.1 h.t.2
  have l2 := itoa_len e.n h.n.1 h.n.2
  have l3 := itoa_len e.code h.c.1 h.c.2
  have l4 := opX_len h.o
  have l5 := dec_len e.pos.toNat (by have := h.p; omega)
  have l6 := listTxt_len ⟨h.d, hl⟩
  have l7 := kindT_len e.kind
  have f1 := num_f h.t
  have f2 := num_f h.n
  have f3 := num_f h.c
  have f4 := opx_f h.o
  have f5 := big_f h.p
  have f6 := list_f ⟨h.d, hl⟩
  have hw : sakiaref15_Word.f e.kind = some (bs (kindT e.kind)) := rfl
  unfold sakiaref37_Line.f
  simp only [hw, f1, Option.bind_some, bs_toList]
  by_cases hk : ¬ (1 ≤ e.kind ∧ e.kind ≤ 7)
  · rw [if_pos (kindT_none hk)]
    have : cleanB e = false := by
      cases hc : cleanB e with
      | false => rfl
      | true => exact absurd (clean_kind hc) hk
    rw [lineE_none this]
    rfl
  have hk := Classical.not_not.1 hk
  have hkp := kindT_plain e.kind hk.1 hk.2
  have hkn : kindT e.kind ≠ [] := fun e2 => by rw [e2] at hkp; exact absurd hkp (by decide)
  rw [if_neg hkn]
  have hcases : e.kind = 1 ∨ e.kind = 2 ∨ e.kind = 3 ∨ e.kind = 4 ∨ e.kind = 5 ∨ e.kind = 6 ∨ e.kind = 7 := by omega
  have hE : lineE e = if cleanB e = true then Lib.join (wds e) [32] else [] := rfl
  unfold wds cleanB at hE
  generalize hlt : lineE e = L at *
  clear hlt hw hk hkp hkn
  obtain ⟨kind, thread, op, n, pos, code, data⟩ := e
  simp only at *
  generalize kindT kind = KT at *
  rcases hcases with rfl | rfl | rfl | rfl | rfl | rfl | rfl
  all_goals
    simp only [sakiaref37_Line.j0, sakiaref37_Line.j1, sakiaref37_Line.j2, sakiaref37_Line.j3, sakiaref37_Line.j4, sakiaref37_Line.j5, sakiaref37_Line.j6, sakiaref37_Line.j7, f1, f2, f3, f4, f5, f6, Option.bind_some, one_f, bs32, bs0, bs_append, bs_size, List.length_append, List.length_cons, List.length_nil,
      if_true, if_false, reduceIte, Int.reduceEq, Int.reduceLE, Int.reduceBEq, Int.reduceBNe, decide_true, Bool.true_and, Bool.and_true, Bool.false_eq_true]
    simp only [reduceIte, Int.reduceEq, join2, joinTail_cons, tail_nil, List.cons_append, List.nil_append, List.append_nil, Int.reduceLE, or_true, true_or, or_false, false_or, Bool.false_eq_true] at hE
    repeat rw [if_pos (by omega)]
    subst hE
  all_goals simp only [List.append_assoc, List.cons_append, List.nil_append]
  all_goals first | done | rfl | (split <;> rfl) | skip
  all_goals (clear f1 f2 f3 f4 f5 f6 l1 l2 l3 l4 l5 l6 l7 hl h)
  all_goals (repeat' split)
  all_goals simp_all
end Go.Proofs.YtabcdcnnamflfaaDoor.QTe
