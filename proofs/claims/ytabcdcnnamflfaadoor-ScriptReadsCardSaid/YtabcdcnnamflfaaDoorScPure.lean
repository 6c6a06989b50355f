/- Plain laws of a script's lines: a configuration's, an act's, and what they are read as. No program in sight. -/
import Derived.Test.YtabcdcnnamflfaaDoorTlPure
set_option linter.unusedVariables false
set_option linter.unusedSimpArgs false
namespace Go.Proofs.YtabcdcnnamflfaaDoor.Wd
open Go
def In8 (n : Int) : Prop := -9223372036854775808 ≤ n ∧ n ≤ 9223372036854775807
structure Cf where
  variant : Int
  width : Int
  cap : Int
  prod : Int
  start : Nat
  up : List (List Int)
structure Ac where
  thread : Int
  op : Int
  n : Int
  data : List Int
def ringT : List UInt8 := [114, 105, 110, 103]
def stepT : List UInt8 := [115, 116, 101, 112]
def varT (n : Int) : List UInt8 := if n = 1 then [111, 110, 101] else if n = 2 then [99, 97, 115] else if n = 3 then [102, 97, 97] else if n = 4 then [115, 116, 97, 109, 112] else if n = 5 then [108, 111, 99, 107] else []
def varOf (w : List UInt8) : Int := if w = [111, 110, 101] then 1 else if w = [99, 97, 115] then 2 else if w = [102, 97, 97] then 3 else if w = [115, 116, 97, 109, 112] then 4 else if w = [108, 111, 99, 107] then 5 else 0
theorem varOf_T (n : Int) (h : varT n ≠ []) : varOf (varT n) = n ∧ plainB (varT n) = true ∧ n ≠ 0 := by
  have : n = 1 ∨ n = 2 ∨ n = 3 ∨ n = 4 ∨ n = 5 := by
    by_cases h1 : n = 1; · exact .inl h1
    by_cases h2 : n = 2; · exact .inr (.inl h2)
    by_cases h3 : n = 3; · exact .inr (.inr (.inl h3))
    by_cases h4 : n = 4; · exact .inr (.inr (.inr (.inl h4)))
    by_cases h5 : n = 5; · exact .inr (.inr (.inr (.inr h5)))
    exact absurd (by unfold varT; rw [if_neg h1, if_neg h2, if_neg h3, if_neg h4, if_neg h5]) h
  rcases this with rfl | rfl | rfl | rfl | rfl <;> decide
theorem varT_of (w : List UInt8) (h : varOf w ≠ 0) : varT (varOf w) = w := by
  unfold varOf at h ⊢
  split
  · next e => rw [e]; rfl
  split
  · next e => rw [e]; rfl
  split
  · next e => rw [e]; rfl
  split
  · next e => rw [e]; rfl
  split
  · next e => rw [e]; rfl
  · next h1 h2 h3 h4 h5 => rw [if_neg h1, if_neg h2, if_neg h3, if_neg h4, if_neg h5] at h; exact absurd rfl h
theorem opT_of (w : List UInt8) (h : opOfT w ≠ 0) : opT (opOfT w) = w := by
  unfold opOfT at h ⊢
  split
  · next e => rw [e]; rfl
  split
  · next e => rw [e]; rfl
  split
  · next e => rw [e]; rfl
  split
  · next e => rw [e]; rfl
  split
  · next e => rw [e]; rfl
  split
  · next e => rw [e]; rfl
  · next h1 h2 h3 h4 h5 h6 => rw [if_neg h1, if_neg h2, if_neg h3, if_neg h4, if_neg h5, if_neg h6] at h; exact absurd rfl h
theorem opOfT_range (w : List UInt8) : 0 ≤ opOfT w ∧ opOfT w ≤ 6 := by
  unfold opOfT
  repeat' split
  all_goals omega
/-! ### a configuration's line -/
def confW (c : Cf) : List (List UInt8) := [ringT, varT c.variant, Lib.itoa c.width, Lib.itoa c.cap, Lib.itoa c.prod, Lib.decDigits c.start] ++ c.up.map listTxt
def confT (c : Cf) : List UInt8 := if varT c.variant = [] then [] else Lib.join (confW c) [32]
/-- Which words make a configuration, and which one. -/
def confG : List (List UInt8) → Bool
  | r :: v :: a :: b :: p :: s :: ups => decide (r = ringT) && decide (varOf v ≠ 0) && (numOf a).isSome && (numOf b).isSome && (numOf p).isSome && (bigOf s).isSome && ups.all fun u => (listOf u).isSome
  | _ => false
def confV : List (List UInt8) → Cf
  | r :: v :: a :: b :: p :: s :: ups => ⟨varOf v, (numOf a).getD 0, (numOf b).getD 0, (numOf p).getD 0, (bigOf s).getD 0, ups.map fun u => (listOf u).getD []⟩
  | _ => ⟨0, 0, 0, 0, 0, []⟩
structure CfOk (c : Cf) : Prop where
  w : In8 c.width
  k : In8 c.cap
  p : In8 c.prod
  s : c.start < 18446744073709551616
  u : ∀ l ∈ c.up, ∀ n ∈ l, In8 n
theorem some_getD {α : Type} {o : Option α} (d : α) (h : o.isSome = true) : o = some (o.getD d) := by
  cases o with
  | none => cases h
  | some x => rfl
theorem conf_back {ws : List (List UInt8)} (h : confG ws = true) : confW (confV ws) = ws := by
  match ws, h with
  | r :: v :: a :: b :: p :: s :: ups, h =>
    simp only [confG, Bool.and_eq_true, decide_eq_true_eq, List.all_eq_true] at h
    obtain ⟨⟨⟨⟨⟨⟨h1, h2⟩, h3⟩, h4⟩, h5⟩, h6⟩, h7⟩ := h
    have e7 : (ups.map fun u => (listOf u).getD []).map listTxt = ups := by
      rw [List.map_map]
      refine (List.map_congr_left (g := id) fun u hu => ?_).trans (List.map_id ups)
      exact listOf_some (some_getD [] (h7 u hu))
    unfold confW confV
    simp only [e7]
    rw [varT_of v h2, numOf_some (some_getD 0 h3), numOf_some (some_getD 0 h4), numOf_some (some_getD 0 h5), bigOf_some (some_getD 0 h6), h1]
    rfl
theorem conf_line {s : List UInt8} (h : confG (wordsOf s) = true) : confT (confV (wordsOf s)) = s ∧ (confV (wordsOf s)).variant ≠ 0 := by
  have hb := conf_back h
  have hne : s ≠ [] := fun e => by subst e; simp [wordsOf, confG] at h
  have hw : wordsOf s = sp 32 s := by unfold wordsOf; rw [if_neg hne]
  have hv : (confV (wordsOf s)).variant ≠ 0 := by
    match hws : wordsOf s, h with
    | r :: v :: a :: b :: p :: t :: ups, h =>
      simp only [confG, Bool.and_eq_true, decide_eq_true_eq] at h
      exact h.1.1.1.1.1.2
  refine ⟨?_, hv⟩
  unfold confT
  rw [if_neg, hb, hw, join_sp]
  intro e
  match hws : wordsOf s, h, hb with
  | r :: v :: a :: b :: p :: t :: ups, h, hb =>
    simp only [confG, Bool.and_eq_true, decide_eq_true_eq] at h
    rw [hws] at e
    have h3 := varT_of v h.1.1.1.1.1.2
    rw [show (confV (r :: v :: a :: b :: p :: t :: ups)).variant = varOf v from rfl, h3] at e
    rw [e] at h
    exact absurd h.1.1.1.1.1.2 (by decide)
theorem confW_plain {c : Cf} (h : varT c.variant ≠ []) : ∀ w ∈ confW c, plainB w = true := by
  intro w hw
  unfold confW at hw
  simp only [List.mem_append, List.mem_cons, List.not_mem_nil, or_false, List.mem_map] at hw
  rcases hw with (rfl | rfl | rfl | rfl | rfl | rfl) | ⟨l, _, rfl⟩
  · decide
  · exact (varOf_T _ h).2.1
  · exact itoa_plain _
  · exact itoa_plain _
  · exact itoa_plain _
  · exact dec_plain _
  · exact listTxt_plain _
theorem conf_read {c : Cf} (hc : CfOk c) (h : varT c.variant ≠ []) : confG (confW c) = true ∧ confV (confW c) = c := by
  have e7 : (c.up.map listTxt).all (fun u => (listOf u).isSome) = true := by
    rw [List.all_eq_true]
    intro u hu
    obtain ⟨l, hl, rfl⟩ := List.mem_map.1 hu
    rw [listOf_txt l (fun n hn => hc.u l hl n hn)]; rfl
  have e8 : (c.up.map listTxt).map (fun u => (listOf u).getD []) = c.up := by
    rw [List.map_map]
    refine (List.map_congr_left (g := id) fun l hl => ?_).trans (List.map_id c.up)
    show (listOf (listTxt l)).getD [] = l
    rw [listOf_txt l (fun n hn => hc.u l hl n hn)]; rfl
  obtain ⟨v1, v2, v3⟩ := varOf_T _ h
  constructor
  · unfold confW
    simp only [List.cons_append, List.nil_append, confG, e7, v1, numOf_itoa _ hc.w.1 hc.w.2, numOf_itoa _ hc.k.1 hc.k.2, numOf_itoa _ hc.p.1 hc.p.2, bigOf_dec _ hc.s, Option.isSome_some, Bool.and_true, Bool.and_eq_true, decide_eq_true_eq]
    exact ⟨by simp, v3⟩
  · unfold confW
    simp only [List.cons_append, List.nil_append, confV, e8, v1, numOf_itoa _ hc.w.1 hc.w.2, numOf_itoa _ hc.k.1 hc.k.2, numOf_itoa _ hc.p.1 hc.p.2, bigOf_dec _ hc.s, Option.getD_some]
theorem conf_words {c : Cf} (h : varT c.variant ≠ []) : lineB (confT c) = true ∧ wordsOf (confT c) = confW c ∧ confT c ≠ [] := by
  have h1 : confT c = Lib.join (confW c) [32] := by unfold confT; rw [if_neg h]
  rw [h1]
  exact words_join (by simp [confW]) (confW_plain h)
/-! ### an act's line -/
def cleanA (a : Ac) : Bool := decide (0 ≤ a.op) && decide (a.op ≤ 6) && (decide (a.op = 1) || decide (a.op = 4) || decide (a.op = 6) || decide (a.n = 0)) && (decide (a.op = 5) || decide (a.data.length = 0))
def actW (a : Ac) (n : Int) : List (List UInt8) :=
  if a.op = 0 then [Lib.itoa a.thread, stepT, Lib.itoa n]
  else if a.op = 5 then [Lib.itoa a.thread, opT a.op, listTxt a.data]
  else if a.op = 1 ∨ a.op = 4 ∨ a.op = 6 then [Lib.itoa a.thread, opT a.op, Lib.itoa a.n]
  else [Lib.itoa a.thread, opT a.op]
def actT (a : Ac) (n : Int) : List UInt8 := if cleanA a = true then Lib.join (actW a n) [32] else []
structure AcOk (a : Ac) : Prop where
  t : In8 a.thread
  n : In8 a.n
  d : ∀ n ∈ a.data, In8 n
/-- Which words make an act, which one, and how many. -/
def actG : List (List UInt8) → Bool
  | [t, o] => (numOf t).isSome && (decide (opOfT o = 2) || decide (opOfT o = 3))
  | [t, o, x] => (numOf t).isSome && (if opOfT o = 0 then (numOf x).isSome && decide (o = stepT) && decide (1 ≤ (numOf x).getD 0) && decide ((numOf x).getD 0 ≤ 1000) else if opOfT o = 5 then (listOf x).isSome else if opOfT o = 1 ∨ opOfT o = 4 ∨ opOfT o = 6 then (numOf x).isSome else false)
  | _ => false
def actV : List (List UInt8) → Ac
  | [t, o] => ⟨(numOf t).getD 0, opOfT o, 0, []⟩
  | [t, o, x] => ⟨(numOf t).getD 0, opOfT o, if opOfT o = 1 ∨ opOfT o = 4 ∨ opOfT o = 6 then (numOf x).getD 0 else 0, if opOfT o = 5 then (listOf x).getD [] else []⟩
  | _ => ⟨0, 0, 0, []⟩
def actN : List (List UInt8) → Int
  | [t, o, x] => if opOfT o = 0 then (numOf x).getD 0 else 1
  | _ => 1
theorem act_back {ws : List (List UInt8)} (h : actG ws = true) : cleanA (actV ws) = true ∧ actW (actV ws) (actN ws) = ws ∧ 1 ≤ actN ws ∧ actN ws ≤ 1000 := by
  match ws, h with
  | [t, o], h =>
    simp only [actG, Bool.and_eq_true, Bool.or_eq_true, decide_eq_true_eq] at h
    obtain ⟨h1, h2⟩ := h
    have e1 := numOf_some (some_getD 0 h1)
    have e2 := opT_of o (by omega)
    refine ⟨?_, ?_, by simp [actN], by simp [actN]⟩
    · unfold cleanA actV
      rcases h2 with h2 | h2 <;> simp [h2]
    · unfold actW actV
      simp only
      rw [if_neg (by omega), if_neg (by omega), if_neg (by omega), e1, e2]
  | [t, o, x], h =>
    simp only [actG, Bool.and_eq_true] at h
    obtain ⟨h1, h2⟩ := h
    have e1 := numOf_some (some_getD 0 h1)
    by_cases h0 : opOfT o = 0
    · rw [if_pos h0] at h2
      simp only [Bool.and_eq_true, decide_eq_true_eq] at h2
      obtain ⟨⟨⟨h3, h4⟩, h5⟩, h6⟩ := h2
      have e3 := numOf_some (some_getD 0 h3)
      refine ⟨?_, ?_, ?_, ?_⟩
      · unfold cleanA actV; simp [h0]
      · unfold actW actV actN
        simp only
        rw [if_pos h0, if_pos h0, e1, e3, h4]
      · simp only [actN, if_pos h0]; exact h5
      · simp only [actN, if_pos h0]; exact h6
    · rw [if_neg h0] at h2
      have e2 := opT_of o h0
      have hn : actN [t, o, x] = 1 := by simp only [actN, if_neg h0]
      refine ⟨?_, ?_, by rw [hn]; omega, by rw [hn]; omega⟩
      · by_cases h5 : opOfT o = 5
        · unfold cleanA actV; simp [h5]
        · rw [if_neg h5] at h2
          by_cases h6 : opOfT o = 1 ∨ opOfT o = 4 ∨ opOfT o = 6
          · unfold cleanA actV
            simp only [if_neg h5]
            rcases h6 with h6 | h6 | h6 <;> simp [h6]
          · rw [if_neg h6] at h2; cases h2
      · by_cases h5 : opOfT o = 5
        · rw [if_pos h5] at h2
          unfold actW actV
          simp only
          rw [if_neg h0, if_pos h5, if_pos h5, e1, e2, listOf_some (some_getD [] h2)]
        · rw [if_neg h5] at h2
          by_cases h6 : opOfT o = 1 ∨ opOfT o = 4 ∨ opOfT o = 6
          · rw [if_pos h6] at h2
            unfold actW actV
            simp only
            rw [if_neg h0, if_neg h5, if_pos h6, if_pos h6, e1, e2, numOf_some (some_getD 0 h2)]
          · rw [if_neg h6] at h2; cases h2
theorem act_line {s : List UInt8} (h : actG (wordsOf s) = true) : actT (actV (wordsOf s)) (actN (wordsOf s)) = s := by
  obtain ⟨h1, h2, _, _⟩ := act_back h
  have hne : s ≠ [] := fun e => by subst e; simp [wordsOf, actG] at h
  have hw : wordsOf s = sp 32 s := by unfold wordsOf; rw [if_neg hne]
  unfold actT
  rw [if_pos h1, h2, hw, join_sp]
theorem cleanA_op {a : Ac} (h : cleanA a = true) : 0 ≤ a.op ∧ a.op ≤ 6 ∧ (a.op = 1 ∨ a.op = 4 ∨ a.op = 6 ∨ a.n = 0) ∧ (a.op = 5 ∨ a.data = []) := by
  unfold cleanA at h
  simp only [Bool.and_eq_true, Bool.or_eq_true, decide_eq_true_eq, List.length_eq_zero_iff] at h
  obtain ⟨⟨⟨h1, h2⟩, h3⟩, h4⟩ := h
  exact ⟨h1, h2, by omega, h4⟩
theorem actW_plain {a : Ac} (h : cleanA a = true) (n : Int) : ∀ w ∈ actW a n, plainB w = true := by
  obtain ⟨h1, h2, _, _⟩ := cleanA_op h
  intro w hw
  unfold actW at hw
  split at hw
  · simp only [List.mem_cons, List.not_mem_nil, or_false] at hw
    rcases hw with rfl | rfl | rfl
    · exact itoa_plain _
    · decide
    · exact itoa_plain _
  · next h0 =>
    have ho := (opT_in a.op (by omega) h2).1
    split at hw
    · simp only [List.mem_cons, List.not_mem_nil, or_false] at hw
      rcases hw with rfl | rfl | rfl
      · exact itoa_plain _
      · exact ho
      · exact listTxt_plain _
    · split at hw
      · simp only [List.mem_cons, List.not_mem_nil, or_false] at hw
        rcases hw with rfl | rfl | rfl
        · exact itoa_plain _
        · exact ho
        · exact itoa_plain _
      · simp only [List.mem_cons, List.not_mem_nil, or_false] at hw
        rcases hw with rfl | rfl
        · exact itoa_plain _
        · exact ho
theorem actW_ne (a : Ac) (n : Int) : actW a n ≠ [] := by
  unfold actW
  repeat' split
  all_goals simp
theorem act_words {a : Ac} (h : cleanA a = true) (n : Int) : lineB (actT a n) = true ∧ wordsOf (actT a n) = actW a n ∧ actT a n ≠ [] ∧ (10 : UInt8) ∉ actT a n := by
  have h1 : actT a n = Lib.join (actW a n) [32] := by unfold actT; rw [if_pos h]
  rw [h1]
  obtain ⟨x, y, z⟩ := words_join (actW_ne a n) (actW_plain h n)
  exact ⟨x, y, z, join_no10 (actW_plain h n)⟩
theorem stepT_op : opOfT stepT = 0 := by decide
theorem act_read {a : Ac} (ha : AcOk a) (h : cleanA a = true) (m : Int) (h1 : 1 ≤ m) (h2 : m ≤ 1000) : actG (actW a m) = true ∧ actV (actW a m) = a ∧ actN (actW a m) = if a.op = 0 then m else 1 := by
  obtain ⟨o1, o2, o3, o4⟩ := cleanA_op h
  have ht := numOf_itoa _ ha.t.1 ha.t.2
  obtain ⟨thread, op, n, data⟩ := a
  simp only at *
  unfold actW
  simp only
  by_cases h0 : op = 0
  · have hm := numOf_itoa m (by omega) (by omega)
    have hn : n = 0 := by omega
    have hd : data = [] := by rcases o4 with h | h; · omega
                              exact h
    subst h0 hn hd
    rw [if_pos rfl, if_pos rfl]
    simp only [actG, actV, actN, stepT_op, ht, hm, Option.isSome_some, Option.getD_some, reduceIte, Bool.true_and, Bool.and_eq_true, decide_eq_true_eq]
    exact ⟨⟨⟨trivial, h1⟩, h2⟩, by simp, trivial⟩
  · have hop := opOfT_in op (by omega) o2
    rw [if_neg h0, if_neg h0]
    by_cases h5 : op = 5
    · have hl := listOf_txt data (fun n hn => ha.d n hn)
      have hn : n = 0 := by omega
      subst h5 hn
      rw [if_pos rfl]
      simp only [actG, actV, actN, hop, ht, hl, Option.isSome_some, Option.getD_some, Bool.true_and]
      exact ⟨by simp, by simp, by simp⟩
    · rw [if_neg h5]
      have hd : data = [] := by rcases o4 with h | h; · exact absurd h h5
                                exact h
      subst hd
      by_cases h6 : op = 1 ∨ op = 4 ∨ op = 6
      · have hn := numOf_itoa n ha.n.1 ha.n.2
        rw [if_pos h6]
        simp only [actG, actV, actN, hop, ht, hn, Option.isSome_some, Option.getD_some, Bool.true_and, if_neg h0, if_neg h5, if_pos h6]
        exact ⟨trivial, trivial, trivial⟩
      · rw [if_neg h6]
        have hn : n = 0 := by omega
        subst hn
        simp only [actG, actV, actN, hop, ht, Option.isSome_some, Option.getD_some, Bool.true_and, Bool.or_eq_true, decide_eq_true_eq]
        exact ⟨by omega, trivial, trivial⟩
end Go.Proofs.YtabcdcnnamflfaaDoor.Wd
