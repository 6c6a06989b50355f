/- Plain laws: the reference's lines of a configuration and of an act are what they are; alike is alike. -/
import Derived.Test.YtabcdcnnamflfaaDoorQScx1
import Derived.Test.YtabcdcnnamflfaaDoorQScx2
import Derived.Test.YtabcdcnnamflfaaDoorQScx3
set_option linter.unusedVariables false
set_option linter.unusedSimpArgs false
namespace Go.Proofs.YtabcdcnnamflfaaDoor.QSc
open Go.RowKit Wd Go.Proofs.YtabcdcnnamflfaaDoorW.PrintWords Go.Proofs.YtabcdcnnamflfaaDoorW.PrintLast Go.Proofs.YtabcdcnnamflfaaDoorW.PrintMore
theorem w1 {i : Nat} (h : i < 4611686018427387904) : wrap64 ((i : Int) + 1) = ((i + 1 : Nat) : Int) := by unfold wrap64; omega
theorem ws {i : Nat} (h : i < 4611686018427387904) : wrap64 ((i : Int) + 1) = ((i + 1 : Nat) : Int) := w1 h
def Sm (up : List (List Int)) : Prop := up.length ≤ 20 ∧ ∀ x ∈ up, x.length ≤ 20
theorem rdLs (up : List (List Int)) (i : Nat) (h : i < up.length) : rd_L3 up (i : Int) = up[i] := by simp [rd_L3, h]
theorem long9_loop (l : List (List Int)) : ∀ (d k i : Nat), 20 - i = d → i ≤ 20 → (∀ j (h : j < l.length), j < i → l[j].length ≤ 20) → 2 * d + 1 < k → ∃ b, sakialaw09_Long.l0 k l (i : Int) = some b ∧ (b = false → Sm l) := by
  intro d
  induction d with
  | zero =>
    intro k i hd hi hj hk
    obtain ⟨k, rfl⟩ : ∃ n, k = n + 2 := ⟨k - 2, by omega⟩
    have e : (if (i : Int) < (l.length : Int) then sakialaw09_Long.j1 (k + 1) l (i : Int) (decide ((i : Int) < 20)) else sakialaw09_Long.j1 (k + 1) l (i : Int) false) = sakialaw09_Long.j1 (k + 1) l (i : Int) false := by
      split
      · rw [decide_eq_false (by omega)]
      · rfl
    refine ⟨decide ((l.length : Int) > 20), ?_, fun hb => ?_⟩
    · simp only [sakialaw09_Long.l0]
      rw [e]
      simp only [sakialaw09_Long.j1]
      rw [if_neg (by simp)]
    · have hl : l.length ≤ 20 := by have := of_decide_eq_false hb; omega
      exact ⟨hl, fun x hx => by
        obtain ⟨j, hj2, rfl⟩ := List.mem_iff_getElem.1 hx
        exact hj j hj2 (by omega)⟩
  | succ d ih =>
    intro k i hd hi hj hk
    obtain ⟨k, rfl⟩ : ∃ n, k = n + 2 := ⟨k - 2, by omega⟩
    simp only [sakialaw09_Long.l0]
    by_cases hlt : i < l.length
    · rw [if_pos (by omega), decide_eq_true (by omega : (i : Int) < 20)]
      simp only [sakialaw09_Long.j1]
      rw [if_pos trivial, if_pos (by omega), if_pos (by omega), rdLs l i hlt]
      by_cases hc : (l[i].length : Int) > 20
      · exact ⟨true, by rw [if_pos hc], fun h => by simp at h⟩
      · rw [if_neg hc, w1 (by omega)]
        exact ih k (i + 1) (by omega) (by omega) (fun j h hji => by
          by_cases e : j = i
          · subst e; omega
          · exact hj j h (by omega)) (by omega)
    · rw [if_neg (by omega)]
      simp only [sakialaw09_Long.j1]
      rw [if_neg (by simp)]
      refine ⟨_, rfl, fun _ => ⟨by omega, fun x hx => ?_⟩⟩
      obtain ⟨j, hj2, rfl⟩ := List.mem_iff_getElem.1 hx
      exact hj j hj2 (by omega)
theorem long9 (up : List (List Int)) : ∃ b, sakialaw09_Long.f 1000 up = some b ∧ (b = false → Sm up) := long9_loop up 20 1000 0 rfl (by omega) (fun j _ h => by omega) (by omega)
theorem rd_nat (xs : List Int) (i : Nat) (h : i < xs.length) : rd xs (i : Int) = xs[i] := by simp [rd, h]
theorem rsame5_loop (l m : List Int) (hl : l.length = m.length) (hb : l.length < 4611686018427387904) : ∀ (d k i : Nat), l.length - i = d → i ≤ l.length → d < k → sakiaref05_Same.l0 k l m (i : Int) = some (l.drop i == m.drop i) := by
  intro d
  induction d with
  | zero =>
    intro k i hd hi hk
    obtain ⟨k, rfl⟩ : ∃ n, k = n + 1 := ⟨k - 1, by omega⟩
    simp only [sakiaref05_Same.l0]
    rw [if_neg (by omega), List.drop_eq_nil_of_le (by omega), List.drop_eq_nil_of_le (by omega)]; rfl
  | succ d ih =>
    intro k i hd hi hk
    obtain ⟨k, rfl⟩ : ∃ n, k = n + 1 := ⟨k - 1, by omega⟩
    simp only [sakiaref05_Same.l0]
    rw [if_pos (by omega), if_pos (by omega), if_pos (by omega), rd_nat _ _ (by omega), rd_nat _ _ (by omega), List.drop_eq_getElem_cons (by omega : i < l.length), List.drop_eq_getElem_cons (by omega : i < m.length)]
    by_cases h : l[i] = m[i]
    · rw [if_pos h, ws (by omega), ih k (i + 1) (by omega) (by omega) (by omega), List.cons_beq_cons, beq_iff_eq.2 h, Bool.true_and]
    · rw [if_neg h, List.cons_beq_cons, beq_eq_false_iff_ne.2 h, Bool.false_and]
theorem rsame5_ok (l m : List Int) (hb : l.length ≤ 100) (k : Nat) (hk : 200 ≤ k) : sakiaref05_Same.f k l m = some (l == m) := by
  simp only [sakiaref05_Same.f]
  by_cases h : l.length = m.length
  · rw [if_pos (by omega)]
    have := rsame5_loop l m h (by omega) l.length k 0 (by omega) (by omega) (by omega)
    simpa using this
  · rw [if_neg (by omega)]
    have : (l == m) = false := by
      rw [beq_eq_false_iff_ne]
      intro e; rw [e] at h; exact h rfl
    rw [this]
theorem beqd (a b : Int) : (a == b) = decide (a = b) := by
  by_cases h : a = b
  · rw [decide_eq_true h, h]; simp
  · rw [decide_eq_false h]; simpa using h
theorem graphs_loop (l : List (List Int)) (hl : l.length ≤ 100000) (hd : ∀ x ∈ l, x.length ≤ 100) : ∀ (d k i : Nat), l.length - i = d → i ≤ l.length → d + 200 < k → sakiaref10_Graphs.l0 k l l (i : Int) = some true := by
  intro d
  induction d with
  | zero =>
    intro k i h1 h2 hk
    obtain ⟨k, rfl⟩ : ∃ n, k = n + 1 := ⟨k - 1, by omega⟩
    simp only [sakiaref10_Graphs.l0]
    rw [if_neg (by omega)]
  | succ d ih =>
    intro k i h1 h2 hk
    obtain ⟨k, rfl⟩ : ∃ n, k = n + 1 := ⟨k - 1, by omega⟩
    have hlt : i < l.length := by omega
    simp only [sakiaref10_Graphs.l0]
    rw [if_pos (by omega), if_pos (by omega), if_pos (by omega), rdLs l i hlt, rsame5_ok _ _ (hd _ (List.getElem_mem hlt)) k (by omega), w1 (by omega)]
    simp only [Option.bind_some, beq_self_eq_true, if_true]
    exact ih k (i + 1) (by omega) (by omega) (by omega)
theorem graphs_refl (l : List (List Int)) (hl : l.length ≤ 500) (hd : ∀ x ∈ l, x.length ≤ 100) : sakiaref10_Graphs.f 1000 l l = some true := by
  unfold sakiaref10_Graphs.f
  rw [if_pos rfl]
  exact graphs_loop l (by omega) hd l.length 1000 0 (by omega) (by omega) (by omega)
theorem csame_refl (v w c p s : Int) (l : List (List Int)) (hl : l.length ≤ 500) (hd : ∀ x ∈ l, x.length ≤ 100) : sakiaref10_Same.f 1000 v w c p s l v w c p s l = some true := by
  unfold sakiaref10_Same.f
  rw [if_pos rfl, if_pos rfl, if_pos rfl, if_pos rfl, if_pos rfl, graphs_refl l hl hd]
  rfl
theorem beql {α : Type} (l : List α) : ((l.length : Int) == 0) = decide (l.length = 0) := by
  rw [beqd]
  by_cases h : l.length = 0
  · rw [decide_eq_true h, decide_eq_true (by omega)]
  · rw [decide_eq_false h, decide_eq_false (by omega)]
theorem clean_l (a : Ac) : sakiaref36_Clean.f a.thread a.op a.n a.data = some (cleanA a) := by
  unfold sakiaref36_Clean.f cleanA
  simp only [beql]
  by_cases h0 : a.op < 0
  · rw [if_pos h0, decide_eq_false (show ¬ 0 ≤ a.op by omega)]; rfl
  rw [if_neg h0, decide_eq_true (show 0 ≤ a.op by omega)]
  by_cases h6 : a.op > 6
  · rw [if_pos h6, decide_eq_false (show ¬ a.op ≤ 6 by omega)]; rfl
  rw [if_neg h6, decide_eq_true (show a.op ≤ 6 by omega)]
  repeat' split
  all_goals simp_all
theorem num_f {n : Int} (h : In8 n) : sakiaref06_Num.f n = some (bs (Lib.itoa n)) := if_pos h
theorem big_f {n : Nat} (h : n < 18446744073709551616) : sakiaref06_Big.f (n : Int) = some (bs (Lib.decDigits n)) := by
  unfold sakiaref06_Big.f
  rw [if_pos (by omega)]; rfl
theorem list_f {l : List Int} (h : (∀ n ∈ l, In8 n) ∧ l.length ≤ 100000) : sakiaref06_List.f l = some (bs (listTxt l)) := if_pos h
theorem word_f (n : Int) (h : In8 n) : sakiaref24_Word.f n = some (bs (varT n)) := by
  unfold sakiaref24_Word.f
  simp only [Option.bind_some]
  by_cases h1 : n < 1
  · rw [if_pos h1]; unfold varT; repeat rw [if_neg (by omega)]
    rfl
  rw [if_neg h1]
  by_cases h5 : n > 5
  · rw [if_pos h5]; unfold varT; repeat rw [if_neg (by omega)]
    rfl
  rw [if_neg h5]
  have hw : wrap64 (n - 1) = n - 1 := by unfold wrap64; omega
  rw [hw, if_pos (by omega), if_pos (by show n - 1 < 5; omega)]
  have : n = 1 ∨ n = 2 ∨ n = 3 ∨ n = 4 ∨ n = 5 := by omega
  rcases this with rfl | rfl | rfl | rfl | rfl <;> rfl
theorem opT_len (n : Int) : (opT n).length ≤ 8 := by
  unfold opT
  repeat' split
  all_goals simp
theorem varT_len (n : Int) : (varT n).length ≤ 5 := by
  unfold varT
  repeat' split
  all_goals simp
theorem lt_len {l : List Int} (h : (∀ n ∈ l, In8 n) ∧ l.length ≤ 100000) : (listTxt l).length ≤ 22 * l.length + 1 := by
  unfold listTxt
  split
  · simp
  · have := join_bound l (fun n hn => h.1 n hn); omega
theorem join2 (a : List UInt8) (r : List (List UInt8)) : Lib.join (a :: r) [32] = a ++ Lib.joinTail [32] r := Lib.join_cons a r [32]
theorem tail_nil : Lib.joinTail [32] [] = [] := rfl
theorem bs32 : (⟨#[32]⟩ : ByteArray) = bs [32] := rfl
theorem bs0 : (⟨#[]⟩ : ByteArray) = bs [] := rfl
theorem bstep : (⟨#[115, 116, 101, 112, 32]⟩ : ByteArray) = bs (Wd.stepT ++ [32]) := rfl
theorem bring : (⟨#[114, 105, 110, 103, 32]⟩ : ByteArray) = bs (ringT ++ [32]) := rfl
theorem lstep : Wd.stepT.length = 4 := rfl
theorem lring : ringT.length = 4 := rfl
theorem act_l (a : Ac) (h : AcOk a) (hl : a.data.length ≤ 100000) (m : Int) (hm : In8 m) : sakiaref36_Act.f a.thread a.op a.n a.data m = some (bs (actT a m)) := by
  have l1 := itoa_len a.thread h.t.1 h.t.2
  have l2 := itoa_len a.n h.n.1 h.n.2
  have l3 := itoa_len m hm.1 hm.2
  have l4 := opT_len a.op
  have l6 := lt_len ⟨h.d, hl⟩
  have f1 := num_f h.t
  have f2 := num_f h.n
  have f3 := num_f hm
  have f6 := list_f ⟨h.d, hl⟩
  have fo : sakiaref15_OpWord.f a.op = some (bs (opT a.op)) := rfl
  unfold sakiaref36_Act.f
  rw [clean_l]
  simp only [Option.bind_some]
  cases hc : cleanA a with
  | false =>
    have : actT a m = [] := by unfold actT; rw [if_neg (by rw [hc]; decide)]
    rw [this]; rfl
  | true =>
    obtain ⟨o1, o2, o3, o4⟩ := cleanA_op hc
    have hE : actT a m = Lib.join (actW a m) [32] := by unfold actT; rw [if_pos hc]
    rw [hE]
    simp only [f1, f2, f3, f6, fo, Option.bind_some, bs32, bs0, bstep, bs_append, bs_size, List.length_append, List.length_cons, List.length_nil, lstep, if_true]
    unfold actW
    obtain ⟨thread, op, n, data⟩ := a
    simp only at *
    have hop : op = 0 ∨ op = 1 ∨ op = 2 ∨ op = 3 ∨ op = 4 ∨ op = 5 ∨ op = 6 := by omega
    generalize hOT : opT op = OT at *
    clear hOT f1 f2 f3 f6 fo hc hE
    rcases hop with rfl | rfl | rfl | rfl | rfl | rfl | rfl
    all_goals
      simp only [reduceIte, Int.reduceEq, or_false, false_or, or_true, true_or, join2, joinTail_cons, tail_nil, List.append_nil, List.append_assoc]
      repeat rw [if_pos (by omega)]
theorem conf_loop (v w c p s : Int) (up : List (List Int)) (hu : ∀ l ∈ up, (∀ n ∈ l, In8 n) ∧ l.length ≤ 20) (hn : up.length ≤ 20) : ∀ (d k i : Nat) (x : List UInt8), up.length - i = d → i ≤ up.length → d < k → x.length ≤ 1000 + 500 * i → sakiaref36_Conf.l0 k (bs x) (i : Int) v w c p s up = some (bs (x ++ Lib.joinTail [32] ((up.drop i).map listTxt))) := by
  intro d
  induction d with
  | zero =>
    intro k i x h1 h2 hk hx
    obtain ⟨k, rfl⟩ : ∃ n, k = n + 1 := ⟨k - 1, by omega⟩
    simp only [sakiaref36_Conf.l0]
    rw [if_neg (by omega), List.drop_eq_nil_of_le (by omega)]
    simp [Lib.joinTail]
  | succ d ih =>
    intro k i x h1 h2 hk hx
    obtain ⟨k, rfl⟩ : ∃ n, k = n + 1 := ⟨k - 1, by omega⟩
    have hlt : i < up.length := by omega
    obtain ⟨g1, g2⟩ := hu _ (List.getElem_mem hlt)
    have hl := lt_len ⟨g1, show up[i].length ≤ 100000 by omega⟩
    simp only [sakiaref36_Conf.l0]
    rw [if_pos (by omega), rdLs up i hlt, list_f ⟨g1, by omega⟩, w1 (by omega)]
    simp only [Option.bind_some, bs32, bs_append, bs_size, List.length_append, List.length_cons, List.length_nil]
    rw [if_pos (by omega), if_pos (by omega), if_pos (by omega), ih k (i + 1) _ (by omega) (by omega) (by omega) (by simp; omega), List.drop_eq_getElem_cons hlt, List.map_cons, joinTail_cons]
    simp
theorem conf_l (c : Cf) (h : CfOk c) (hv : In8 c.variant) (hs : Sm c.up) : sakiaref36_Conf.f 1000 c.variant c.width c.cap c.prod c.start c.up = some (bs (confT c)) := by
  have l1 := itoa_len c.width h.w.1 h.w.2
  have l2 := itoa_len c.cap h.k.1 h.k.2
  have l3 := itoa_len c.prod h.p.1 h.p.2
  have l4 := varT_len c.variant
  have l5 := dec_len c.start h.s
  unfold sakiaref36_Conf.f confT
  simp only [word_f _ hv, num_f h.w, num_f h.k, num_f h.p, big_f h.s, Option.bind_some, bs_toList]
  by_cases hn : varT c.variant = []
  · rw [if_pos hn, if_pos hn]; rfl
  rw [if_neg hn, if_neg hn]
  simp only [bs32, bring, bs_append, bs_size, List.length_append, List.length_cons, List.length_nil, lring]
  repeat rw [if_pos (by omega)]
  have := conf_loop c.variant c.width c.cap c.prod c.start c.up (fun l hl => ⟨h.u l hl, hs.2 l hl⟩) hs.1 c.up.length 1000 0 (ringT ++ [32] ++ varT c.variant ++ [32] ++ Lib.itoa c.width ++ [32] ++ Lib.itoa c.cap ++ [32] ++ Lib.itoa c.prod ++ [32] ++ Lib.decDigits c.start) (by omega) (by omega) (by have := hs.1; omega) (by simp [lring]; omega)
  rw [show ((0 : Nat) : Int) = 0 from rfl] at this
  rw [this]
  unfold confW
  simp only [List.cons_append, List.nil_append, join2, joinTail_cons, List.append_assoc, List.drop_zero]
end Go.Proofs.YtabcdcnnamflfaaDoor.QSc
