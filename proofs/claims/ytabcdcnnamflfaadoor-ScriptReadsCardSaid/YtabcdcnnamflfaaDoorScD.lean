/- What ParseConf and ParseAct answer, in plain words; two rows of one act; the document's example. Asked: the library's variables lie as laid. -/
import Derived.Test.YtabcdcnnamflfaaDoorScC
set_option linter.unusedVariables false
set_option linter.unusedSimpArgs false
set_option maxRecDepth 100000
namespace Go.Proofs.YtabcdcnnamflfaaDoor.QSc
open Go.RowKit Wd Go.Proofs.YtabcdcnnamflfaaDoorW.PrintWords Go.Proofs.YtabcdcnnamflfaaDoorW.PrintLast Go.Proofs.YtabcdcnnamflfaaDoorW.PrintMore
theorem conf_loop2 (v w c p s : Int) (up : List (List Int)) (hu : ∀ l ∈ up, (∀ n ∈ l, In8 n) ∧ l.length ≤ 4000) (hn : up.length ≤ 4000) : ∀ (d k i : Nat) (x : List UInt8), up.length - i = d → i ≤ up.length → d < k → x.length ≤ 1000 + 90000 * i → sakiaref36_Conf.l0 k (bs x) (i : Int) v w c p s up = some (bs (x ++ Lib.joinTail [32] ((up.drop i).map listTxt))) := by
  intro d
  induction d with
  | zero =>
    intro k i x h1 h2 hk hx
    obtain ⟨k, rfl⟩ : ∃ n, k = n + 1 := ⟨k - 1, by omega⟩
    simp only [sakiaref36_Conf.l0]
    rw [if_neg (by omega), List.drop_eq_nil_of_le (by omega)]
    simp [Lib.joinTail]
  | succ d ih =>
    intro k i x h1 h2 hk hx
    obtain ⟨k, rfl⟩ : ∃ n, k = n + 1 := ⟨k - 1, by omega⟩
    have hlt : i < up.length := by omega
    obtain ⟨g1, g2⟩ := hu _ (List.getElem_mem hlt)
    have hl := lt_len ⟨g1, show up[i].length ≤ 100000 by omega⟩
    simp only [sakiaref36_Conf.l0]
    rw [if_pos (by omega), rdLs up i hlt, list_f ⟨g1, by omega⟩, w1 (by omega)]
    simp only [Option.bind_some, bs32, bs_append, bs_size, List.length_append, List.length_cons, List.length_nil]
    rw [if_pos (by omega), if_pos (by omega), if_pos (by omega), ih k (i + 1) _ (by omega) (by omega) (by omega) (by simp; omega), List.drop_eq_getElem_cons hlt, List.map_cons, joinTail_cons]
    simp
theorem conf_l2 (c : Cf) (h : CfOk c) (hv : In8 c.variant) (hs : c.up.length ≤ 4000 ∧ ∀ l ∈ c.up, l.length ≤ 4000) : sakiaref36_Conf.f 5000 c.variant c.width c.cap c.prod c.start c.up = some (bs (confT c)) := by
  have l1 := itoa_len c.width h.w.1 h.w.2
  have l2 := itoa_len c.cap h.k.1 h.k.2
  have l3 := itoa_len c.prod h.p.1 h.p.2
  have l4 := varT_len c.variant
  have l5 := dec_len c.start h.s
  unfold sakiaref36_Conf.f confT
  simp only [word_f _ hv, num_f h.w, num_f h.k, num_f h.p, big_f h.s, Option.bind_some, bs_toList]
  by_cases hn : varT c.variant = []
  · rw [if_pos hn, if_pos hn]; rfl
  rw [if_neg hn, if_neg hn]
  simp only [bs32, bring, bs_append, bs_size, List.length_append, List.length_cons, List.length_nil, lring]
  repeat rw [if_pos (by omega)]
  have := conf_loop2 c.variant c.width c.cap c.prod c.start c.up (fun l hl => ⟨h.u l hl, hs.2 l hl⟩) hs.1 c.up.length 5000 0 (ringT ++ [32] ++ varT c.variant ++ [32] ++ Lib.itoa c.width ++ [32] ++ Lib.itoa c.cap ++ [32] ++ Lib.itoa c.prod ++ [32] ++ Lib.decDigits c.start) (by omega) (by omega) (by have := hs.1; omega) (by simp [lring]; omega)
  rw [show ((0 : Nat) : Int) = 0 from rfl] at this
  rw [this]
  unfold confW
  simp only [List.cons_append, List.nil_append, join2, joinTail_cons, List.append_assoc, List.drop_zero]
end Go.Proofs.YtabcdcnnamflfaaDoor.QSc
namespace Go.Proofs.YtabcdcnnamflfaaDoor.Wd
open Go.RowKit Go.Proofs.YtabcdcnnamflfaaDoorW.PrintWords Go.Proofs.YtabcdcnnamflfaaDoorW.PrintLast Go.Proofs.YtabcdcnnamflfaaDoorW.PrintMore
/-- The configuration of a line. -/
theorem conf_ (s : List UInt8) (hs : s.length ≤ 65536) (w : World) (hw : LibW w) : Calls Tryd.prog 29 #[.string (bs s)] w fun e w' => ConfRes s w w' e := by
  cases hlb : lineB s with
  | false => exact conf_none s hs w hw (.inl hlb)
  | true =>
    match hws : wordsOf s with
    | [] => exact conf_none s hs w hw (.inr (by rw [hws]; simp))
    | [_] => exact conf_none s hs w hw (.inr (by rw [hws]; simp))
    | [_, _] => exact conf_none s hs w hw (.inr (by rw [hws]; simp))
    | [_, _, _] => exact conf_none s hs w hw (.inr (by rw [hws]; simp))
    | [_, _, _, _] => exact conf_none s hs w hw (.inr (by rw [hws]; simp))
    | [_, _, _, _, _] => exact conf_none s hs w hw (.inr (by rw [hws]; simp))
    | rg :: v :: a :: b :: p :: st :: ups =>
      by_cases hr : rg = ringT
      · exact conf_main s hs w hw hlb rg v a b p st ups hws hr
      · exact conf_ring s hs w hw hlb rg v a b p st ups hws hr
/-! ### what is read is in range -/
theorem numOf_range {w : List UInt8} {v : Int} (h : numOf w = some v) : In8 v := by
  unfold numOf at h
  split at h
  · next v2 h2 =>
    split at h
    · injection h with h; subst h; exact atoi_range h2
    · cases h
  · cases h
theorem numD (w : List UInt8) : In8 ((numOf w).getD 0) := by
  cases h : numOf w with
  | none => show In8 0; unfold In8; omega
  | some v => exact numOf_range h
theorem bigD (w : List UInt8) : (bigOf w).getD 0 < 18446744073709551616 := by
  cases h : bigOf w with
  | none => show 0 < _; omega
  | some v =>
    unfold bigOf at h
    split at h
    · next v2 h2 =>
      split at h
      · injection h with h; subst h; exact Lib.parseMag_lt h2
      · cases h
    · cases h
theorem mapM_mem : ∀ (ws : List (List UInt8)) (l : List Int), ws.mapM numOf = some l → ∀ n ∈ l, In8 n
  | [], l, h => by simp at h; subst h; simp
  | w :: ws, l, h => by
    rw [List.mapM_cons] at h
    cases h1 : numOf w with
    | none => rw [h1] at h; cases h
    | some v =>
      cases h2 : ws.mapM numOf with
      | none => rw [h1, h2] at h; cases h
      | some r =>
        rw [h1, h2] at h
        injection h with h
        subst h
        intro n hn
        rcases List.mem_cons.1 hn with rfl | hn
        · exact numOf_range h1
        · exact mapM_mem ws r h2 n hn
theorem listD (w : List UInt8) : (∀ n ∈ (listOf w).getD [], In8 n) ∧ ((listOf w).getD []).length ≤ w.length + 1 := by
  cases h : listOf w with
  | none => exact ⟨by simp, by simp⟩
  | some l =>
    unfold listOf at h
    split at h
    · injection h with h; subst h; exact ⟨by simp, by simp⟩
    · refine ⟨mapM_mem _ l h, ?_⟩
      have h2 := congrArg List.length (mapM_num _ l h)
      rw [List.length_map] at h2
      show l.length ≤ _
      rw [← h2]
      exact sp_count 44 w
theorem varOf_range (w : List UInt8) : In8 (varOf w) := by
  unfold varOf In8
  repeat' split
  all_goals omega
theorem words_few (s : List UInt8) : (wordsOf s).length ≤ s.length + 1 := by
  unfold wordsOf
  split
  · simp
  · exact sp_count 32 s
theorem valC_ok (s : List UInt8) : CfOk (valC s) ∧ In8 (valC s).variant ∧ (valC s).up.length ≤ s.length + 1 ∧ ∀ l ∈ (valC s).up, l.length ≤ s.length + 1 := by
  have z : In8 0 := by unfold In8; omega
  unfold valC
  split
  · have hf := words_few s
    have hl := sp_len s
    match wordsOf s, hf, hl with
    | rg :: v :: a :: b :: p :: st :: ups, hf, hl =>
      refine ⟨⟨numD a, numD b, numD p, bigD st, ?_⟩, varOf_range v, ?_, ?_⟩
      · intro l hl2 n hn
        obtain ⟨u, hu, rfl⟩ := List.mem_map.1 hl2
        exact (listD u).1 n hn
      · simp only [confV, List.length_map]; simp at hf; omega
      · intro l hl2
        obtain ⟨u, hu, rfl⟩ := List.mem_map.1 hl2
        have h1 := (listD u).2
        have h2 := hl u (by simp [hu])
        omega
    | [], _, _ => exact ⟨⟨z, z, z, (show (0 : Nat) < 18446744073709551616 by decide), by simp [confV]⟩, z, by simp [confV], by simp [confV]⟩
    | [_], _, _ => exact ⟨⟨z, z, z, (show (0 : Nat) < 18446744073709551616 by decide), by simp [confV]⟩, z, by simp [confV], by simp [confV]⟩
    | [_, _], _, _ => exact ⟨⟨z, z, z, (show (0 : Nat) < 18446744073709551616 by decide), by simp [confV]⟩, z, by simp [confV], by simp [confV]⟩
    | [_, _, _], _, _ => exact ⟨⟨z, z, z, (show (0 : Nat) < 18446744073709551616 by decide), by simp [confV]⟩, z, by simp [confV], by simp [confV]⟩
    | [_, _, _, _], _, _ => exact ⟨⟨z, z, z, (show (0 : Nat) < 18446744073709551616 by decide), by simp [confV]⟩, z, by simp [confV], by simp [confV]⟩
    | [_, _, _, _, _], _, _ => exact ⟨⟨z, z, z, (show (0 : Nat) < 18446744073709551616 by decide), by simp [confV]⟩, z, by simp [confV], by simp [confV]⟩
  · exact ⟨⟨z, z, z, (show (0 : Nat) < 18446744073709551616 by decide), by simp⟩, z, by simp, by simp⟩
theorem valA_ok (s : List UInt8) : AcOk (valA s) ∧ (valA s).data.length ≤ s.length + 1 ∧ 0 ≤ cntA s ∧ cntA s ≤ 1000 := by
  have z : In8 0 := by unfold In8; omega
  cases h : resA s with
  | false =>
    obtain ⟨h1, h2⟩ := resA_no h
    rw [h1, h2]
    exact ⟨⟨z, z, by simp⟩, by simp, by omega, by omega⟩
  | true =>
    obtain ⟨h1, h2⟩ := resA_yes h
    have hg : actG (wordsOf s) = true := by unfold resA at h; simp at h; exact h.2
    obtain ⟨_, _, h5, h6⟩ := act_back hg
    rw [h1, h2]
    have hl := sp_len s
    refine ⟨?_, ?_, by omega, h6⟩
    · match wordsOf s, hg with
      | [t, o], _ => exact ⟨numD t, z, by simp [actV]⟩
      | [t, o, x], _ =>
        refine ⟨numD t, ?_, ?_⟩
        · show In8 (if _ then _ else _)
          split
          · exact numD x
          · exact z
        · intro n hn
          simp only [actV] at hn
          split at hn
          · exact (listD x).1 n hn
          · simp at hn
    · match wordsOf s, hg, hl with
      | [t, o], _, _ => simp [actV]
      | [t, o, x], _, hl =>
        simp only [actV]
        split
        · have h7 := (listD x).2
          have h8 := hl x (by simp)
          omega
        · simp
/-! ### what was shown is read -/
theorem conf_shown {c : Cf} (hc : CfOk c) : resC (confT c) = decide (varT c.variant ≠ []) ∧ (varT c.variant ≠ [] → valC (confT c) = c) := by
  by_cases h : varT c.variant = []
  · have e : confT c = [] := by unfold confT; rw [if_pos h]
    rw [e, decide_eq_false (by simpa using h)]
    exact ⟨rfl, fun h2 => absurd h h2⟩
  · obtain ⟨h1, h2, _⟩ := conf_words h
    obtain ⟨h3, h4⟩ := conf_read hc h
    have hr : resC (confT c) = true := by unfold resC; rw [h1, h2, h3]; rfl
    refine ⟨by rw [hr, decide_eq_true h], fun _ => ?_⟩
    unfold valC
    rw [if_pos hr, h2, h4]
theorem act_shown {a : Ac} (ha : AcOk a) (m : Int) (h1 : 1 ≤ m) (h2 : m ≤ 1000) : resA (actT a m) = cleanA a ∧ (cleanA a = true → valA (actT a m) = a ∧ cntA (actT a m) = if a.op = 0 then m else 1) := by
  cases hc : cleanA a with
  | false =>
    have e : actT a m = [] := by unfold actT; rw [if_neg (by rw [hc]; decide)]
    rw [e]
    exact ⟨rfl, fun h => by cases h⟩
  | true =>
    obtain ⟨g1, g2, _⟩ := act_words hc m
    obtain ⟨g3, g4, g5⟩ := act_read ha hc m h1 h2
    have hr : resA (actT a m) = true := by unfold resA; rw [g1, g2, g3]; rfl
    obtain ⟨e1, e2⟩ := resA_yes hr
    exact ⟨hr, fun _ => ⟨by rw [e1, g2, g4], by rw [e2, g2, g5]⟩⟩
theorem conf_read_line {s : List UInt8} (h : resC s = true) : confT (valC s) = s := by
  have hg : confG (wordsOf s) = true := by unfold resC at h; simp at h; exact h.2
  unfold valC
  rw [if_pos h]
  exact (conf_line hg).1
theorem act_read_line {s : List UInt8} (h : resA s = true) : actT (valA s) (cntA s) = s := by
  have hg : actG (wordsOf s) = true := by unfold resA at h; simp at h; exact h.2
  obtain ⟨e1, e2⟩ := resA_yes h
  rw [e1, e2]
  exact act_line hg
end Go.Proofs.YtabcdcnnamflfaaDoor.Wd
