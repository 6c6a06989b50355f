/- Which configurations are alike: plain laws. -/
import Derived.Test.YtkakgmpcenfjlaaConfSmallP
import Derived.Test.YtkakgmpcenfjlaaQCfx6
import Derived.Test.YtkakgmpcenfjlaaQCfx7
set_option linter.unusedVariables false
set_option linter.unusedSimpArgs false
namespace Go.Proofs.Ytkakgmpcenfjlaa.QCf
open Go.RowKit Go.Proofs.YtkakgmpcenfjlaaW.PrintWords Go.Proofs.YtkakgmpcenfjlaaW.PrintLast Go.Proofs.YtkakgmpcenfjlaaW.PrintMore Go.Proofs.Ytkakgmpcenfjlaa.Graph Go.Proofs.Ytkakgmpcenfjlaa.QGc
theorem same_loop (l m : List Int) (hl : l.length = m.length) (hb : l.length ≤ 1000) : ∀ (d k i : Nat), l.length - i = d → i ≤ l.length → d < k → sakiaref05_Same.l0 k l m (i : Int) = some (l.drop i == m.drop i) := by
  intro d
  induction d with
  | zero =>
    intro k i hd hi hk
    obtain ⟨k, rfl⟩ : ∃ n, k = n + 1 := ⟨k - 1, by omega⟩
    simp only [sakiaref05_Same.l0]
    rw [if_neg (by omega), List.drop_eq_nil_of_le (by omega), List.drop_eq_nil_of_le (by omega)]; rfl
  | succ d ih =>
    intro k i hd hi hk
    obtain ⟨k, rfl⟩ : ∃ n, k = n + 1 := ⟨k - 1, by omega⟩
    simp only [sakiaref05_Same.l0]
    rw [if_pos (by omega), if_pos (by omega), if_pos (by omega), rd_at _ _ (by omega), rd_at _ _ (by omega), List.drop_eq_getElem_cons (by omega : i < l.length), List.drop_eq_getElem_cons (by omega : i < m.length)]
    by_cases h : l[i] = m[i]
    · rw [if_pos h, w1 (by omega), ih k (i + 1) (by omega) (by omega) (by omega), List.cons_beq_cons, beq_iff_eq.2 h, Bool.true_and]
    · rw [if_neg h, List.cons_beq_cons, beq_eq_false_iff_ne.2 h, Bool.false_and]
theorem same_ok (l m : List Int) (hb : l.length ≤ 1000) (k : Nat) (hk : 1100 ≤ k) : sakiaref05_Same.f k l m = some (l == m) := by
  simp only [sakiaref05_Same.f]
  by_cases h : l.length = m.length
  · rw [if_pos (by omega)]
    have := same_loop l m h hb l.length k 0 (by omega) (by omega) (by omega)
    simpa using this
  · rw [if_neg (by omega)]
    have : (l == m) = false := by
      rw [beq_eq_false_iff_ne]
      intro e; rw [e] at h; exact h rfl
    rw [this]
theorem equal_loop (l m : List Int) (hl : l.length = m.length) (hb : l.length ≤ 1000) : ∀ (d k i : Nat), l.length - i = d → i ≤ l.length → d < k → slices_Equal_int_int.l0 k l m (l.length : Int) (i : Int) = some (l.drop i == m.drop i) := by
  intro d
  induction d with
  | zero =>
    intro k i hd hi hk
    obtain ⟨k, rfl⟩ : ∃ n, k = n + 1 := ⟨k - 1, by omega⟩
    simp only [slices_Equal_int_int.l0]
    rw [if_neg (by omega), List.drop_eq_nil_of_le (by omega), List.drop_eq_nil_of_le (by omega)]; rfl
  | succ d ih =>
    intro k i hd hi hk
    obtain ⟨k, rfl⟩ : ∃ n, k = n + 1 := ⟨k - 1, by omega⟩
    simp only [slices_Equal_int_int.l0]
    rw [if_pos (by omega), if_pos (by omega), if_pos (by omega), if_pos (by omega), rd_at _ _ (by omega), rd_at _ _ (by omega), List.drop_eq_getElem_cons (by omega : i < l.length), List.drop_eq_getElem_cons (by omega : i < m.length)]
    by_cases h : l[i] = m[i]
    · rw [if_pos h, w1 (by omega), ih k (i + 1) (by omega) (by omega) (by omega), List.cons_beq_cons, beq_iff_eq.2 h, Bool.true_and]
    · rw [if_neg h, List.cons_beq_cons, beq_eq_false_iff_ne.2 h, Bool.false_and]
theorem equal_ok (l m : List Int) (hb : l.length ≤ 1000) (k : Nat) (hk : 1100 ≤ k) : slices_Equal_int_int.f k l m = some (l == m) := by
  simp only [slices_Equal_int_int.f]
  by_cases h : l.length = m.length
  · rw [if_pos (by omega)]
    have := equal_loop l m h hb l.length k 0 (by omega) (by omega) (by omega)
    simpa using this
  · rw [if_neg (by omega)]
    have : (l == m) = false := by
      rw [beq_eq_false_iff_ne]
      intro e; rw [e] at h; exact h rfl
    rw [this]
theorem drop_getD {up : List (List Int)} {i : Nat} (h : i < up.length) : up.drop i = up.getD i [] :: up.drop (i + 1) := by
  rw [List.drop_eq_getElem_cons h, List.getD_eq_getElem?_getD, List.getElem?_eq_getElem h]; rfl
theorem graphs_loop (l m : List (List Int)) (hl : l.length = m.length) (hs : Sm l) : ∀ (d k i : Nat), l.length - i = d → i ≤ l.length → d + 1100 < k → sakiaref10_Graphs.l0 k l m (i : Int) = some (l.drop i == m.drop i) := by
  intro d
  have := hs.1
  induction d with
  | zero =>
    intro k i hd hi hk
    obtain ⟨k, rfl⟩ : ∃ n, k = n + 1 := ⟨k - 1, by omega⟩
    simp only [sakiaref10_Graphs.l0]
    rw [if_neg (by omega), List.drop_eq_nil_of_le (by omega), List.drop_eq_nil_of_le (by omega)]; rfl
  | succ d ih =>
    intro k i hd hi hk
    obtain ⟨k, rfl⟩ : ∃ n, k = n + 1 := ⟨k - 1, by omega⟩
    simp only [sakiaref10_Graphs.l0]
    rw [if_pos (by omega), if_pos (by omega), if_pos (by omega), rdL, rdL, same_ok _ _ (by have := hs.at i; omega) k (by omega), Option.bind_some, drop_getD (by omega : i < l.length), drop_getD (by omega : i < m.length), List.cons_beq_cons]
    by_cases h : (l.getD i [] == m.getD i []) = true
    · rw [if_pos h, w1 (by omega), ih k (i + 1) (by omega) (by omega) (by omega), h, Bool.true_and]
    · rw [if_neg h, Bool.eq_false_iff.2 h, Bool.false_and]
theorem graphs_ok (l m : List (List Int)) (hs : Sm l) (k : Nat) (hk : 1200 ≤ k) : sakiaref10_Graphs.f k l m = some (l == m) := by
  have := hs.1
  simp only [sakiaref10_Graphs.f]
  by_cases h : l.length = m.length
  · rw [if_pos (by omega)]
    have := graphs_loop l m h hs l.length k 0 (by omega) (by omega) (by omega)
    simpa using this
  · rw [if_neg (by omega)]
    have : (l == m) = false := by
      rw [beq_eq_false_iff_ne]
      intro e; rw [e] at h; exact h rfl
    rw [this]
def alikeC (c p s : Int) (up : List (List Int)) (c' p' s' : Int) (up' : List (List Int)) : Bool := decide (c = c' ∧ p = p') && (up == up') && decide (s % 4294967296 = s' % 4294967296)
section
variable {v w c p s v' w' c' p' s' : Int} {up up' : List (List Int)}
theorem ralike_ok (hs : Sm up) (k : Nat) (hk : 1200 ≤ k) (h1 : 0 ≤ s) (h2 : s < 18446744073709551616) (h3 : 0 ≤ s') (h4 : s' < 18446744073709551616) :
    sakiaref10_Alike.f k v w c p s up v' w' c' p' s' up' = some (alikeC c p s up c' p' s' up') := by
  have e : ((Int.tmod (IntKind.u64.wrap (s - s')) 4294967296) = 0) ↔ s % 4294967296 = s' % 4294967296 := by
    rw [IntKind.wrap_u64, Int.tmod_eq_emod_of_nonneg (by omega)]
    omega
  unfold sakiaref10_Alike.f alikeC
  rw [graphs_ok up up' hs k hk]
  by_cases a : c = c'
  · rw [if_pos a]
    by_cases b : p = p'
    · rw [if_pos b, decide_eq_true (show c = c' ∧ p = p' from ⟨a, b⟩), Bool.true_and]
      by_cases d : s % 4294967296 = s' % 4294967296
      · rw [if_pos (e.2 d), decide_eq_true d, Bool.and_true]; rfl
      · rw [if_neg (fun x => d (e.1 x)), decide_eq_false d, Bool.and_false]
    · rw [if_neg b, decide_eq_false (fun x => b x.2)]; simp
  · rw [if_neg a, decide_eq_false (fun x => a x.1)]; simp
theorem cut32_ok (h1 : 0 ≤ s) : wide_Cut.f 32 s = some (s % 4294967296) := by
  rw [cut_ok h1]
  rfl
theorem alike_loop (hl : up.length = up'.length) (hs : Sm up) (h1 : 0 ≤ s) (h3 : 0 ≤ s') : ∀ (d k i : Nat), up.length - i = d → i ≤ up.length → d + 1100 < k →
    conf_Alike.l0 k up (up.length : Int) (i : Int) v w c p s up v' w' c' p' s' up' = some ((up.drop i == up'.drop i) && decide (s % 4294967296 = s' % 4294967296)) := by
  intro d
  have := hs.1
  induction d with
  | zero =>
    intro k i hd hi hk
    obtain ⟨k, rfl⟩ : ∃ n, k = n + 1 := ⟨k - 1, by omega⟩
    simp only [conf_Alike.l0]
    rw [if_neg (by omega), List.drop_eq_nil_of_le (by omega), List.drop_eq_nil_of_le (by omega), cut32_ok h1, cut32_ok h3]
    simp only [Option.bind_some]
    congr 1
  | succ d ih =>
    intro k i hd hi hk
    obtain ⟨k, rfl⟩ : ∃ n, k = n + 1 := ⟨k - 1, by omega⟩
    simp only [conf_Alike.l0]
    rw [if_pos (by omega), if_pos (by omega), if_pos (by omega), if_pos (by omega), rdL, rdL, equal_ok _ _ (by have := hs.at i; omega) k (by omega), Option.bind_some, drop_getD (by omega : i < up.length), drop_getD (by omega : i < up'.length), List.cons_beq_cons]
    by_cases h : (up.getD i [] == up'.getD i []) = true
    · rw [if_pos h, w1 (by omega), ih k (i + 1) (by omega) (by omega) (by omega), h, Bool.true_and]
    · rw [if_neg h, Bool.eq_false_iff.2 h, Bool.false_and, Bool.false_and]
theorem alike_ok (hs : Sm up) (k : Nat) (hk : 1300 ≤ k) (h1 : 0 ≤ s) (h3 : 0 ≤ s') : conf_Alike.f k v w c p s up v' w' c' p' s' up' = some (alikeC c p s up c' p' s' up') := by
  have h20 := hs.1
  have j1 : conf_Alike.j0 k true v w c p s up v' w' c' p' s' up' = some false := by
    obtain ⟨k, rfl⟩ : ∃ n, k = n + 1 := ⟨k - 1, by omega⟩
    simp only [conf_Alike.j0]
    rfl
  unfold conf_Alike.f alikeC
  rw [j1]
  by_cases a : c = c'
  · rw [if_pos a]
    by_cases b : p = p'
    · rw [if_pos b, decide_eq_true (show c = c' ∧ p = p' from ⟨a, b⟩), Bool.true_and]
      by_cases hl : up.length = up'.length
      · have e : ((up.length : Int) != (up'.length : Int)) = false := by simp [hl]
        rw [e]
        obtain ⟨k, rfl⟩ : ∃ n, k = n + 1 := ⟨k - 1, by omega⟩
        simp only [conf_Alike.j0]
        rw [if_neg nf]
        have := alike_loop (v := v) (w := w) (c := c) (p := p) (v' := v') (w' := w') (c' := c') (p' := p') hl hs h1 h3 up.length k 0 (by omega) (by omega) (by omega)
        simpa using this
      · have e : ((up.length : Int) != (up'.length : Int)) = true := by
          rw [bne_iff_ne]
          omega
        have e2 : (up == up') = false := by
          rw [beq_eq_false_iff_ne]
          intro e; rw [e] at hl; exact hl rfl
        rw [e, j1, e2]
        rfl
    · rw [if_neg b, decide_eq_false (fun x => b x.2)]; simp
  · rw [if_neg a, decide_eq_false (fun x => a x.1)]; simp
theorem alikeC_symm : alikeC c p s up c' p' s' up' = alikeC c' p' s' up' c p s up := by
  unfold alikeC
  rw [Bool.eq_iff_iff]
  simp only [Bool.and_eq_true, decide_eq_true_eq, beq_iff_eq]
  constructor
  · rintro ⟨⟨⟨h1, h2⟩, h3⟩, h4⟩
    exact ⟨⟨⟨h1.symm, h2.symm⟩, h3.symm⟩, h4.symm⟩
  · rintro ⟨⟨⟨h1, h2⟩, h3⟩, h4⟩
    exact ⟨⟨⟨h1.symm, h2.symm⟩, h3.symm⟩, h4.symm⟩
end
end Go.Proofs.Ytkakgmpcenfjlaa.QCf
