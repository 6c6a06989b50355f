/- Plain laws of package graph's check and of capacities: lists and numbers alone. -/
import Derived.Test.YtgibmlbdkijflaaDoorQGc
import Derived.Test.YtgibmlbdkijflaaDoorRight
import Derived.Test.YtgibmlbdkijflaaDoorTabCheck
set_option linter.unusedVariables false
set_option linter.unusedSimpArgs false
namespace Go.Proofs.YtgibmlbdkijflaaDoor.QGc
open Go.RowKit Go.Proofs.YtgibmlbdkijflaaDoorW.PrintWords Go.Proofs.YtgibmlbdkijflaaDoorW.PrintLast Go.Proofs.YtgibmlbdkijflaaDoorW.PrintMore Go.Proofs.YtgibmlbdkijflaaDoor.Graph
def Sm (up : List (List Int)) : Prop := up.length ≤ 20 ∧ ∀ l ∈ up, l.length ≤ 20
instance (up : List (List Int)) : Decidable (Sm up) := by unfold Sm; exact inferInstance
theorem Sm.at {up : List (List Int)} (h : Sm up) (i : Nat) : (up.getD i []).length ≤ 20 := by
  rw [List.getD_eq_getElem?_getD]
  by_cases hi : i < up.length
  · rw [List.getElem?_eq_getElem hi]; exact h.2 _ (List.getElem_mem hi)
  · rw [List.getElem?_eq_none (by omega)]; simp
theorem w1 {i : Nat} (h : i < 4611686018427387904) : wrap64 ((i : Int) + 1) = ((i + 1 : Nat) : Int) := by unfold wrap64; omega
theorem rdL (up : List (List Int)) (i : Nat) : rd_L1 up (i : Int) = up.getD i [] := by simp [rd_L1]
theorem in_ok (v : Nat) (h : v < 64) : group_in.f (v : Int) = some true := by
  unfold group_in.f
  rw [if_pos (by omega), decide_eq_true (by omega)]
theorem has_ok (m v : Nat) (hm : m < 64) (hv : v < 6) : group_Group_Has.f (m : Int) (v : Int) = some (m.testBit v) := by
  unfold group_Group_Has.f
  rw [in_ok v (by omega), Option.bind_some, if_pos rfl, if_pos (by omega)]
  unfold shr
  rw [Int.toNat_natCast, Nat.min_eq_left (show v ≤ IntKind.u64.bits from by show v ≤ 64; omega), hasB m hm v hv]
theorem with_ok (m v : Nat) (hm : m < 64) (hv : v < 6) : group_Group_With.f (m : Int) (v : Int) = some ((m ||| 2 ^ v : Nat) : Int) := by
  unfold group_Group_With.f
  rw [in_ok v (by omega), Option.bind_some, if_pos rfl, if_pos (by omega)]
  unfold shl
  rw [Int.toNat_natCast, Nat.min_eq_left (show v ≤ IntKind.u64.bits from by show v ≤ 64; omega), Int.one_mul, withB m hm v hv]
def grp (l : List Int) : Nat := l.foldl (fun m u => m ||| 2 ^ u.toNat) 0
theorem grp_snoc (l : List Int) (u : Int) : grp (l ++ [u]) = grp l ||| 2 ^ u.toNat := by simp [grp, List.foldl_append]
theorem fold_bit (v : Nat) : ∀ (l : List Int) (m : Nat), (∀ u ∈ l, 0 ≤ u) → (l.foldl (fun m u => m ||| 2 ^ u.toNat) m).testBit v = (m.testBit v || l.contains (v : Int))
  | [], m, _ => by simp
  | u :: l, m, h0 => by
    have hu := h0 u (by simp)
    rw [List.foldl_cons, fold_bit v l _ (fun x hx => h0 x (List.mem_cons_of_mem _ hx)), or_bit, List.contains_cons, Bool.or_assoc]
    congr 2
    rw [Bool.eq_iff_iff, decide_eq_true_eq, beq_iff_eq]
    omega
theorem grp_bit (l : List Int) (h0 : ∀ u ∈ l, 0 ≤ u) (v : Nat) : (grp l).testBit v = l.contains (v : Int) := by
  unfold grp
  rw [fold_bit v l 0 h0]
  simp
theorem fold_lt : ∀ (l : List Int) (m : Nat), m < 64 → (∀ u ∈ l, 0 ≤ u ∧ u < 6) → l.foldl (fun m u => m ||| 2 ^ u.toNat) m < 64
  | [], m, h, _ => h
  | u :: l, m, h, hl => by
    have hu := hl u (by simp)
    rw [List.foldl_cons]
    exact fold_lt l _ (or_lt _ h _ (by omega)) (fun x hx => hl x (List.mem_cons_of_mem _ hx))
theorem grp_lt (l : List Int) (h : ∀ u ∈ l, 0 ≤ u ∧ u < 6) : grp l < 64 := fold_lt l 0 (by decide) h
theorem names_loop (l : List Int) (n : Nat) (hn : n ≤ 6) (hl : l.length ≤ 20) : ∀ (d k i : Nat), l.length - i = d → i ≤ l.length → d < k → okN n (l.take i) →
    graph_names.l0 k (n : Int) (grp (l.take i) : Int) l (l.length : Int) (i : Int) = some (decide (okN n l)) := by
  intro d
  induction d with
  | zero =>
    intro k i hd hi hk ho
    obtain ⟨k, rfl⟩ : ∃ m, k = m + 1 := ⟨k - 1, by omega⟩
    simp only [graph_names.l0]
    rw [List.take_of_length_le (by omega)] at ho
    rw [if_neg (by omega), decide_eq_true ho]
  | succ d ih =>
    intro k i hd hi hk ho
    obtain ⟨k, rfl⟩ : ∃ m, k = m + 1 := ⟨k - 1, by omega⟩
    have hlt : i < l.length := by omega
    simp only [graph_names.l0]
    rw [if_pos (by omega), if_pos (by omega), if_pos (by omega), rd_at l i hlt]
    by_cases b1 : l[i] < 0
    · rw [if_pos b1, decide_eq_false (okN_bad hlt (.inl b1))]
    rw [if_neg b1]
    by_cases b2 : l[i] ≥ (n : Int)
    · rw [if_pos b2, decide_eq_false (okN_bad hlt (.inr (.inl b2)))]
    rw [if_neg b2]
    obtain ⟨v, hv⟩ : ∃ v : Nat, l[i] = (v : Int) := ⟨l[i].toNat, by omega⟩
    have hv6 : v < 6 := by omega
    have hg := grp_lt (l.take i) (fun u hu => by have := ho.1 u hu; omega)
    have hbit := grp_bit (l.take i) (fun u hu => (ho.1 u hu).1) v
    rw [hv, has_ok _ _ hg hv6, Option.bind_some]
    by_cases b3 : (v : Int) ∈ l.take i
    · rw [hbit, List.contains_iff_mem.2 b3, if_pos rfl, decide_eq_false (okN_bad hlt (.inr (.inr (by rw [hv]; exact b3))))]
    · have e : (l.take i).contains (v : Int) = false := by rw [Bool.eq_false_iff]; exact fun h => b3 (List.contains_iff_mem.1 h)
      rw [hbit, e, if_neg (by decide), with_ok _ _ hg hv6, Option.bind_some, w1 (by omega)]
      have := ih k (i + 1) (by omega) (by omega) (by omega) (okN_snoc ho hlt (by omega) (by omega) (by rw [hv]; exact b3))
      rw [List.take_succ_eq_append_getElem hlt, grp_snoc, hv, Int.toNat_natCast] at this
      exact this
theorem names_ok (l : List Int) (n : Nat) (hn : n ≤ 6) (hl : l.length ≤ 20) (k : Nat) (hk : 30 ≤ k) : graph_names.f k l (n : Int) = some (decide (okN n l)) :=
  names_loop l n hn hl l.length k 0 (by omega) (by omega) (by omega) ⟨fun u hu => by simp at hu, by simp⟩
theorem above_ok (up : List (List Int)) (hg : GoodUp up) (c : Nat) (hc : c < up.length) : graph_above.f up (c : Int) = some (aboveN up c : Int) := by
  unfold graph_above.f
  rw [if_pos ⟨hg, by omega, by omega⟩, Int.toNat_natCast]
theorem check_l1 (up : List (List Int)) (h1 : ¬ (up.length < 1 ∨ 6 < up.length)) (ho : okAll up) : ∀ (d k c : Nat), up.length - c = d → c ≤ up.length → d < k → (∀ j, j < c → reachB up j j = false) →
    graph_Check.l1 k up (up.length : Int) (c : Int) = some (checkG up) := by
  intro d
  induction d with
  | zero =>
    intro k c hd hc hk hno
    obtain ⟨k, rfl⟩ : ∃ m, k = m + 1 := ⟨k - 1, by omega⟩
    simp only [graph_Check.l1]
    rw [if_neg (by omega), checkG_fine h1 ho (fun j hj => hno j (by omega))]
  | succ d ih =>
    intro k c hd hc hk hno
    obtain ⟨k, rfl⟩ : ∃ m, k = m + 1 := ⟨k - 1, by omega⟩
    simp only [graph_Check.l1]
    rw [if_pos (by omega), above_ok up (ho.good (by omega)) c (by omega), Option.bind_some, has_ok _ _ (aboveN_lt up c) (by omega), Option.bind_some, aboveN_bit, decide_eq_true (show c < 6 by omega), Bool.true_and]
    cases hb : reachB up c c with
    | true => rw [if_pos rfl, checkG_cycle h1 ho (by omega) hb]
    | false =>
      rw [if_neg (by decide), w1 (by omega)]
      exact ih k (c + 1) (by omega) (by omega) (by omega) (fun j hj => by
        by_cases e : j = c
        · subst e; exact hb
        · exact hno j (by omega))
theorem check_l0 (up : List (List Int)) (hs : Sm up) (h1 : ¬ (up.length < 1 ∨ 6 < up.length)) : ∀ (d k c : Nat), up.length - c = d → c ≤ up.length → d + 50 < k → (∀ j, j < c → okN up.length (up.getD j [])) →
    graph_Check.l0 k up up (up.length : Int) (c : Int) = some (checkG up) := by
  intro d
  induction d with
  | zero =>
    intro k c hd hc hk hno
    obtain ⟨k, rfl⟩ : ∃ m, k = m + 1 := ⟨k - 1, by omega⟩
    simp only [graph_Check.l0]
    rw [if_neg (by omega)]
    exact check_l1 up h1 (okAll_of fun j hj => hno j (by omega)) up.length k 0 (by omega) (by omega) (by omega) (fun j hj => by omega)
  | succ d ih =>
    intro k c hd hc hk hno
    obtain ⟨k, rfl⟩ : ∃ m, k = m + 1 := ⟨k - 1, by omega⟩
    simp only [graph_Check.l0]
    rw [if_pos (by omega), if_pos (by omega), if_pos (by omega), rdL, names_ok _ _ (by omega) (hs.at c) k (by omega), Option.bind_some]
    by_cases b : okN up.length (up.getD c [])
    · rw [decide_eq_true b, if_pos rfl, w1 (by omega)]
      exact ih k (c + 1) (by omega) (by omega) (by omega) (fun j hj => by
        by_cases e : j = c
        · subst e; exact b
        · exact hno j (by omega))
    · rw [decide_eq_false b, if_neg (by decide), checkG_bad h1 (by omega) b]
theorem graph_check_ok (up : List (List Int)) (hs : Sm up) (k : Nat) (hk : 100 ≤ k) : graph_Check.f k up = some (checkG up) := by
  unfold graph_Check.f
  obtain ⟨k, rfl⟩ : ∃ m, k = m + 1 := ⟨k - 1, by omega⟩
  by_cases h1 : up.length < 1
  · rw [if_pos (by omega)]
    simp only [graph_Check.j0]
    rw [if_pos trivial]
    unfold checkG
    rw [if_pos (.inl h1)]
  · rw [if_neg (by omega)]
    simp only [graph_Check.j0]
    by_cases h6 : 6 < up.length
    · rw [decide_eq_true (by omega), if_pos rfl]
      unfold checkG
      rw [if_pos (.inr h6)]
    · rw [decide_eq_false (by omega), if_neg (by decide)]
      exact check_l0 up hs (fun h => h.elim h1 h6) up.length k 0 (by omega) (by omega) (by omega) (fun j hj => by omega)
theorem ntf : ¬ (true = false) := by decide
theorem nf : ¬ (false = true) := by decide
theorem w64_in {x : Int} (h1 : -9223372036854775808 ≤ x) (h2 : x < 9223372036854775808) : wrap64 x = x := by unfold wrap64; omega
theorem u64_in {x : Int} (h1 : 0 ≤ x) (h2 : x < 18446744073709551616) : IntKind.u64.wrap x = x := by rw [IntKind.wrap_u64]; omega
def boundB (w c p : Int) : Bool := decide (w = 32) && decide (2147483648 ≤ (p + 2) * c)
theorem bound_ok (v w c p s : Int) (up : List (List Int)) (hw : w = 32 ∨ w = 64) (hc : rightB c = true) (hp1 : 1 ≤ p) (hp4 : p ≤ 4) : conf_bound.f v w c p s up = some (boundB w c p) := by
  obtain ⟨c1, c2⟩ := right_bd hc
  have hm1 : 0 ≤ (p + 2) * c := Int.mul_nonneg (by omega) (by omega)
  have hm2 : (p + 2) * c ≤ 6 * 1073741824 := Int.mul_le_mul (by omega) c2 (by omega) (by omega)
  unfold conf_bound.f boundB
  rcases hw with rfl | rfl
  · rw [if_pos (by decide +kernel), w64_in (x := p + 2) (by omega) (by omega), u64_in (x := p + 2) (by omega) (by omega), u64_in (x := c) (by omega) (by omega), u64_in (x := (p + 2) * c) (by omega) (by omega)]
    have e : shl .u64 1 (wrap64 (32 - 1)) = 2147483648 := by decide +kernel
    rw [e]; simp
  · rw [if_pos (by decide +kernel), w64_in (x := p + 2) (by omega) (by omega), u64_in (x := p + 2) (by omega) (by omega), u64_in (x := c) (by omega) (by omega), u64_in (x := (p + 2) * c) (by omega) (by omega)]
    have e : shl .u64 1 (wrap64 (64 - 1)) = 9223372036854775808 := by decide +kernel
    rw [e, decide_eq_false (by omega)]; simp
def checkC (v w c p : Int) (up : List (List Int)) : Int :=
  if v < 1 ∨ 5 < v then 2 else if ¬ (w = 32 ∨ w = 64) then 3 else if rightB c = false then 4 else if p < 1 ∨ 4 < p ∨ (v = 1 ∧ 1 < p) then 5
  else if checkG up ≠ 0 then checkG up else if boundB w c p = true then 9 else if 64 < c then 10 else 0
end Go.Proofs.YtgibmlbdkijflaaDoor.QGc
