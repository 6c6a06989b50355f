/- Who is above whom, on lists alone: by lengthening (as the document's table is filled), and by climbing. -/
set_option linter.unusedVariables false
namespace Go.Proofs.YtnnfcdffnckoiaaDoor.Graph
/-- The lists name numbers that there are, of at most six. -/
def GoodUp (up : List (List Int)) : Prop := up.length ≤ 6 ∧ ∀ l ∈ up, ∀ u ∈ l, 0 ≤ u ∧ u < up.length
instance (up : List (List Int)) : Decidable (GoodUp up) := by unfold GoodUp; exact inferInstance
def edge (up : List (List Int)) (a b : Nat) : Bool := (up.getD a []).contains (b : Int)
/-- Lengthened by those below k. -/
def tab (up : List (List Int)) : Nat → Nat → Nat → Bool
  | 0, a, b => edge up a b
  | k + 1, a, b => tab up k a b || (tab up k a k && tab up k k b)
def reachB (up : List (List Int)) (a b : Nat) : Bool := tab up 6 a b
inductive Reach (up : List (List Int)) : Nat → Nat → Prop where
  | one {a b : Nat} : edge up a b = true → Reach up a b
  | more {a b c : Nat} : edge up a b = true → Reach up b c → Reach up a c
theorem Reach.trans {up : List (List Int)} {a b c : Nat} (h : Reach up a b) (k : Reach up b c) : Reach up a c := by
  induction h with
  | one e => exact .more e k
  | more e _ ih => exact .more e (ih k)
theorem edge_mem {up : List (List Int)} {a b : Nat} : edge up a b = true ↔ (b : Int) ∈ up.getD a [] := by
  unfold edge
  rw [List.contains_iff_mem]
theorem edge_lt {up : List (List Int)} (hg : GoodUp up) {a b : Nat} (h : edge up a b = true) : a < up.length ∧ b < up.length := by
  rw [edge_mem] at h
  by_cases ha : a < up.length
  · rw [List.getD_eq_getElem?_getD, List.getElem?_eq_getElem ha] at h
    have := hg.2 _ (List.getElem_mem ha) _ h
    exact ⟨ha, by omega⟩
  · rw [List.getD_eq_getElem?_getD, List.getElem?_eq_none (by omega)] at h
    simp at h
theorem tab_reach {up : List (List Int)} : ∀ (k a b : Nat), tab up k a b = true → Reach up a b
  | 0, a, b, h => .one h
  | k + 1, a, b, h => by
    unfold tab at h
    simp only [Bool.or_eq_true, Bool.and_eq_true] at h
    rcases h with h | ⟨h1, h2⟩
    · exact tab_reach k a b h
    · exact (tab_reach k a k h1).trans (tab_reach k k b h2)
theorem tab_mono {up : List (List Int)} {k a b : Nat} (h : tab up k a b = true) : tab up (k + 1) a b = true := by
  unfold tab
  rw [h, Bool.true_or]
theorem tab_col {up : List (List Int)} (k a : Nat) : tab up (k + 1) a k = tab up k a k := by
  show (tab up k a k || (tab up k a k && tab up k k k)) = tab up k a k
  cases tab up k a k <;> simp
theorem tab_row {up : List (List Int)} (k b : Nat) : tab up (k + 1) k b = tab up k k b := by
  show (tab up k k b || (tab up k k k && tab up k k b)) = tab up k k b
  cases tab up k k b <;> cases tab up k k k <;> simp
theorem tab_via {up : List (List Int)} : ∀ (k j a b : Nat), j < k → tab up k a j = true → tab up k j b = true → tab up k a b = true
  | 0, j, a, b, h, _, _ => absurd h (by omega)
  | k + 1, j, a, b, h, h1, h2 => by
    by_cases e : j = k
    · subst e
      rw [tab_col] at h1
      rw [tab_row] at h2
      show (tab up j a b || (tab up j a j && tab up j j b)) = true
      rw [h1, h2]; simp
    · have ih := fun a b => tab_via (up := up) k j a b (by omega)
      have ha : tab up k a j = true ∨ (tab up k a k = true ∧ tab up k k j = true) := by
        simpa only [tab, Bool.or_eq_true, Bool.and_eq_true] using h1
      have hb : tab up k j b = true ∨ (tab up k j k = true ∧ tab up k k b = true) := by
        simpa only [tab, Bool.or_eq_true, Bool.and_eq_true] using h2
      show (tab up k a b || (tab up k a k && tab up k k b)) = true
      rcases ha with ha | ⟨ha, ha'⟩ <;> rcases hb with hb | ⟨hb, hb'⟩
      · rw [ih a b ha hb]; rfl
      · rw [ih a k ha hb, hb']; simp
      · rw [ha, ih k b ha' hb]; simp
      · rw [ha, hb']; simp
theorem reach_tab {up : List (List Int)} (hg : GoodUp up) {a b : Nat} (h : Reach up a b) : reachB up a b = true := by
  have one : ∀ k a b, edge up a b = true → tab up k a b = true := by
    intro k
    induction k with
    | zero => exact fun a b h => h
    | succ k ih => exact fun a b h => tab_mono (ih a b h)
  induction h with
  | one e => exact one 6 _ _ e
  | more e _ ih => exact tab_via 6 _ _ _ (by have := (edge_lt hg e).2; have := hg.1; omega) (one 6 _ _ e) ih
theorem reachB_iff {up : List (List Int)} (hg : GoodUp up) {a b : Nat} : reachB up a b = true ↔ Reach up a b := ⟨tab_reach 6 a b, reach_tab hg⟩
theorem reach_lt {up : List (List Int)} (hg : GoodUp up) {a b : Nat} (h : Reach up a b) : a < up.length ∧ b < up.length := by
  induction h with
  | one e => exact edge_lt hg e
  | more e _ ih => exact ⟨(edge_lt hg e).1, ih.2⟩
/-! ### Sets of numbers as digits -/
/-- The number whose digits below n are as p tells. -/
def mask (p : Nat → Bool) : Nat → Nat
  | 0 => 0
  | n + 1 => mask p n + (if p n then 2 ^ n else 0)
theorem mask_lt (p : Nat → Bool) : ∀ n, mask p n < 2 ^ n
  | 0 => Nat.one_pos
  | n + 1 => by
    have := mask_lt p n
    unfold mask
    rw [Nat.pow_succ]
    split <;> omega
theorem mask_bit (p : Nat → Bool) : ∀ n i, (mask p n).testBit i = (decide (i < n) && p i)
  | 0, i => by simp [mask]
  | n + 1, i => by
    have h := mask_lt p n
    have ih := mask_bit p n i
    unfold mask
    by_cases hp : p n = true
    · rw [if_pos hp, Nat.add_comm]
      rcases Nat.lt_trichotomy i n with e | e | e
      · rw [Nat.testBit_two_pow_add_gt e, ih]
        congr 1
        rw [decide_eq_decide]
        omega
      · subst e
        rw [Nat.testBit_two_pow_add_eq, ih, hp]
        simp
      · rw [Nat.testBit_lt_two_pow (Nat.lt_of_lt_of_le (by rw [Nat.pow_succ]; omega) (Nat.pow_le_pow_right (by decide) (show n + 1 ≤ i from e)))]
        simp; omega
    · rw [if_neg hp, Nat.add_zero, ih]
      by_cases e : i = n
      · subst e; simp [hp]
      · congr 1
        rw [decide_eq_decide]
        omega
def aboveN (up : List (List Int)) (c : Nat) : Nat := mask (reachB up c) 6
theorem aboveN_lt (up : List (List Int)) (c : Nat) : aboveN up c < 64 := mask_lt _ 6
theorem aboveN_bit (up : List (List Int)) (c i : Nat) : (aboveN up c).testBit i = (decide (i < 6) && reachB up c i) := mask_bit _ 6 i
/-! ### Climbing -/
/-- How many of six are not met. -/
def left (m : Nat) : Nat := (List.range 6).countP fun u => !m.testBit u
theorem left_lt : ∀ m, m < 64 → ∀ u, u < 6 → m.testBit u = false → left (m ||| 2 ^ u) < left m := by decide +kernel
theorem left_le {m m' : Nat} (h : ∀ u, m.testBit u = true → m'.testBit u = true) : left m' ≤ left m := by
  unfold left
  apply List.countP_mono_left
  intro u _ hu
  cases e : m.testBit u with
  | true => rw [h u e] at hu; exact absurd hu (by decide)
  | false => rfl
theorem or_lt : ∀ m, m < 64 → ∀ u, u < 6 → m ||| 2 ^ u < 64 := by decide +kernel
theorem or_bit (m u x : Nat) : (m ||| 2 ^ u).testBit x = (m.testBit x || decide (u = x)) := by
  rw [Nat.testBit_or, Nat.testBit_two_pow]
/-- Behind i of those that c names. -/
structure Mid (up : List (List Int)) (c i m m' : Nat) : Prop where
  old : ∀ u, m.testBit u = true → m'.testBit u = true
  named : ∀ u : Nat, (u : Int) ∈ (up.getD c []).take i → m'.testBit u = true
  shut : ∀ x, m'.testBit x = true → m.testBit x = false → Reach up c x ∧ ∀ u, edge up x u = true → m'.testBit u = true
  lt : m' < 64
abbrev Climbed (up : List (List Int)) (c m m' : Nat) : Prop := Mid up c (up.getD c []).length m m'
theorem Climbed.all {up : List (List Int)} {c m m' : Nat} (h : Climbed up c m m') (u : Nat) (e : edge up c u = true) : m'.testBit u = true :=
  h.named u (by rw [List.take_of_length_le (Nat.le_refl _)]; exact edge_mem.1 e)
theorem Mid.start (up : List (List Int)) (c m : Nat) (h : m < 64) : Mid up c 0 m m := ⟨fun _ h => h, fun u h => by simp at h, fun x h k => by rw [h] at k; exact absurd k (by decide), h⟩
theorem mem_take_succ {l : List Int} {i : Nat} (h : i < l.length) {x : Int} (hx : x ∈ l.take (i + 1)) : x ∈ l.take i ∨ x = l[i] := by
  rw [List.take_succ_eq_append_getElem h, List.mem_append, List.mem_singleton] at hx
  exact hx
theorem Mid.met {up : List (List Int)} {c i m m' v : Nat} (h : Mid up c i m m') (hi : i < (up.getD c []).length) (hv : (up.getD c [])[i] = (v : Int)) (hm : m'.testBit v = true) : Mid up c (i + 1) m m' := by
  refine ⟨h.old, fun u hu => ?_, h.shut, h.lt⟩
  rcases mem_take_succ hi hu with hu | hu
  · exact h.named u hu
  · have : u = v := by omega
    subst this
    exact hm
theorem Mid.new {up : List (List Int)} {c i m m' m2 v : Nat} (h : Mid up c i m m') (hi : i < (up.getD c []).length) (hv : (up.getD c [])[i] = (v : Int)) (hm : m'.testBit v = false)
    (k : Climbed up v (m' ||| 2 ^ v) m2) : Mid up c (i + 1) m m2 := by
  have hsub : ∀ x, m'.testBit x = true → m2.testBit x = true := fun x hx => k.old x (by rw [or_bit, hx, Bool.true_or])
  have hvv : m2.testBit v = true := k.old v (by rw [or_bit]; simp)
  have e : edge up c v = true := by rw [edge_mem, ← hv]; exact List.getElem_mem hi
  refine ⟨fun u hu => hsub u (h.old u hu), fun u hu => ?_, fun x hx hm0 => ?_, k.lt⟩
  · rcases mem_take_succ hi hu with hu | hu
    · exact hsub u (h.named u hu)
    · have : u = v := by omega
      subst this
      exact hvv
  · cases hx' : m'.testBit x with
    | true =>
      obtain ⟨h1, h2⟩ := h.shut x hx' hm0
      exact ⟨h1, fun u hu => hsub u (h2 u hu)⟩
    | false =>
      by_cases hxv : v = x
      · subst hxv
        exact ⟨.one e, fun u hu => Climbed.all k u hu⟩
      · obtain ⟨h1, h2⟩ := k.shut x hx (by rw [or_bit, hx']; simpa using hxv)
        exact ⟨.more e h1, h2⟩
theorem climbed_above {up : List (List Int)} (hg : GoodUp up) {c m' : Nat} (h : Climbed up c 0 m') : m' = aboveN up c := by
  have key : ∀ a b, Reach up a b → (a = c ∨ m'.testBit a = true) → m'.testBit b = true := by
    intro a b hr
    have step : ∀ a b, edge up a b = true → (a = c ∨ m'.testBit a = true) → m'.testBit b = true := by
      intro a b e ha
      rcases ha with rfl | ha
      · exact Climbed.all h b e
      · exact (h.shut a ha (by simp)).2 b e
    induction hr with
    | one e => exact step _ _ e
    | more e _ ih => exact fun ha => ih (.inr (step _ _ e ha))
  apply Nat.eq_of_testBit_eq
  intro i
  rw [aboveN_bit, Bool.eq_iff_iff, Bool.and_eq_true, decide_eq_true_eq, reachB_iff hg]
  constructor
  · intro hb
    refine ⟨?_, (h.shut i hb (by simp)).1⟩
    rcases Nat.lt_or_ge i 6 with hi | hi
    · exact hi
    · rw [Nat.testBit_lt_two_pow (Nat.lt_of_lt_of_le h.lt (Nat.pow_le_pow_right (n := 2) (by decide) hi))] at hb
      exact absurd hb (by decide)
  · rintro ⟨_, hr⟩
    exact key c i hr (.inl rfl)
end Go.Proofs.YtnnfcdffnckoiaaDoor.Graph
