/- Plain laws of graphs: what is picked, how deep one stands, which are free. -/
import Derived.Test.YtkakgmpcenfjlaaDoorGraphD
set_option linter.unusedVariables false
set_option linter.unusedSimpArgs false
namespace Go.Proofs.YtkakgmpcenfjlaaDoor.Graph
open Go.RowKit
/-- The numbers below i of which p holds, rising. -/
def pick (p : Nat → Bool) (i : Nat) : List Int := ((List.range i).filter p).map fun (c : Nat) => (c : Int)
theorem pick_succ (p : Nat → Bool) (i : Nat) : pick p (i + 1) = pick p i ++ (if p i = true then [(i : Int)] else []) := by
  unfold pick
  rw [List.range_succ, List.filter_append, List.map_append]
  by_cases h : p i = true <;> simp [h]
theorem pick_len (p : Nat → Bool) (i : Nat) : (pick p i).length ≤ i := by
  unfold pick
  rw [List.length_map]
  exact Nat.le_trans (List.length_filter_le _ _) (by simp)
theorem pick_congr {p q : Nat → Bool} {i : Nat} (h : ∀ x, x < i → p x = q x) : pick p i = pick q i := by
  unfold pick
  rw [List.filter_congr (fun x hx => h x (List.mem_range.1 hx))]
theorem pick_more {p : Nat → Bool} {i : Nat} : ∀ d, (∀ x, i ≤ x → x < i + d → p x = false) → pick p (i + d) = pick p i
  | 0, _ => rfl
  | d + 1, h => by
    rw [show i + (d + 1) = (i + d) + 1 from rfl, pick_succ, h (i + d) (by omega) (by omega)]
    simp only [Bool.false_eq_true, if_false, List.append_nil]
    exact pick_more d (fun x h1 h2 => h x h1 (by omega))
theorem pick_six {p : Nat → Bool} {i : Nat} (hi : i ≤ 6) (h : ∀ x, i ≤ x → x < 6 → p x = false) : pick p 6 = pick p i := by
  have := pick_more (p := p) (i := i) (6 - i) (fun x h1 h2 => h x h1 (by omega))
  rwa [show i + (6 - i) = 6 by omega] at this
theorem pick_mem {p : Nat → Bool} {i : Nat} {x : Int} : x ∈ pick p i ↔ ∃ c : Nat, c < i ∧ p c = true ∧ x = (c : Int) := by
  unfold pick
  simp only [List.mem_map, List.mem_filter, List.mem_range]
  constructor
  · rintro ⟨c, ⟨h1, h2⟩, rfl⟩; exact ⟨c, h1, h2, rfl⟩
  · rintro ⟨c, h1, h2, rfl⟩; exact ⟨c, ⟨h1, h2⟩, rfl⟩
theorem pick_at {p : Nat → Bool} {i j : Nat} (h : j < (pick p i).length) : ∃ c : Nat, (pick p i)[j] = (c : Int) ∧ c < i ∧ p c = true := by
  obtain ⟨c, h1, h2, h3⟩ := pick_mem.1 (List.getElem_mem h)
  exact ⟨c, h3, h1, h2⟩
theorem pick_nil {p : Nat → Bool} {i : Nat} : pick p i = [] ↔ ∀ c, c < i → p c = false := by
  constructor
  · intro h c hc
    cases hp : p c with
    | false => rfl
    | true => have := pick_mem.2 ⟨c, hc, hp, rfl⟩; rw [h] at this; simp at this
  · intro h
    cases hl : pick p i with
    | nil => rfl
    | cons x l =>
      obtain ⟨c, h1, h2, _⟩ := pick_mem.1 (show x ∈ pick p i by rw [hl]; simp)
      rw [h c h1] at h2; simp at h2
/-! ### graphs that may be -/
structure Fine (up : List (List Int)) : Prop where
  n1 : 1 ≤ up.length
  n6 : up.length ≤ 6
  all : okAll up
  acyc : ∀ c, reachB up c c = false
theorem Fine.good {up : List (List Int)} (h : Fine up) : GoodUp up := h.all.good h.n6
theorem fine_of {up : List (List Int)} (h : checkG up = 0) : Fine up := by
  unfold checkG at h
  split at h
  · simp at h
  · next h1 =>
    split at h
    · simp at h
    · next h2 =>
      split at h
      · simp at h
      · next h3 =>
        have ho : okAll up := by simpa using h2
        refine ⟨by omega, by omega, ho, fun c => ?_⟩
        cases hc : reachB up c c with
        | false => rfl
        | true =>
          have := (reach_lt (ho.good (by omega)) ((reachB_iff (ho.good (by omega))).1 hc)).1
          exact (h3 ((List.any_eq_true (p := fun c => reachB up c c)).2 ⟨c, List.mem_range.2 this, hc⟩)).elim
theorem rowAt {up : List (List Int)} (h : Fine up) {c : Nat} (hc : c < up.length) {j : Nat} (hj : j < (up.getD c []).length) : ∃ u : Nat, (up.getD c [])[j] = (u : Int) ∧ u < up.length ∧ edge up c u = true := by
  have hm : up.getD c [] ∈ up := by rw [List.getD_eq_getElem?_getD, List.getElem?_eq_getElem hc]; exact List.getElem_mem hc
  have := (h.all _ hm).1 _ (List.getElem_mem hj)
  refine ⟨(up.getD c [])[j].toNat, by omega, by omega, edge_mem.2 ?_⟩
  rw [show (((up.getD c [])[j].toNat : Nat) : Int) = (up.getD c [])[j] by omega]
  exact List.getElem_mem hj
/-! ### depth -/
def depL (f : Nat → Nat) (l : List Int) : Nat := l.foldl (fun n u => max n (f u.toNat + 1)) 0
def dep (up : List (List Int)) : Nat → Nat → Nat
  | 0, _ => 0
  | k + 1, c => depL (dep up k) (up.getD c [])
theorem depL_snoc (f : Nat → Nat) (l : List Int) (u : Int) : depL f (l ++ [u]) = max (depL f l) (f u.toNat + 1) := by simp [depL, List.foldl_append]
theorem depL_le {f : Nat → Nat} {k : Nat} (hf : ∀ u, f u ≤ k) : ∀ (l : List Int) (a : Nat), a ≤ k + 1 → l.foldl (fun n u => max n (f u.toNat + 1)) a ≤ k + 1
  | [], a, h => h
  | u :: l, a, h => by
    rw [List.foldl_cons]
    exact depL_le hf l _ (by have := hf u.toNat; omega)
theorem dep_le (up : List (List Int)) : ∀ k c, dep up k c ≤ k
  | 0, _ => Nat.le_refl _
  | k + 1, c => depL_le (dep_le up k) _ 0 (by omega)
theorem depL_ge {f : Nat → Nat} : ∀ (l : List Int) (a : Nat), a ≤ l.foldl (fun n u => max n (f u.toNat + 1)) a ∧ ∀ u ∈ l, f u.toNat + 1 ≤ l.foldl (fun n u => max n (f u.toNat + 1)) a
  | [], a => ⟨Nat.le_refl _, fun u hu => by simp at hu⟩
  | v :: l, a => by
    rw [List.foldl_cons]
    obtain ⟨h1, h2⟩ := depL_ge (f := f) l (max a (f v.toNat + 1))
    refine ⟨by omega, fun u hu => ?_⟩
    rcases List.mem_cons.1 hu with rfl | hu
    · omega
    · exact h2 u hu
theorem depL_congr {f g : Nat → Nat} : ∀ (l : List Int) (a : Nat), (∀ u ∈ l, f u.toNat = g u.toNat) → l.foldl (fun n u => max n (f u.toNat + 1)) a = l.foldl (fun n u => max n (g u.toNat + 1)) a
  | [], a, _ => rfl
  | u :: l, a, h => by
    rw [List.foldl_cons, List.foldl_cons, h u (List.mem_cons_self ..)]
    exact depL_congr l _ (fun v hv => h v (List.mem_cons_of_mem _ hv))
/-- How many are above one. -/
def rank (up : List (List Int)) (c : Nat) : Nat := (List.range 6).countP (reachB up c)
theorem countP_lt {p q : Nat → Bool} : ∀ (l : List Nat), (∀ x, p x = true → q x = true) → ∀ a, a ∈ l → p a = false → q a = true → l.countP p < l.countP q
  | [], _, a, h, _, _ => by simp at h
  | b :: l, h, a, ha, h1, h2 => by
    have hle : l.countP p ≤ l.countP q := List.countP_mono_left (fun x _ hx => h x hx)
    rw [List.countP_cons, List.countP_cons]
    rcases List.mem_cons.1 ha with rfl | ha
    · rw [h1, h2]; simp; omega
    · have := countP_lt l h a ha h1 h2
      cases hb : p b with
      | true => rw [h b hb]; simp; omega
      | false => simp; split <;> omega
theorem rank_lt {up : List (List Int)} (h : Fine up) {c u : Nat} (e : edge up c u = true) : rank up u < rank up c := by
  have hg := h.good
  refine countP_lt _ (fun x hx => (reachB_iff hg).2 (.more e ((reachB_iff hg).1 hx))) u (List.mem_range.2 ?_) (h.acyc u) ((reachB_iff hg).2 (.one e))
  have := (edge_lt hg e).2; have := h.n6; omega
theorem rank_five {up : List (List Int)} (h : Fine up) {c : Nat} (hc : c < up.length) : rank up c ≤ 5 := by
  have h1 : (List.range 6).countP (reachB up c) < (List.range 6).countP (fun _ => true) := countP_lt _ (fun _ _ => rfl) c (List.mem_range.2 (by have := h.n6; omega)) (h.acyc c) rfl
  simp at h1
  unfold rank
  omega
theorem mem_row {up : List (List Int)} (h : Fine up) {c : Nat} {u : Int} (hu : u ∈ up.getD c []) : edge up c u.toNat = true := by
  obtain ⟨j, hj, rfl⟩ := List.mem_iff_getElem.1 hu
  by_cases hc : c < up.length
  · obtain ⟨v, hv, _, he⟩ := rowAt h hc hj
    rw [hv, Int.toNat_natCast]; exact he
  · exfalso
    have e : up.getD c [] = [] := by simp [show up.length ≤ c by omega]
    rw [e] at hj; simp at hj
theorem dep_more {up : List (List Int)} (h : Fine up) : ∀ k c, rank up c < k → dep up (k + 1) c = dep up k c
  | 0, c, hr => by omega
  | k + 1, c, hr => by
    show depL (dep up (k + 1)) (up.getD c []) = depL (dep up k) (up.getD c [])
    exact depL_congr _ 0 (fun u hu => dep_more h k u.toNat (by have := rank_lt h (mem_row h hu); omega))
theorem dep_any {up : List (List Int)} (h : Fine up) {c : Nat} : ∀ d k, rank up c < k → dep up (k + d) c = dep up k c
  | 0, k, _ => rfl
  | d + 1, k, hr => by rw [show k + (d + 1) = (k + d) + 1 from rfl, dep_more h (k + d) c (by omega), dep_any h d k hr]
def depth (up : List (List Int)) (c : Nat) : Nat := dep up 7 c
theorem depth_of {up : List (List Int)} (h : Fine up) {c k : Nat} (hr : rank up c < k) (hk : k ≤ 7) : dep up k c = depth up c := by
  have := dep_any h (7 - k) k hr
  rw [show k + (7 - k) = 7 by omega] at this
  exact this.symm
theorem depth_five {up : List (List Int)} (h : Fine up) {c : Nat} (hc : c < up.length) : depth up c ≤ 5 := by
  have h5 := rank_five h hc
  have : ∀ k c, rank up c ≤ k → dep up 7 c ≤ k := by
    intro k
    induction k with
    | zero =>
      intro c hr
      show depL (dep up 6) (up.getD c []) ≤ 0
      cases hrow : up.getD c [] with
      | nil => simp [depL]
      | cons u l =>
        have := rank_lt h (mem_row h (show u ∈ up.getD c [] by rw [hrow]; simp))
        omega
    | succ k ih =>
      intro c hr
      show depL (dep up 6) (up.getD c []) ≤ k + 1
      have e : depL (dep up 6) (up.getD c []) = depL (fun u => min (dep up 7 u) k) (up.getD c []) := depL_congr (f := dep up 6) (g := fun u => min (dep up 7 u) k) _ 0 (fun u hu => by
        have hlt := rank_lt h (mem_row h hu)
        have := ih u.toNat (by omega)
        have h2 := (mem_row h hu)
        have h3 := rank_five h (edge_lt h.good h2).2
        have e7 : dep up 7 u.toNat = dep up 6 u.toNat := dep_more h 6 _ (by omega)
        show dep up 6 u.toNat = min (dep up 7 u.toNat) k
        omega)
      rw [e]
      exact depL_le (fun u => Nat.min_le_right _ _) _ 0 (by omega)
  exact Nat.le_trans (this _ c (Nat.le_refl _)) h5
theorem depth_rec {up : List (List Int)} (h : Fine up) (c : Nat) : depth up c = depL (depth up) (up.getD c []) := by
  show depL (dep up 6) (up.getD c []) = _
  exact depL_congr (f := dep up 6) (g := depth up) _ 0 (fun u hu => by
    have h2 := mem_row h hu
    have h3 := rank_five h (edge_lt h.good h2).2
    exact depth_of h (by omega) (by omega))
end Go.Proofs.YtkakgmpcenfjlaaDoor.Graph
