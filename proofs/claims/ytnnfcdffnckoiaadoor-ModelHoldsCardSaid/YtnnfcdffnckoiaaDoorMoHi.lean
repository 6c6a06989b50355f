/- The model's plain laws: how its numbers lie to each other, whatever happens. No program in sight. -/
import Derived.Test.YtnnfcdffnckoiaaDoorMoPut
set_option linter.unusedVariables false
set_option linter.unusedSimpArgs false
namespace Go.Proofs.YtnnfcdffnckoiaaDoor.Mo
open Go.RowKit
theorem least_mem {g : List Int} : ∀ {l : List Nat} {c : Nat}, c ∈ l → least g l ≤ g.getD c 0 := by
  have hm : ∀ (r : List Nat) (n : Int), r.foldl (fun n c => min n (g.getD c 0)) n ≤ n ∧ ∀ c ∈ r, r.foldl (fun n c => min n (g.getD c 0)) n ≤ g.getD c 0 := by
    intro r
    induction r with
    | nil => intro n; exact ⟨Int.le_refl _, fun c hc => by cases hc⟩
    | cons y r ih =>
      intro n
      simp only [List.foldl_cons]
      obtain ⟨h1, h2⟩ := ih (min n (g.getD y 0))
      refine ⟨by omega, fun c hc => ?_⟩
      rcases List.mem_cons.1 hc with rfl | hc
      · omega
      · exact h2 c hc
  intro l c hc
  exact (hm l _).2 c hc
theorem least_ge {g : List Int} {x : Int} {l : List Nat} (hl : l ≠ []) (h : ∀ c ∈ l, x ≤ g.getD c 0) : x ≤ least g l := by
  obtain ⟨c, hc, _⟩ := least_le g l hl
  have hm : ∀ (r : List Nat) (n : Int), x ≤ n → (∀ c ∈ r, x ≤ g.getD c 0) → x ≤ r.foldl (fun n c => min n (g.getD c 0)) n := by
    intro r
    induction r with
    | nil => intro n hn _; exact hn
    | cons y r ih =>
      intro n hn hr
      simp only [List.foldl_cons]
      exact ih _ (by have := hr y (by simp); omega) (fun c hc => hr c (by simp [hc]))
  unfold least
  refine hm l _ ?_ h
  obtain ⟨y, r, rfl⟩ : ∃ y r, l = y :: r := by
    cases l with
    | nil => exact absurd rfl hl
    | cons y r => exact ⟨y, r, rfl⟩
  exact h y (by simp)
theorem least_mono {g g' : List Int} {l : List Nat} (hl : l ≠ []) (h : ∀ c, g.getD c 0 ≤ g'.getD c 0) : least g l ≤ least g' l :=
  least_ge hl (fun c hc => Int.le_trans (least_mem hc) (h c))
/-- Intervals that cover all from a to b. -/
theorem cover (F M : Nat → Int) (c : Int) (hc : 0 ≤ c) : ∀ (n : Nat) (l : List Nat), l.length ≤ n → (∀ t ∈ l, M t ≤ c) → ∀ a b : Int, (∀ i, a ≤ i → i < b → ∃ t ∈ l, F t ≤ i ∧ i < F t + M t) → b - a ≤ n * c := by
  intro n
  induction n with
  | zero =>
    intro l hl hM a b hcov
    have : l = [] := List.eq_nil_of_length_eq_zero (by omega)
    subst this
    by_cases hab : a < b
    · obtain ⟨t, ht, _⟩ := hcov a (Int.le_refl _) hab
      cases ht
    · simp; omega
  | succ n ih =>
    intro l hl hM a b hcov
    have e : ((n + 1 : Nat) : Int) * c = n * c + c := by rw [Int.natCast_add, Int.add_mul]; simp
    have hnc : 0 ≤ (n : Int) * c := Int.mul_nonneg (by omega) hc
    rw [e]
    by_cases hab : a < b
    · obtain ⟨t, ht, h1, h2⟩ := hcov (b - 1) (by omega) (by omega)
      have hlt : (l.filter (fun u => !(u == t))).length ≤ n := by
        have h3 : (l.filter (fun u => !(u == t))).length < l.length := by
          rw [List.length_filter_lt_length_iff_exists]
          exact ⟨t, ht, by simp⟩
        omega
      have := ih _ hlt (fun u hu => hM u (List.mem_filter.1 hu).1) a (F t) (fun i hi1 hi2 => by
        obtain ⟨u, hu, h4, h5⟩ := hcov i hi1 (by omega)
        exact ⟨u, List.mem_filter.2 ⟨hu, by
          by_cases hut : u = t
          · subst hut; omega
          · simpa using hut⟩, h4, h5⟩)
      have := hM t ht
      omega
    · omega
structure Hi (cx : Cx) (st : St) : Prop where
  lim : ∀ k < cx.up.length, st.saw.getD k 0 ≤ limit cx st k
  cov : ∀ i : Int, st.granted ≤ i → i < st.taken → ∃ t < cx.prod, (held st t).g = false ∧ (held st t).f ≤ i ∧ i < (held st t).f + (held st t).n
  spc : st.granted - least st.gate cx.ends ≤ cx.cap
  hg : ∀ t < cx.prod, held st t ≠ hz → (held st t).g = true → (held st t).f + (held st t).n - least st.gate cx.ends ≤ cx.cap
theorem limit_mono {cx : Cx} {st st' : St} (hp : st.pre ≤ st'.pre) (hg : ∀ k, st.gate.getD k 0 ≤ st'.gate.getD k 0) (k : Nat) : limit cx st k ≤ limit cx st' k := by
  unfold limit
  split
  · exact hp
  · next hl => exact least_mono hl hg
theorem puts_pre {cx : Cx} {st : St} {e : Ev} (w : Wf cx st) (hc : putsC cx st e = 0) : st.pre ≤ (putsS st e).pre := by
  obtain ⟨ht, hg, hn, _, hd⟩ := puts_ok hc
  have hz1 : held st e.thread.toNat ≠ hz := fun h => by rw [h] at hg; cases hg
  obtain ⟨g1, g2, g3, g4, g5, g6, _⟩ := wf_put w (show e.thread.toNat < cx.prod by omega) hz1
  have lp := w.lp
  have hat : (putAt st e : Int) = (held st e.thread.toNat).f + (held st e.thread.toNat).p := by unfold putAt; omega
  have hrl : (List.replicate e.n.toNat true).length = e.n.toNat := by simp
  have b1 : putAt st e + (List.replicate e.n.toNat true).length ≤ st.put.length := by rw [hrl]; omega
  show st.pre ≤ ((run (setR st.put (putAt st e) (List.replicate e.n.toNat true)) : Nat) : Int)
  rw [w.pf]
  have := run_ge (setR st.put (putAt st e) (List.replicate e.n.toNat true)) (run st.put) (fun i hi => by
    by_cases hin : putAt st e ≤ i ∧ i < putAt st e + e.n.toNat
    · rw [setR_in _ _ _ b1 _ _ hin.1 (by rw [hrl]; exact hin.2), List.getD_eq_getElem?_getD, List.getElem?_replicate, if_pos (by omega)]; rfl
    · rw [setR_out _ _ _ b1 _ _ (by rw [hrl]; omega)]
      exact run_before _ i hi)
  omega
theorem free_gate {cx : Cx} {st : St} {e : Ev} (w : Wf cx st) (hc : freeC cx st e = 0) (k : Nat) : st.gate.getD k 0 ≤ (freeS cx st e).gate.getD k 0 := by
  unfold freeC at hc
  split at hc
  · cases hc
  next hcn =>
  split at hc
  · cases hc
  next hs =>
  have hkc : cons cx e.thread < st.gate.length := by
    have h8 := Decidable.not_not.1 hcn
    rw [w.lg]; unfold isCons at h8; unfold cons; omega
  have := int_set st.gate (cons cx e.thread) k (cx.cnt st.taken e.pos) hkc
  show st.gate.getD k 0 ≤ (st.gate.set (cons cx e.thread) (cx.cnt st.taken e.pos)).getD k 0
  rw [this]
  split
  · next e9 => subst e9; omega
  · exact Int.le_refl _
/-- What never goes back. -/
structure Fwd (cx : Cx) (st st' : St) : Prop where
  t : st.taken ≤ st'.taken
  p : st.pre ≤ st'.pre
  g : ∀ k, st.gate.getD k 0 ≤ st'.gate.getD k 0
theorem Fwd.refl (cx : Cx) (st : St) : Fwd cx st st := ⟨Int.le_refl _, Int.le_refl _, fun _ => Int.le_refl _⟩
theorem Hi.step {cx : Cx} {st : St} {e : Ev} (w : Wf cx st) (h : Hi cx st) (en : cx.ends ≠ []) (c64 : cx.cap ≤ 64) (hk : 3 ≤ e.kind) (hc : code cx st e = 0) : Hi cx (next cx st e) ∧ Fwd cx st (next cx st e) := by
  have hnt := next_taken hc c64
  unfold code at hc
  unfold next at hnt ⊢
  split at hc
  · next h3 =>
    rw [if_pos h3] at hnt ⊢
    obtain ⟨ht, h0, hn, _⟩ := take_ok hc
    have htl : e.thread.toNat < cx.prod := by omega
    have hh : ∀ u, held (takeS st e) u = if u = e.thread.toNat then ⟨st.taken, e.n, 0, false⟩ else held st u := fun u => held_set _ _ _ _ (by rw [w.lh]; exact htl)
    refine ⟨⟨h.lim, fun i h1 h2 => ?_, h.spc, fun t h1 h2 h3 => ?_⟩, hnt.2, Int.le_refl _, fun _ => Int.le_refl _⟩
    · by_cases hi : i < st.taken
      · obtain ⟨t, ht1, ht2, ht3, ht4⟩ := h.cov i h1 hi
        refine ⟨t, ht1, ?_⟩
        rw [hh]
        by_cases hte : t = e.thread.toNat
        · subst hte
          rw [h0] at ht3 ht4
          simp only [hz] at ht3 ht4
          omega
        · rw [if_neg hte]; exact ⟨ht2, ht3, ht4⟩
      · refine ⟨e.thread.toNat, htl, ?_⟩
        rw [hh, if_pos rfl]
        have h2' : i < st.taken + e.n := h2
        exact ⟨rfl, by simp only; omega, by simp only; omega⟩
    · rw [hh] at h2 h3 ⊢
      by_cases hte : t = e.thread.toNat
      · rw [if_pos hte] at h3; cases h3
      · rw [if_neg hte] at h2 h3 ⊢; exact h.hg t h1 h2 h3
  next h3 =>
  rw [if_neg h3] at hnt ⊢
  split at hc
  · next h4 =>
    rw [if_pos h4] at hnt ⊢
    obtain ⟨ht, hn, hgf, hsp⟩ := grant_ok hc
    have htl : e.thread.toNat < cx.prod := by omega
    have hh : ∀ u, held (grantS st e) u = if u = e.thread.toNat then { held st e.thread.toNat with g := true } else held st u := fun u => held_set _ _ _ _ (by rw [w.lh]; exact htl)
    refine ⟨⟨h.lim, fun i h1 h2 => ?_, ?_, fun t h1 h2 h3 => ?_⟩, Int.le_refl _, Int.le_refl _, fun _ => Int.le_refl _⟩
    · have h1' : max st.granted ((held st e.thread.toNat).f + (held st e.thread.toNat).n) ≤ i := h1
      obtain ⟨t, ht1, ht2, ht3, ht4⟩ := h.cov i (by omega) h2
      refine ⟨t, ht1, ?_⟩
      rw [hh]
      by_cases hte : t = e.thread.toNat
      · subst hte; omega
      · rw [if_neg hte]; exact ⟨ht2, ht3, ht4⟩
    · show max st.granted ((held st e.thread.toNat).f + (held st e.thread.toNat).n) - least st.gate cx.ends ≤ cx.cap
      have := h.spc
      omega
    · rw [hh] at h2 h3 ⊢
      by_cases hte : t = e.thread.toNat
      · rw [if_pos hte]
        show (held st e.thread.toNat).f + (held st e.thread.toNat).n - least st.gate cx.ends ≤ cx.cap
        omega
      · rw [if_neg hte] at h2 h3 ⊢; exact h.hg t h1 h2 h3
  next h4 =>
  rw [if_neg h4] at hnt ⊢
  split at hc
  · next h5 =>
    rw [if_pos h5] at hnt ⊢
    have hp := puts_pre w hc
    obtain ⟨ht, hg, hn, _, hd⟩ := puts_ok hc
    have htl : e.thread.toNat < cx.prod := by omega
    have hh : ∀ u, held (putsS st e) u = if u = e.thread.toNat then afterPut (held st e.thread.toNat) e.n else held st u := fun u => held_set _ _ _ _ (by rw [w.lh]; exact htl)
    refine ⟨⟨fun k hk => Int.le_trans (h.lim k hk) (limit_mono hp (fun _ => Int.le_refl _) k), fun i h1 h2 => ?_, h.spc, fun t h1 h2 h3 => ?_⟩, Int.le_refl _, hp, fun _ => Int.le_refl _⟩
    · obtain ⟨t, ht1, ht2, ht3, ht4⟩ := h.cov i h1 h2
      refine ⟨t, ht1, ?_⟩
      rw [hh]
      by_cases hte : t = e.thread.toNat
      · subst hte; rw [hg] at ht2; cases ht2
      · rw [if_neg hte]; exact ⟨ht2, ht3, ht4⟩
    · rw [hh] at h2 h3 ⊢
      by_cases hte : t = e.thread.toNat
      · rw [if_pos hte] at h2 ⊢
        unfold afterPut at h2 ⊢
        split at h2
        · exact absurd rfl h2
        · next hne =>
          rw [if_neg hne]
          exact h.hg _ htl (fun h => by rw [h] at hg; cases hg) hg
      · rw [if_neg hte] at h2 h3 ⊢; exact h.hg t h1 h2 h3
  next h5 =>
  rw [if_neg h5] at hnt ⊢
  split at hc
  · next h6 =>
    rw [if_pos h6] at hnt ⊢
    unfold seenC at hc
    split at hc
    · cases hc
    next hcn =>
    split at hc
    · cases hc
    next hs =>
    split at hc
    · cases hc
    next hl =>
    have hkc : cons cx e.thread < st.saw.length := by
      have h8 := Decidable.not_not.1 hcn
      rw [w.ls]; unfold isCons at h8; unfold cons; omega
    refine ⟨⟨fun k hk => ?_, h.cov, h.spc, h.hg⟩, Int.le_refl _, Int.le_refl _, fun _ => Int.le_refl _⟩
    have := int_set st.saw (cons cx e.thread) k (cx.cnt st.taken e.pos) hkc
    show (st.saw.set (cons cx e.thread) (cx.cnt st.taken e.pos)).getD k 0 ≤ limit cx st k
    rw [this]
    split
    · next e9 => subst e9; omega
    · exact h.lim k hk
  next h6 =>
  rw [if_neg h6] at hnt ⊢
  split at hc
  · next h7 =>
    rw [if_pos h7] at hnt ⊢
    have hg := free_gate w hc
    have hle : least st.gate cx.ends ≤ least (freeS cx st e).gate cx.ends := least_mono en hg
    refine ⟨⟨fun k hk => Int.le_trans (h.lim k hk) (limit_mono (st' := freeS cx st e) (show st.pre ≤ (freeS cx st e).pre from Int.le_refl _) hg k), h.cov, ?_, fun t h1 h2 h3 => ?_⟩, Int.le_refl _, Int.le_refl _, hg⟩
    · have := h.spc
      show st.granted - least (freeS cx st e).gate cx.ends ≤ cx.cap
      omega
    · have := h.hg t h1 h2 h3
      show (held st t).f + (held st t).n - least (freeS cx st e).gate cx.ends ≤ cx.cap
      omega
  next h7 =>
  split at hc
  · omega
  · cases hc
/-- All that ModelHolds asks of a model. -/
structure HoldsAll (cx : Cx) (st : St) : Prop where
  pt : st.pre ≤ st.taken
  lp : least st.gate cx.ends ≤ st.pre
  tl : st.taken - least st.gate cx.ends ≤ cx.cap * (1 + cx.prod)
  sc : space cx st ≤ cx.cap
  gs : ∀ k, st.gate.getD k 0 ≤ st.saw.getD k 0
  sl : ∀ k < cx.up.length, st.saw.getD k 0 ≤ limit cx st k
  gg : ∀ k < cx.up.length, ∀ c ∈ cx.up.getD k [], st.gate.getD k 0 ≤ st.gate.getD c 0
  hg : ∀ t < cx.prod, (held st t).g = true → (held st t).f + (held st t).n - least st.gate cx.ends ≤ cx.cap
theorem Hi.all {cx : Cx} {st : St} (w : Wf cx st) (lo : Lo cx st) (h : Hi cx st) (en : cx.ends ≠ []) (c0 : 1 ≤ cx.cap) : HoldsAll cx st := by
  have hpt := Lo.pre w
  have hlp : least st.gate cx.ends ≤ st.pre := by
    obtain ⟨c, _, hc⟩ := least_le st.gate cx.ends en
    have := lo.gs c
    have := lo.sp c
    omega
  refine ⟨hpt, hlp, ?_, by unfold space; omega, lo.gs, h.lim, fun k hk c hc => ?_, fun t ht hgt => h.hg t ht (fun e => by rw [e] at hgt; cases hgt) hgt⟩
  · have hcov := cover (fun t => (held st t).f) (fun t => (held st t).n) cx.cap (by omega) cx.prod (List.range cx.prod) (by simp) (fun t ht => by
      rcases w.hw t (List.mem_range.1 ht) with h1 | ⟨_, h2, _⟩
      · rw [h1]; show (0 : Int) ≤ cx.cap; omega
      · exact h2) st.granted st.taken (fun i h1 h2 => by
      obtain ⟨t, ht1, _, ht3, ht4⟩ := h.cov i h1 h2
      exact ⟨t, List.mem_range.2 ht1, ht3, ht4⟩)
    have := h.spc
    have e : cx.cap * (1 + (cx.prod : Int)) = cx.cap + (cx.prod : Int) * cx.cap := by rw [Int.mul_add, Int.mul_one, Int.mul_comm]
    rw [e]
    omega
  · have h1 := lo.gs k
    have h2 := h.lim k hk
    have h3 : limit cx st k ≤ st.gate.getD c 0 := by
      unfold limit
      rw [if_neg (fun e => by rw [e] at hc; cases hc)]
      exact least_mem hc
    omega
theorem Hi.zero (cx : Cx) (en : cx.ends ≠ []) (c0 : 1 ≤ cx.cap) (eb : ∀ c ∈ cx.ends, c < cx.up.length) : Hi cx (st0 cx) := by
  have hh : ∀ t, held (st0 cx) t = hz := fun t => by
    unfold held st0
    simp only [List.getD_eq_getElem?_getD, List.getElem?_replicate]
    split <;> rfl
  have hg : ∀ k, (List.replicate cx.up.length (0 : Int)).getD k 0 = 0 := fun k => by
    simp only [List.getD_eq_getElem?_getD, List.getElem?_replicate]
    split <;> rfl
  have hge : ∀ l : List Nat, l ≠ [] → 0 ≤ least (st0 cx).gate l := fun l hl => least_ge hl (fun c _ => by show (0 : Int) ≤ (List.replicate cx.up.length (0 : Int)).getD c 0; rw [hg]; exact Int.le_refl _)
  refine ⟨fun k hk => ?_, fun i h1 h2 => ?_, ?_, fun t ht hne => absurd (hh t) hne⟩
  · show (List.replicate cx.up.length (0 : Int)).getD k 0 ≤ _
    rw [hg]
    unfold limit
    split
    · exact Int.le_refl _
    · next hl => exact hge _ hl
  · have h1' : (0 : Int) ≤ i := h1
    have h2' : i < (0 : Int) := h2
    omega
  · have := hge cx.ends en
    show (0 : Int) - least (st0 cx).gate cx.ends ≤ cx.cap
    omega
/-- A step, of whatever kind it is. -/
theorem step_hi {cx : Cx} {st : St} {L : List On} {i : Nat} {e : Ev} (hI : Inv cx st L i) (h : Hi cx st) (en : cx.ends ≠ []) (c64 : 1 ≤ cx.cap ∧ cx.cap ≤ 64) (hi : i < 1000) : (∃ L', Inv cx (step cx st e) L' (i + 1)) ∧ Hi cx (step cx st e) ∧ Fwd cx st (step cx st e) := by
  unfold step
  split
  · next hc =>
    by_cases hk : 3 ≤ e.kind
    · have := Hi.step hI.wf h en c64.2 hk hc
      exact ⟨⟨_, hI.step hi c64.2 hk hc⟩, this.1, this.2⟩
    · have e1 : next cx st e = st := by
        unfold next
        rw [if_neg (by omega), if_neg (by omega), if_neg (by omega), if_neg (by omega), if_neg (by omega)]
      rw [e1]
      exact ⟨⟨L, hI.mono (by omega)⟩, h, Fwd.refl cx st⟩
  · exact ⟨⟨L, hI.mono (by omega)⟩, h, Fwd.refl cx st⟩
end Go.Proofs.YtnnfcdffnckoiaaDoor.Mo
