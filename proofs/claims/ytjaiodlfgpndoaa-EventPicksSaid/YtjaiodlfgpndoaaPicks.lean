/- EventPicks, walked: which of any events are a thread's, or of some kinds, and where a call ends. -/
import Derived.Test.YtjaiodlfgpndoaaPlainEv
import Derived.Test.YtjaiodlfgpndoaaLive
import Derived.Deep.QuietTactic
import Derived.BigQuiet
set_option linter.unusedVariables false
set_option linter.unusedSimpArgs false
namespace Go.Proofs.Ytjaiodlfgpndoaa.QEv
open Go.RowKit Go.Proofs.YtjaiodlfgpndoaaW.PrintWords Go.Proofs.YtjaiodlfgpndoaaW.PrintLast Go.Proofs.YtjaiodlfgpndoaaW.PrintMore
attribute [local go_sem] max2_int min2_int max_two min_two   -- for this text's walks alone
/-! ### plain -/
theorem index_loop (ks : List Int) (v : Int) (hb : ks.length < 4611686018427387904) : ∀ (d k i : Nat), ks.length - i = d → i ≤ ks.length → d < k → ∃ r, slices_Index_int_int.l0 k ks v (ks.length : Int) (i : Int) = some r ∧ (decide (r ≥ 0) = (ks.drop i).any (· == v)) := by
  intro d
  induction d with
  | zero =>
    intro k i hd hi hk
    obtain ⟨k, rfl⟩ : ∃ n, k = n + 1 := ⟨k - 1, by omega⟩
    refine ⟨-1, ?_, by rw [List.drop_eq_nil_of_le (by omega)]; rfl⟩
    simp only [slices_Index_int_int.l0]
    rw [if_neg (by omega)]
  | succ d ih =>
    intro k i hd hi hk
    obtain ⟨k, rfl⟩ : ∃ n, k = n + 1 := ⟨k - 1, by omega⟩
    have hlt : i < ks.length := by omega
    simp only [slices_Index_int_int.l0]
    rw [if_pos (by omega), if_pos (by omega), if_pos (by omega), rd_nat _ _ hlt, ws (by omega)]
    by_cases h : v = ks[i]
    · refine ⟨(i : Int), by rw [if_pos h], ?_⟩
      rw [List.drop_eq_getElem_cons hlt, List.any_cons, beq_iff_eq.2 h.symm, Bool.true_or]
      simp
    · obtain ⟨r, hr, hr2⟩ := ih k (i + 1) (by omega) (by omega) (by omega)
      refine ⟨r, by rw [if_neg h]; exact hr, ?_⟩
      rw [hr2, List.drop_eq_getElem_cons hlt, List.any_cons, beq_eq_false_iff_ne.2 (fun e => h e.symm), Bool.false_or]
theorem contains_ok (ks : List Int) (v : Int) (hb : ks.length ≤ 50) (k : Nat) (hk : 100 ≤ k) : slices_Contains_int_int.f k ks v = some (ks.any (· == v)) := by
  obtain ⟨r, hr, hr2⟩ := index_loop ks v (by omega) ks.length k 0 (by omega) (by omega) (by omega)
  have hr' : slices_Index_int_int.l0 k ks v (ks.length : Int) 0 = some r := hr
  simp only [slices_Contains_int_int.f, slices_Index_int_int.f]
  rw [hr']
  simp only [Option.bind_some]
  rw [hr2, List.drop_zero]
def onlyL (l : List S56) (ks : List Int) : List S56 := l.filter fun x => ks.any (· == x.f0)
theorem only_loop (l : List S56) (ks : List Int) (hl : Small l) (hb : ks.length ≤ 50) : ∀ (d k i : Nat), l.length - i = d → i ≤ l.length → d + 100 < k → event_Only.l0 k ks ((l.take i).filter fun x => ks.any (· == x.f0)) l (l.length : Int) (i : Int) = some (onlyL l ks) := by
  intro d
  induction d with
  | zero =>
    intro k i hd hi hk
    obtain ⟨k, rfl⟩ : ∃ n, k = n + 1 := ⟨k - 1, by omega⟩
    simp only [event_Only.l0]
    rw [if_neg (by omega), List.take_of_length_le (by omega)]; rfl
  | succ d ih =>
    intro k i hd hi hk
    obtain ⟨k, rfl⟩ : ∃ n, k = n + 1 := ⟨k - 1, by omega⟩
    have hlt : i < l.length := by omega
    have hs := hl.1
    have hfl := filt_len hl (fun x => ks.any (· == x.f0)) i
    have := ih k (i + 1) (by omega) (by omega) (by omega)
    rw [take_filter _ hlt] at this
    simp only [event_Only.l0]
    rw [if_pos (by omega), if_pos (by omega), if_pos (by omega), rdT l i hlt, copied_ok _ (hl.at i hlt), ws (by omega), contains_ok ks _ hb k (by omega)]
    simp only [Option.bind_some, eta]
    by_cases hc : (ks.any (· == l[i].f0)) = true
    · rw [if_pos hc, if_pos (by omega)]
      rw [if_pos hc] at this
      exact this
    · rw [if_neg hc]
      rw [if_neg hc, List.append_nil] at this
      exact this
theorem only_ok (l : List S56) (ks : List Int) (hl : Small l) (hb : ks.length ≤ 50) (k : Nat) (hk : 1000 ≤ k) : event_Only.f k l ks = some (onlyL l ks) := by
  have := hl.1
  exact only_loop l ks hl hb l.length k 0 (by omega) (by omega) (by omega)
theorem ronly_inner (l : List S56) (ks : List Int) (acc : List S56) (i : Nat) (hi : i < l.length) (hb : ks.length ≤ 50) : ∀ (d k j : Nat) (m : Bool), ks.length - j = d → j ≤ ks.length → d < k → ∃ k', k - d - 1 ≤ k' ∧ sakiaref15_Only.l1 k l ks acc (i : Int) m (j : Int) = (if (m || (ks.drop j).any (· == l[i].f0)) = true then (if acc.length < 1954687338268 then sakiaref15_Only.l0 k' l ks (acc ++ [l[i]]) (wrap64 ((i : Int) + 1)) else none) else sakiaref15_Only.l0 k' l ks acc (wrap64 ((i : Int) + 1))) := by
  intro d
  induction d with
  | zero =>
    intro k j m hd hj hk
    obtain ⟨k, rfl⟩ : ∃ n, k = n + 1 := ⟨k - 1, by omega⟩
    refine ⟨k, by omega, ?_⟩
    simp only [sakiaref15_Only.l1]
    have c1 := eq_false (show ¬ ((j : Int) < (ks.length : Int)) by omega)
    have c2 := eq_true (show 0 ≤ (i : Int) by omega)
    have c3 := eq_true (show (i : Int) < (l.length : Int) by omega)
    rw [List.drop_eq_nil_of_le (by omega), List.any_nil, Bool.or_false, rdT l i hi]
    simp only [c1, c2, c3, if_true, if_false, eta]
  | succ d ih =>
    intro k j m hd hj hk
    obtain ⟨k, rfl⟩ : ∃ n, k = n + 1 := ⟨k - 1, by omega⟩
    have hlt : j < ks.length := by omega
    simp only [sakiaref15_Only.l1]
    rw [if_pos (by omega), ws (by omega)]
    cases m with
    | true =>
      obtain ⟨k', h1, h2⟩ := ih k (j + 1) true (by omega) (by omega) (by omega)
      refine ⟨k', by omega, ?_⟩
      rw [if_pos rfl, h2]
      simp only [Bool.true_or]
    | false =>
      obtain ⟨k', h1, h2⟩ := ih k (j + 1) (rd ks (j : Int) == (rd_T56 l (i : Int)).f0) (by omega) (by omega) (by omega)
      refine ⟨k', by omega, ?_⟩
      rw [if_neg (by simp), if_pos (by omega), if_pos (by omega), if_pos (by omega), h2, rd_nat _ _ hlt, rdT l i hi, List.drop_eq_getElem_cons hlt, List.any_cons, Bool.false_or]
theorem ronly_loop (l : List S56) (ks : List Int) (hl : Small l) (hb : ks.length ≤ 50) : ∀ (d k i : Nat), l.length - i = d → i ≤ l.length → 60 * d + 1 < k → sakiaref15_Only.l0 k l ks ((l.take i).filter fun x => ks.any (· == x.f0)) (i : Int) = some (onlyL l ks) := by
  intro d
  induction d with
  | zero =>
    intro k i hd hi hk
    obtain ⟨k, rfl⟩ : ∃ n, k = n + 1 := ⟨k - 1, by omega⟩
    simp only [sakiaref15_Only.l0]
    rw [if_neg (by omega), List.take_of_length_le (by omega)]; rfl
  | succ d ih =>
    intro k i hd hi hk
    obtain ⟨k, rfl⟩ : ∃ n, k = n + 1 := ⟨k - 1, by omega⟩
    have hlt : i < l.length := by omega
    have hs := hl.1
    have hfl := filt_len hl (fun x => ks.any (· == x.f0)) i
    obtain ⟨k', h1, h2⟩ := ronly_inner l ks ((l.take i).filter fun x => ks.any (· == x.f0)) i hlt hb ks.length k 0 false (by omega) (by omega) (by omega)
    have := ih k' (i + 1) (by omega) (by omega) (by omega)
    rw [take_filter _ hlt] at this
    simp only [sakiaref15_Only.l0]
    have h2' : sakiaref15_Only.l1 k l ks ((l.take i).filter fun x => ks.any (· == x.f0)) (i : Int) false 0 = _ := h2
    rw [if_pos (by omega), h2', List.drop_zero, Bool.false_or, ws (by omega)]
    by_cases hc : (ks.any (· == l[i].f0)) = true
    · rw [if_pos hc, if_pos (by omega)]
      rw [if_pos hc] at this
      exact this
    · rw [if_neg hc]
      rw [if_neg hc, List.append_nil] at this
      exact this
theorem ronly_ok (l : List S56) (ks : List Int) (hl : Small l) (hb : ks.length ≤ 50) (k : Nat) (hk : 20000 ≤ k) : sakiaref15_Only.f k l ks = some (onlyL l ks) := by
  have := hl.1
  exact ronly_loop l ks hl hb l.length k 0 (by omega) (by omega) (by omega)
theorem ends_loop (l : List S56) (n : Nat) (hn : n < l.length) (hb : l.length ≤ 200) : ∀ (d k i : Nat), l.length - i = d → i ≤ l.length → d < k → ∃ r, sakiaref15_Ends.l0 k l (n : Int) (i : Int) = some r ∧ ((r = -1 ∧ event_Ends.l0 k l (n : Int) (i : Int) = some (0, false)) ∨ (0 ≤ r ∧ event_Ends.l0 k l (n : Int) (i : Int) = some (r, true))) := by
  intro d
  induction d with
  | zero =>
    intro k i hd hi hk
    obtain ⟨k, rfl⟩ : ∃ n, k = n + 1 := ⟨k - 1, by omega⟩
    simp only [sakiaref15_Ends.l0, event_Ends.l0]
    rw [if_neg (by omega), if_neg (by omega)]
    exact ⟨-1, rfl, .inl ⟨rfl, rfl⟩⟩
  | succ d ih =>
    intro k i hd hi hk
    obtain ⟨k, rfl⟩ : ∃ n, k = n + 1 := ⟨k - 1, by omega⟩
    have := ih k (i + 1) (by omega) (by omega) (by omega)
    have c1 := eq_true (show (i : Int) < (l.length : Int) by omega)
    have c2 := eq_true (show 0 ≤ (i : Int) by omega)
    have c3 := eq_true (show (n : Int) < (l.length : Int) by omega)
    have c4 := eq_true (show 0 ≤ (n : Int) by omega)
    simp only [sakiaref15_Ends.l0, event_Ends.l0, c1, c2, c3, c4, if_true, ws (show i < 4611686018427387904 by omega)]
    by_cases h1 : (rd_T56 l (i : Int)).f0 = 2
    · rw [if_pos h1, if_pos h1]
      by_cases h2 : (rd_T56 l (i : Int)).f1 = (rd_T56 l (n : Int)).f1
      · rw [if_pos h2, if_pos h2]
        exact ⟨(i : Int), rfl, .inr ⟨by omega, rfl⟩⟩
      · rw [if_neg h2, if_neg h2]; exact this
    · rw [if_neg h1, if_neg h1]; exact this
theorem ends_ok (l : List S56) (i : Int) (hl : Small l) (k : Nat) (hk : 1000 ≤ k) : ∃ r, sakiaref15_Ends.f k l i = some r ∧ ((r = -1 ∧ event_Ends.f k l i = some (0, false)) ∨ (0 ≤ r ∧ event_Ends.f k l i = some (r, true))) := by
  obtain ⟨k, rfl⟩ : ∃ n, k = n + 1 := ⟨k - 1, by omega⟩
  have hs := hl.1
  simp only [sakiaref15_Ends.f, event_Ends.f, sakiaref15_Ends.j0, event_Ends.j0, if_true]
  by_cases h1 : i < 0
  · rw [if_pos h1, if_pos h1]; exact ⟨-1, rfl, .inl ⟨rfl, rfl⟩⟩
  · rw [if_neg h1, if_neg h1]
    by_cases h2 : i ≥ (l.length : Int)
    · rw [if_pos h2, if_pos h2]; exact ⟨-1, rfl, .inl ⟨rfl, rfl⟩⟩
    · have c1 := eq_true (show i < (l.length : Int) by omega)
      have c2 := eq_true (show 0 ≤ i by omega)
      rw [if_neg h2, if_neg h2]
      simp only [c1, c2, if_true]
      by_cases h3 : ((rd_T56 l i).f0 != 1) = true
      · rw [if_pos h3, if_pos h3]; exact ⟨-1, rfl, .inl ⟨rfl, rfl⟩⟩
      · rw [if_neg h3, if_neg h3]
        obtain ⟨n, rfl⟩ := Int.eq_ofNat_of_zero_le (by omega : 0 ≤ i)
        rw [ws (by omega)]
        exact ends_loop l n (by omega) hs (l.length - (n + 1)) k (n + 1) rfl (by omega) (by omega)
theorem rsame_refl {l : List S56} (hl : Small l) (k : Nat) (hk : 1000 ≤ k) : sakiaref15_Same.f k l l = some true := by rw [rsame_ok l l hl k hk, sameL_refl]
def BIG : Nat := 20000
theorem big : 20000 ≤ BIG := Nat.le_refl _
/-! ### contracts, in one form: what comes back is read -/
theorem c_Of (k : Nat) {A : Option Addr} {c : Nat} {l : List S56} {t : Int} {r : List S56} {w : World} (hC : Kd.C k56 w A l.length l) (hc : l.length ≤ c) (h : event_Of.f k l t = some r) :
    Calls Try.prog 51 #[.slice A l.length c, .int .i64 t] w fun e w' => ∃ A' c', e = .returned (.slice A' r.length c') ∧ r.length ≤ c' ∧ Kd.C k56 w' A' r.length r ∧ Below w.heap.size w w' :=
  (event_Of.calls k A c l t r w hC hc h).mono fun e w' ⟨v, he, hS, hb⟩ => by
    obtain ⟨A', c', rfl, h1, h2⟩ := Kd.S_reads hS
    exact ⟨A', c', he, h1, h2, hb⟩
theorem c_Copy (k : Nat) {A : Option Addr} {c : Nat} {l : List S56} {r : List S56} {w : World} (hC : Kd.C k56 w A l.length l) (hc : l.length ≤ c) (h : event_Copy.f k l = some r) :
    Calls Try.prog 55 #[.slice A l.length c] w fun e w' => ∃ A' c', e = .returned (.slice A' r.length c') ∧ r.length ≤ c' ∧ Kd.C k56 w' A' r.length r ∧ Below w.heap.size w w' :=
  (event_Copy.calls k A c l r w hC hc h).mono fun e w' ⟨v, he, hS, hb⟩ => by
    obtain ⟨A', c', rfl, h1, h2⟩ := Kd.S_reads hS
    exact ⟨A', c', he, h1, h2, hb⟩
theorem c_Only (k : Nat) {A B : Option Addr} {c d : Nat} {l : List S56} {ks : List Int} {r : List S56} {w : World} (hC : Kd.C k56 w A l.length l) (hc : l.length ≤ c) (hC2 : Kd.C (Kd.int .i64) w B ks.length ks) (hd : ks.length ≤ d) (h : event_Only.f k l ks = some r) :
    Calls Try.prog 53 #[.slice A l.length c, .slice B ks.length d] w fun e w' => ∃ A' c', e = .returned (.slice A' r.length c') ∧ r.length ≤ c' ∧ Kd.C k56 w' A' r.length r ∧ Below w.heap.size w w' :=
  (event_Only.calls k A c l B d ks r w hC hc hC2 hd h).mono fun e w' ⟨v, he, hS, hb⟩ => by
    obtain ⟨A', c', rfl, h1, h2⟩ := Kd.S_reads hS
    exact ⟨A', c', he, h1, h2, hb⟩
theorem c_rOf (k : Nat) {A : Option Addr} {c : Nat} {l : List S56} {t : Int} {r : List S56} {w : World} (hC : Kd.C k56 w A l.length l) (hc : l.length ≤ c) (h : sakiaref15_Of.f k l t = some r) :
    Calls Try.prog 52 #[.slice A l.length c, .int .i64 t] w fun e w' => ∃ A' c', e = .returned (.slice A' r.length c') ∧ r.length ≤ c' ∧ Kd.C k56 w' A' r.length r ∧ Below w.heap.size w w' :=
  (sakiaref15_Of.calls k (fun k_ => k_ < w.heap.size) A c l t r w (Kd.V_mk hc (Kd.C_F k56_heap hC)) h).mono fun e w' ⟨v, he, hS, hb⟩ => by
    obtain ⟨A', c', rfl, h1, h2⟩ := Kd.N_reads hS
    exact ⟨A', c', he, h1, h2, hb⟩
theorem c_rOnly (k : Nat) {A B : Option Addr} {c d : Nat} {l : List S56} {ks : List Int} {r : List S56} {w : World} (hC : Kd.C k56 w A l.length l) (hc : l.length ≤ c) (hC2 : Kd.C (Kd.int .i64) w B ks.length ks) (hd : ks.length ≤ d) (h : sakiaref15_Only.f k l ks = some r) :
    Calls Try.prog 54 #[.slice A l.length c, .slice B ks.length d] w fun e w' => ∃ A' c', e = .returned (.slice A' r.length c') ∧ r.length ≤ c' ∧ Kd.C k56 w' A' r.length r ∧ Below w.heap.size w w' :=
  (sakiaref15_Only.calls k (fun k_ => k_ < w.heap.size) A c l B d ks r w (Kd.V_mk hc (Kd.C_F k56_heap hC)) hC2 hd h).mono fun e w' ⟨v, he, hS, hb⟩ => by
    obtain ⟨A', c', rfl, h1, h2⟩ := Kd.N_reads hS
    exact ⟨A', c', he, h1, h2, hb⟩
set_option maxHeartbeats 4000000 in
set_option maxRecDepth 100000 in
theorem walkPicks (A : Option Addr) (c : Nat) (l : List S56) (t i : Int) (B : Option Addr) (d : Nat) (ks : List Int) (w : World) (hC : Kd.C k56 w A l.length l) (hc : l.length ≤ c) (hD : Kd.C (Kd.int .i64) w B ks.length ks) (hd : ks.length ≤ d) :
    Calls Try.prog 10 #[.slice A l.length c, .agg #[.int .i64 t, .int .i64 i], .slice B ks.length d] w fun e w' => e = .returned (.bool true) ∧ Below w.heap.size w w' := by
  have HC := Aside0.mk hC
  have HD := Aside0.mk hD
  have Hc := Aside0.mk hc
  have Hd := Aside0.mk hd
  clear hC hD hc hd
  obtain ⟨b, hb, hsm⟩ := long_ok l 1000 (Nat.le_refl _)
  have HB0 := Aside0.mk hb
  clear hb
  by_cases hbig : b = true ∨ 50 < ks.length
  · have H50 := Aside0.mk hbig
    clear hsm hbig
    go_enter Try.func10, Try.ntmps10
    go_wp2_with fail
    refine (sakialaw15_Long.calls 1000 A c l 200 b _ (Kd.C_alloc HC.out _) Hc.out HB0.out).mono ?_
    rintro e w1 ⟨rfl, ⟨nd, rfl⟩⟩
    have hd50 : b = false → decide (50 < ks.length) = true := fun h => decide_eq_true (H50.out.resolve_left (by rw [h]; decide))
    have hd51 : b = false → decide ((50 : Int) < (ks.length : Int)) = true := fun h => by have := H50.out.resolve_left (by rw [h]; decide); exact decide_eq_true (by omega)
    cases b with
    | true =>
      clear hd50 hd51
      go_wp2_with (go_at_call 37; refine (live15 _).mono ?_; rintro e w2 ⟨rfl, hb2⟩; have HB2 := Aside0.mk hb2; clear hb2)
      go_ret
      exact ⟨rfl, below_step (pw_below_drewN (below_alloc (Below.refl _ _) _) _) HB2.out⟩
    | false =>
      have h50 := hd50 rfl
      have h51 := hd51 rfl
      clear hd50 hd51
      go_wp2_with (go_at_call 37; refine (live15 _).mono ?_; rintro e w2 ⟨rfl, hb2⟩; have HB2 := Aside0.mk hb2; clear hb2)
      go_ret
      exact ⟨rfl, below_step (pw_below_drewN (below_alloc (Below.refl _ _) _) _) HB2.out⟩
  · have hb : b = false := by cases b <;> simp_all
    have h50 : ks.length ≤ 50 := by omega
    have HS := Aside0.mk (hsm hb)
    clear hsm hbig
    subst hb
    have hd50 : decide (50 < ks.length) = false := decide_eq_false (by omega)
    have hd51 : decide ((50 : Int) < (ks.length : Int)) = false := decide_eq_false (by omega)
    have H50 := Aside0.mk h50
    clear h50
    obtain ⟨r, hr, hcase⟩ := ends_ok l i HS.out 1000 (Nat.le_refl _)
    obtain ⟨r1, r2, hev, h1, h2⟩ : ∃ r1 r2, event_Ends.f 1000 l i = some (r1, r2) ∧ (r2 == decide (0 ≤ r)) = true ∧ r1 = mx r 0 := by
      rcases hcase with ⟨rfl, h⟩ | ⟨h0, h⟩
      · exact ⟨0, false, h, rfl, rfl⟩
      · exact ⟨r, true, h, by rw [decide_eq_true h0]; rfl, by unfold mx; rw [if_neg (by omega)]⟩
    have HR := Aside0.mk hr
    have HE := Aside0.mk hev
    have H1 := Aside0.mk h1
    have H2 := Aside0.mk h2
    clear hr hcase hev h1 h2
    go_enter Try.func10, Try.ntmps10
    go_wp2_with fail
    refine (sakialaw15_Long.calls 1000 A c l 200 false _ (Kd.C_alloc HC.out _) Hc.out HB0.out).mono ?_
    rintro e w1 ⟨rfl, ⟨nd, rfl⟩⟩
    go_wp2_with fail
    go_quiet (fail)
    go_wp2_with fail
    have HB := Aside0.mk (fun m => pw_below_drewN (below_alloc (Below.refl w.heap.size w) (Obj.cells #[.int .i64 t, .int .i64 i] 66)) m)
    refine (event_Ends.calls 1000 A c l i r1 r2 _ (Kd.C_below HC.out (HB.out _)) Hc.out HE.out).mono ?_
    rintro e W2 ⟨rfl, hb2⟩
    have HB2 := Aside0.mk (below_step (HB.out _) hb2.below)
    clear hb2
    go_wp2_with fail
    refine (sakiaref15_Ends.calls 1000 A c l i r _ (Kd.C_below HC.out HB2.out) Hc.out HR.out).mono ?_
    rintro e W3 ⟨rfl, hb3⟩
    have HB3 := Aside0.mk (below_step HB2.out hb3.below)
    clear hb3
    go_wp2_with fail
    refine (c_Of 1000 (Kd.C_below HC.out HB3.out) Hc.out (of_ok l t HS.out 1000 (Nat.le_refl _))).mono ?_
    rintro e W4 ⟨A4, c4, rfl, hc4, hC4, hb4⟩
    have HB4 := Aside0.mk (below_step HB3.out hb4)
    have Hc4 := Aside0.mk hc4
    have HC4 := Aside0.mk hC4
    clear hb4 hc4 hC4
    go_wp2_with fail
    refine (c_rOf 1000 (Kd.C_below HC.out HB4.out) Hc.out (rof_ok l t HS.out 1000 (Nat.le_refl _))).mono ?_
    rintro e W5 ⟨A5, c5, rfl, hc5, hC5, hb5⟩
    have HC4' := Aside0.mk (Kd.C_below HC4.out hb5)
    have HB5 := Aside0.mk (below_step HB4.out hb5)
    have Hc5 := Aside0.mk hc5
    have HC5 := Aside0.mk hC5
    clear hb5 hc5 hC5 HC4
    go_wp2_with fail
    refine (sakiaref15_Same.calls 1000 A4 c4 (ofL l t) A5 c5 (ofL l t) true _ HC4'.out Hc4.out HC5.out Hc5.out (rsame_refl (small_filter HS.out _) 1000 (Nat.le_refl _))).mono ?_
    rintro e W6 ⟨rfl, hb6⟩
    have HB6 := Aside0.mk (below_step HB5.out hb6)
    clear hb6
    go_wp2_with fail
    refine (c_Only 1000 (Kd.C_below HC.out HB6.out) Hc.out (Kd.C_below HD.out HB6.out) Hd.out (only_ok l ks HS.out H50.out 1000 (Nat.le_refl _))).mono ?_
    rintro e W7 ⟨A7, c7, rfl, hc7, hC7, hb7⟩
    have HB7 := Aside0.mk (below_step HB6.out hb7)
    have Hc7 := Aside0.mk hc7
    have HC7 := Aside0.mk hC7
    clear hb7 hc7 hC7
    go_wp2_with fail
    refine (c_rOnly BIG (Kd.C_below HC.out HB7.out) Hc.out (Kd.C_below HD.out HB7.out) Hd.out (ronly_ok l ks HS.out H50.out BIG big)).mono ?_
    rintro e W8 ⟨A8, c8, rfl, hc8, hC8, hb8⟩
    have HC7' := Aside0.mk (Kd.C_below HC7.out hb8)
    have HB8 := Aside0.mk (below_step HB7.out hb8)
    have Hc8 := Aside0.mk hc8
    have HC8 := Aside0.mk hC8
    clear hb8 hc8 hC8 HC7
    go_wp2_with fail
    refine (sakiaref15_Same.calls 1000 A7 c7 (onlyL l ks) A8 c8 (onlyL l ks) true _ HC7'.out Hc7.out HC8.out Hc8.out (rsame_refl (small_filter HS.out _) 1000 (Nat.le_refl _))).mono ?_
    rintro e W9 ⟨rfl, hb9⟩
    have HB9 := Aside0.mk (below_step HB8.out hb9)
    clear hb9
    obtain rfl : r1 = mx r 0 := H2.out
    obtain rfl : r2 = decide (0 ≤ r) := eq_of_beq H1.out
    have hmx : (mx r 0 != if r < 0 then 0 else r) = false := by unfold mx; simp
    go_wp2_with fail
    all_goals
      refine (c_rOf 1000 (Kd.C_below HC.out HB9.out) Hc.out (rof_ok l t HS.out 1000 (Nat.le_refl _))).mono ?_
      rintro e Wa ⟨Aa, ca, rfl, hca, hCa, hba⟩
      have HBa := Aside0.mk (below_step HB9.out hba)
      have Hca := Aside0.mk hca
      have HCa := Aside0.mk hCa
      clear hba hca hCa
      go_wp2_with fail
      refine (c_Copy 1000 (Kd.C_below HC.out HBa.out) Hc.out (copy_ok l HS.out 1000 (Nat.le_refl _))).mono ?_
      rintro e Wb ⟨Ab, cb, rfl, hcb, hCb, hbb⟩
      have HCa2 := Aside0.mk (Kd.C_below HCa.out hbb)
      have HBb := Aside0.mk (below_step HBa.out hbb)
      have Hcb := Aside0.mk hcb
      have HCb := Aside0.mk hCb
      clear hbb hcb hCb HCa
      go_wp2_with fail
      refine (sakiaref15_Same.calls 1000 Ab cb l A c l true _ HCb.out Hcb.out (Kd.C_below HC.out HBb.out) Hc.out (rsame_refl HS.out 1000 (Nat.le_refl _))).mono ?_
      rintro e Wc ⟨rfl, hbc⟩
      have HCa3 := Aside0.mk (Kd.C_below HCa2.out hbc)
      have HBc := Aside0.mk (below_step HBb.out hbc)
      clear hbc HCa2
      go_wp2_with fail
      refine (event_Same.calls A c l A c l true _ (Kd.C_below HC.out HBc.out) Hc.out (Kd.C_below HC.out HBc.out) Hc.out (by rw [esame_ok l l HS.out, sameL_refl])).mono ?_
      rintro e Wd ⟨rfl, hbd⟩
      have HCa4 := Aside0.mk (Kd.C_below HCa3.out hbd)
      have HBd := Aside0.mk (below_step HBc.out hbd)
      clear hbd HCa3
      go_wp2_with fail
      refine (event_Same.calls A c l Aa ca (ofL l t) (sameL l (ofL l t)) _ (Kd.C_below HC.out HBd.out) Hc.out HCa4.out Hca.out (esame_ok l _ HS.out)).mono ?_
      rintro e We ⟨rfl, hbe⟩
      have HCa5 := Aside0.mk (Kd.C_below HCa4.out hbe)
      have HBe := Aside0.mk (below_step HBd.out hbe)
      clear hbe HCa4
      go_wp2_with fail
      refine (sakiaref15_Same.calls 1000 A c l Aa ca (ofL l t) (sameL l (ofL l t)) _ (Kd.C_below HC.out HBe.out) Hc.out HCa5.out Hca.out (rsame_ok l _ HS.out 1000 (Nat.le_refl _))).mono ?_
      rintro e Wf ⟨rfl, hbf⟩
      have HBf := Aside0.mk (below_step HBe.out hbf)
      clear hbf
      go_wp2_with fail
      refine (live15 _).mono ?_
      rintro e Wg ⟨rfl, hbg⟩
      have HBg := Aside0.mk (below_step HBf.out hbg)
      clear hbg
      go_wp2
      go_ret
      exact ⟨rfl, HBg.out⟩
end Go.Proofs.Ytjaiodlfgpndoaa.QEv
