/- The document's answer what is wrong with lists (sakiaref09.Check). -/
import Derived.Test.YtgibmlbdkijflaaDoorGrap
set_option linter.unusedVariables false
set_option linter.unusedSimpArgs false
set_option maxRecDepth 100000
namespace Go.Proofs.YtgibmlbdkijflaaDoor.Graph
open Go.RowKit Go.Proofs.YtgibmlbdkijflaaDoorW.PrintWords Go.Proofs.YtgibmlbdkijflaaDoorW.PrintLast
def okN (n : Nat) (l : List Int) : Prop := (∀ u ∈ l, 0 ≤ u ∧ u < n) ∧ l.Nodup
instance (n : Nat) (l : List Int) : Decidable (okN n l) := by unfold okN; exact inferInstance
def okAll (up : List (List Int)) : Prop := ∀ l ∈ up, okN up.length l
instance (up : List (List Int)) : Decidable (okAll up) := by unfold okAll; exact inferInstance
def checkG (up : List (List Int)) : Int :=
  if up.length < 1 ∨ 6 < up.length then 6 else if ¬ okAll up then 7 else if ((List.range up.length).any fun c => reachB up c c) = true then 8 else 0
theorem okAll.good {up : List (List Int)} (h : okAll up) (h6 : up.length ≤ 6) : GoodUp up := ⟨h6, fun l hl u hu => (h l hl).1 u hu⟩
theorem okN_snoc {n i : Nat} {l : List Int} (h : okN n (l.take i)) (hi : i < l.length) (h1 : 0 ≤ l[i]) (h2 : l[i] < n) (h3 : ¬ l[i] ∈ l.take i) : okN n (l.take (i + 1)) := by
  rw [List.take_succ_eq_append_getElem hi]
  refine ⟨fun u hu => ?_, ?_⟩
  · rcases List.mem_append.1 hu with hu | hu
    · exact h.1 u hu
    · rw [List.mem_singleton.1 hu]; exact ⟨h1, h2⟩
  · rw [List.nodup_append]
    refine ⟨h.2, by simp, fun a ha b hb => ?_⟩
    rw [List.mem_singleton.1 hb]
    rintro rfl
    exact h3 ha
theorem okN_take {n i : Nat} {l : List Int} (h : okN n l) : okN n (l.take i) := ⟨fun u hu => h.1 u (List.mem_of_mem_take hu), h.2.sublist (List.take_sublist i l)⟩
theorem okN_bad {n i : Nat} {l : List Int} (hi : i < l.length) (h : l[i] < 0 ∨ (n : Int) ≤ l[i] ∨ l[i] ∈ l.take i) : ¬ okN n l := by
  intro ho
  have h1 := ho.1 _ (List.getElem_mem hi)
  rcases h with h | h | h
  · omega
  · omega
  · have := (okN_take (i := i + 1) ho).2
    rw [List.take_succ_eq_append_getElem hi, List.nodup_append] at this
    exact this.2.2 _ h _ (List.mem_singleton.2 rfl) rfl
theorem okAll_of {up : List (List Int)} (h : ∀ j, j < up.length → okN up.length (up.getD j [])) : okAll up := by
  intro l hl
  obtain ⟨j, hj, rfl⟩ := List.mem_iff_getElem.1 hl
  have := h j hj
  rwa [List.getD_eq_getElem?_getD, List.getElem?_eq_getElem hj] at this
theorem checkG_cycle {up : List (List Int)} (h1 : ¬ (up.length < 1 ∨ 6 < up.length)) (ho : okAll up) {c : Nat} (hc : c < up.length) (h : reachB up c c = true) : checkG up = 8 := by
  unfold checkG
  rw [if_neg h1, if_neg (fun h => h ho), if_pos]
  exact List.any_eq_true.2 ⟨c, List.mem_range.2 hc, h⟩
theorem checkG_fine {up : List (List Int)} (h1 : ¬ (up.length < 1 ∨ 6 < up.length)) (ho : okAll up) (h : ∀ c, c < up.length → reachB up c c = false) : checkG up = 0 := by
  unfold checkG
  rw [if_neg h1, if_neg (fun h => h ho), if_neg]
  intro hx
  obtain ⟨c, hc, hb⟩ := List.any_eq_true.1 hx
  rw [h c (List.mem_range.1 hc)] at hb
  exact absurd hb (by decide)
theorem checkG_bad {up : List (List Int)} (h1 : ¬ (up.length < 1 ∨ 6 < up.length)) {c : Nat} (hc : c < up.length) (h : ¬ okN up.length (up.getD c [])) : checkG up = 7 := by
  unfold checkG
  rw [if_neg h1, if_pos]
  intro ho
  apply h
  rw [List.getD_eq_getElem?_getD, List.getElem?_eq_getElem hc]
  exact ho _ (List.getElem_mem hc)
theorem rd_at (l : List Int) (i : Nat) (h : i < l.length) : rd l (i : Int) = l[i] := by simp [rd, h]
theorem has_pure (l : List Int) (x : Int) (hl : l.length ≤ 9223372036854775807) : ∀ (d k i : Nat), l.length - i = d → i ≤ l.length → d < k → QGp.sakiaref09_Has.l0 k l x (i : Int) = some ((l.drop i).contains x) := by
  intro d
  induction d with
  | zero =>
    intro k i hd hi hk
    obtain ⟨k, rfl⟩ : ∃ n, k = n + 1 := ⟨k - 1, by omega⟩
    simp only [QGp.sakiaref09_Has.l0]
    rw [if_neg (by omega), List.drop_eq_nil_of_le (by omega)]; rfl
  | succ d ih =>
    intro k i hd hi hk
    obtain ⟨k, rfl⟩ : ∃ n, k = n + 1 := ⟨k - 1, by omega⟩
    have hlt : i < l.length := by omega
    simp only [QGp.sakiaref09_Has.l0]
    rw [if_pos (by omega), if_pos (by omega), rd_at _ _ hlt, List.drop_eq_getElem_cons hlt, List.contains_cons]
    by_cases h : l[i] = x
    · rw [if_pos h, h]; simp
    · rw [if_neg h, show wrap64 ((i : Int) + 1) = ((i + 1 : Nat) : Int) by unfold wrap64; omega, ih k (i + 1) (by omega) (by omega) (by omega)]
      have : (x == l[i]) = false := by rw [beq_eq_false_iff_ne]; exact fun e => h e.symm
      rw [this, Bool.false_or]
theorem hasL {w : World} {A : Option Addr} {C : Nat} {l : List Int} (x : Int) (hr : Kd.C (Kd.int .i64) w A l.length l) (hc : l.length ≤ C) (hl : l.length ≤ 9223372036854775807) :
    Calls Tryd.prog 72 #[.slice A l.length C, .int .i64 x] w fun e w' => e = .returned (.bool (l.contains x)) ∧ Drawn0 w w' := by
  refine QGp.sakiaref09_Has.calls (l.length + 1) A C l x _ w hr hc ?_
  have := has_pure l x hl l.length (l.length + 1) 0 (by omega) (by omega) (by omega)
  rwa [List.drop_zero] at this
theorem Drawn0.below {w w' : World} (h : Drawn0 w w') : Below w.heap.size w w' := by
  obtain ⟨n, rfl⟩ := h
  exact pw_below_drewN (Below.refl _ _) n
set_option maxHeartbeats 4000000 in
theorem check_ (w : World) (A : Option Addr) (C : Nat) (up : List (List Int)) (hr : Kd.C (Kd.slice 3 (Kd.int .i64)) w A up.length up) (hC : up.length ≤ C) :
    Calls Tryd.prog 35 #[.slice A up.length C] w fun e w' => e = .returned (.int .i64 (checkG up)) ∧ Below w.heap.size w w' := by
  by_cases h1 : up.length < 1
  · have t1 : decide ((up.length : Int) < 1) = true := decide_eq_true (by omega)
    have e : checkG up = 6 := by unfold checkG; rw [if_pos (.inl h1)]
    rw [e]
    clear e hr
    go_enter Tryd.func35, Tryd.ntmps35
    go_wp2_with fail
    go_ret
    exact ⟨rfl, Below.refl _ _⟩
  have t1 : decide ((up.length : Int) < 1) = false := decide_eq_false (by omega)
  by_cases h6 : 6 < up.length
  · have t2 : decide (6 < (up.length : Int)) = true := decide_eq_true (by omega)
    have e : checkG up = 6 := by unfold checkG; rw [if_pos (.inr h6)]
    rw [e]
    clear e hr
    go_enter Tryd.func35, Tryd.ntmps35
    go_wp2_with fail
    go_ret
    exact ⟨rfl, Below.refl _ _⟩
  have t2 : decide (6 < (up.length : Int)) = false := decide_eq_false (by omega)
  have H16 := Aside0.mk (show ¬ (up.length < 1 ∨ 6 < up.length) from fun h => h.elim h1 h6)
  have HR := Aside0.mk hr
  clear hr h1
  obtain ⟨W, HW⟩ : ∃ W, Aside0 (W = w) := ⟨_, ⟨rfl⟩⟩
  go_enter Tryd.func35, Tryd.ntmps35
  go_wp2_with fail
  go_loopw [3] (fun v wr => ∃ c : Nat, c ≤ up.length ∧ v = .int .i64 c ∧ Below w.heap.size w wr ∧ ∀ j, j < c → okN up.length (up.getD j [])) (fun v _ => up.length - (intOf v).toNat)
  case atStart => exact ⟨0, Nat.zero_le _, rfl, Below.refl _ _, fun j hj => absurd hj (by omega)⟩
  case round =>
    obtain ⟨c, hc, rfl, hB, hall⟩ := hrel
    have HALL := Aside0.mk hall
    have HB := Aside0.mk hB
    clear hall hB
    by_cases hlt : c < up.length
    · have t3 : decide ((c : Int) < (up.length : Int)) = true := decide_eq_true (by omega)
      have hci : (c : Int) < (up.length : Int) := by omega
      obtain ⟨ad, A0, c0, rfl, hrow, hl0, hnum⟩ := row_at HR.out c hlt
      obtain ⟨l, hL⟩ : ∃ l, up.getD c [] = l := ⟨_, rfl⟩
      rw [hL] at hrow hl0 hnum
      have hln := Kd.C_max hnum
      have HROW := Aside0.mk hrow
      have HN := Aside0.mk hnum
      have HL := Aside0.mk hL
      have HCL := Aside0.mk hlt
      clear hrow hnum hL hlt
      obtain ⟨wo, hwo⟩ : ∃ wo : World, wo = wr := ⟨_, rfl⟩
      rw [← hwo] at HB ⊢
      clear hwo
      go_wp2_with fail
      go_loopw [4] (fun v wr => ∃ i : Nat, i ≤ l.length ∧ v = .int .i64 i ∧ Below w.heap.size w wr ∧ okN up.length (l.take i)) (fun v _ => l.length - (intOf v).toNat)
      case atStart => exact ⟨0, Nat.zero_le _, rfl, HB.out, ⟨fun u hu => by simp at hu, by simp⟩⟩
      case round =>
        obtain ⟨i, hi, rfl, hBi, hok⟩ := hrel
        have HBi := Aside0.mk hBi
        have HOK := Aside0.mk hok
        have hroww : wr.cell? (ad.add c) = some (.slice A0 l.length c0) := by rw [← HROW.out]; exact hBi.cell (World.block_lt_of_cell? _ _ HROW.out)
        clear hok
        by_cases hlti : i < l.length
        · obtain ⟨a0, rfl, hx⟩ := num_at HN.out i hlti hlti
          have hxw : wr.cell? (a0.add i) = some (.int .i64 l[i]) := by rw [← hx]; exact hBi.cell (World.block_lt_of_cell? _ _ hx)
          have HI := Aside0.mk hlti
          have t4 : (i : Int) < (l.length : Int) := by omega
          obtain ⟨v, hv⟩ : ∃ v, l[i] = v := ⟨_, rfl⟩
          rw [hv] at hxw
          have HV := Aside0.mk hv
          have HT := Aside0.mk (Kd.C_take (Kd.C_below HN.out hBi) (Nat.le_of_lt hlti))
          have hic : (i : Int) ≤ (c0 : Int) := by omega
          have htl : (l.take i).length = i := by rw [List.length_take]; omega
          have HTL := Aside0.mk htl
          clear hx hv hBi htl
          by_cases b1 : v < 0
          · have t5 : decide (v < 0) = true := decide_eq_true b1
            have HE := Aside0.mk (show checkG up = 7 from checkG_bad H16.out HCL.out (by rw [HL.out]; exact okN_bad HI.out (by rw [HV.out]; exact .inl b1)))
            go_wp2_with fail
            go_ret
            exact ⟨by rw [HE.out]; rfl, HBi.out⟩
          have t5 : decide (v < 0) = false := decide_eq_false b1
          by_cases b2 : (up.length : Int) ≤ v
          · have t6 : decide ((up.length : Int) ≤ v) = true := decide_eq_true b2
            have HE := Aside0.mk (show checkG up = 7 from checkG_bad H16.out HCL.out (by rw [HL.out]; exact okN_bad HI.out (by rw [HV.out]; exact .inr (.inl b2))))
            go_wp2_with fail
            go_ret
            exact ⟨by rw [HE.out]; rfl, HBi.out⟩
          have t6 : decide ((up.length : Int) ≤ v) = false := decide_eq_false b2
          have HC := Aside0.mk (hasL (C := c0) v HT.out (by rw [HTL.out]; omega) (by rw [HTL.out]; omega))
          rw [HTL.out] at HC
          cases hb : (l.take i).contains v with
          | true =>
            rw [hb] at HC
            have HE := Aside0.mk (show checkG up = 7 from checkG_bad H16.out HCL.out (by rw [HL.out]; exact okN_bad HI.out (by rw [HV.out]; exact .inr (.inr (List.contains_iff_mem.1 hb)))))
            clear hb
            go_wp2_with (go_at_call 72; refine HC.out.mono ?_; rintro e w' ⟨rfl, hd⟩)
            go_ret
            exact ⟨by rw [HE.out]; rfl, HBi.out.trans ((Drawn0.below hd).mono HBi.out.size)⟩
          | false =>
            rw [hb] at HC
            have HE := Aside0.mk (show okN up.length (l.take (i + 1)) from okN_snoc HOK.out HI.out (by rw [HV.out]; omega) (by rw [HV.out]; omega) (by rw [HV.out]; intro hm; rw [List.contains_iff_mem.2 hm] at hb; exact absurd hb (by decide)))
            clear hb
            go_wp2_with (go_at_call 72; refine HC.out.mono ?_; rintro e w' ⟨rfl, hd⟩)
            go_roundw
            case rel => exact ⟨i + 1, by omega, by go_num, HBi.out.trans ((Drawn0.below hd).mono HBi.out.size), HE.out⟩
            case measure => simp [intOf]; omega
        · have t4 : decide ((i : Int) < (l.length : Int)) = false := decide_eq_false (by omega)
          have hil : i = l.length := by omega
          subst hil
          go_wp2_with fail
          go_roundw
          case rel => exact ⟨c + 1, by have := HCL.out; omega, by go_num, HBi.out, fun j hj => by
            by_cases e : j = c
            · subst e; have := HOK.out; rw [List.take_of_length_le (Nat.le_refl _)] at this; rw [HL.out]; exact this
            · exact HALL.out j (by omega)⟩
          case measure => simp [intOf]; omega
    · have t3 : decide ((c : Int) < (up.length : Int)) = false := decide_eq_false (by omega)
      have hcl : c = up.length := by omega
      subst hcl
      have HO := Aside0.mk (okAll_of HALL.out)
      have HOF := Aside0.mk (of_ wr A C up (HO.out.good (by omega)) (Kd.C_below HR.out HB.out))
      obtain ⟨wo, hwo⟩ : ∃ wo : World, wo = wr := ⟨_, rfl⟩
      rw [← hwo] at HB HOF ⊢
      clear hwo
      go_wp2_with fail
      refine HOF.out.mono ?_
      rintro e w2 ⟨rfl, hb2⟩
      have HB2 := Aside0.mk (HB.out.trans (hb2.mono HB.out.size))
      clear hb2
      go_wp2_with (first | (with_reducible refine alloc_T rfl rfl ?_) | (with_reducible refine store_T rfl _ _ rfl rfl rfl ?_))
      have hg := heap_alloc_last w2 (.cells (arr (reachB up)) 110)
      have HB3 := Aside0.mk (HB2.out.trans (((Below.refl w2.heap.size w2).alloc (Nat.le_refl _) (.cells (arr (reachB up)) 110)).mono HB2.out.size))
      generalize w2.alloc (.cells (arr (reachB up)) 110) = w3 at *
      generalize w2.heap.size = g at *
      have hcell : ∀ a b, a < 6 → b < 6 → w3.cell? ⟨g, a * 6 + b, none⟩ = some (.bool (reachB up a b)) := fun a b ha hb => by rw [cell_of_row w3 g _ _ _ _ hg, arr_at _ a b ha hb]
      have HCELL := Aside0.mk hcell
      clear hg hcell HB HB2 HOF
      go_loop [7] (fun v => ∃ c : Nat, c ≤ up.length ∧ v = .int .i64 c ∧ ∀ j, j < c → reachB up j j = false) (fun v => up.length - (intOf v).toNat)
      case atStart => exact ⟨0, Nat.zero_le _, rfl, fun j hj => absurd hj (by omega)⟩
      case round =>
        obtain ⟨c, hc2, rfl, hno⟩ := hrel
        have HNO := Aside0.mk hno
        clear hno
        by_cases hlt2 : c < up.length
        · have t4 : decide ((c : Int) < (up.length : Int)) = true := decide_eq_true (by omega)
          have hc6 : (c : Int) < 6 := by omega
          have hcc := HCELL.out c c (by omega) (by omega)
          cases hb : reachB up c c with
          | true =>
            rw [hb] at hcc
            have HE := Aside0.mk (checkG_cycle H16.out HO.out hlt2 hb)
            clear hb
            go_wp2_with fail
            go_ret
            exact ⟨by rw [HE.out]; rfl, HB3.out⟩
          | false =>
            rw [hb] at hcc
            have HE := Aside0.mk hb
            clear hb
            go_wp2_with fail
            go_round
            case rel => exact ⟨c + 1, by omega, by go_num, fun j hj => by
              by_cases e : j = c
              · subst e; exact HE.out
              · exact HNO.out j (by omega)⟩
            case measure => simp [intOf]; omega
        · have t4 : decide ((c : Int) < (up.length : Int)) = false := decide_eq_false (by omega)
          have hcl : c = up.length := by omega
          subst hcl
          have HE := Aside0.mk (checkG_fine H16.out HO.out HNO.out)
          go_wp2_with fail
          go_ret
          exact ⟨by rw [HE.out]; rfl, HB3.out⟩
end Go.Proofs.YtgibmlbdkijflaaDoor.Graph
namespace Go.Proofs.YtgibmlbdkijflaaDoor.QCf
open Go.RowKit Go.Proofs.YtgibmlbdkijflaaDoorW.PrintWords Go.Proofs.YtgibmlbdkijflaaDoor.Graph
def sakiaref09_Check.f (l0 : List (List Int)) : Option Int := some (checkG l0)
theorem sakiaref09_Check.calls (A0 : Option Addr) (c0 : Nat) (l0 : List (List Int)) (r : Int) (w : World) (hr0 : Kd.C (Kd.slice 3 (Kd.int .i64)) w A0 l0.length l0) (hc0 : l0.length ≤ c0) (h : sakiaref09_Check.f l0 = some r) :
    Calls Tryd.prog 35 #[.slice A0 l0.length c0] w fun e w' => e = .returned (.int .i64 r) ∧ Below w.heap.size w w' := by
  obtain rfl := Option.some.inj h
  exact check_ w A0 c0 l0 hr0 hc0
end Go.Proofs.YtgibmlbdkijflaaDoor.QCf
