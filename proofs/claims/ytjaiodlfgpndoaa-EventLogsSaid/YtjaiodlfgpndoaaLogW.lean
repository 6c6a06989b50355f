/- The walk of sakialaw15.EventLogs: for every input the call returns true, and what was in memory stays. -/
import Derived.Test.YtjaiodlfgpndoaaLogA
import Derived.Test.YtjaiodlfgpndoaaLive
import Derived.Deep.QuietTactic
import Derived.BigQuiet
set_option linter.unusedVariables false
set_option linter.unusedSimpArgs false
namespace Go.Proofs.Ytjaiodlfgpndoaa.QEv
open Go.RowKit Go.Proofs.YtjaiodlfgpndoaaW.PrintWords Go.Proofs.YtjaiodlfgpndoaaW.PrintLast Go.Proofs.YtjaiodlfgpndoaaW.PrintMore
attribute [local go_sem] max2_int min2_int max_two min_two
theorem LogAt.old {base : Nat} {W W' : World} {g : Nat} {v : Value} {xs : List S56} (h : LogAt base W g v xs) (hk : ∀ k, k < W.heap.size → W'.heap[k]? = W.heap[k]?) : LogAt base W' g v xs :=
  ⟨(hk g (blk_lt h.blk)).trans h.blk, h.ge, Kd.S_step h.own (fun k _ hlt => hk k hlt)⟩
theorem Fit.drop {l : List S56} (h : Fit l) (m : Nat) : Fit (l.drop m) := ⟨by rw [List.length_drop]; have := h.1; omega, Nat.le_trans (total_drop l m) h.2⟩
theorem Small.drop {l : List S56} (h : Small l) (m : Nat) : Small (l.drop m) := ⟨by rw [List.length_drop]; have := h.1; omega, fun x hx => h.2 x (List.mem_of_mem_drop hx)⟩
theorem Small.set {l : List S56} (h : Small l) (i : Nat) (x : S56) (hx : x.f6.length ≤ 100) : Small (l.set i x) := ⟨by rw [List.length_set]; exact h.1, fun y hy => by
  rcases List.mem_or_eq_of_mem_set hy with hy | rfl
  · exact h.2 y hy
  · exact hx⟩
theorem F_old {α : Type} {d : Kd α} {w W : World} {A : Option Addr} {n : Nat} {xs : List α} (hd : Kd.Heap d) (h : d.C w A n xs) (hb : Below w.heap.size w W) : Kd.F d W (fun k => k < w.heap.size) A n xs :=
  fun W' hW => Kd.C_F hd h W' (fun k hk _ => (hW k hk (Nat.lt_of_lt_of_le hk hb.size)).trans (hb.block k hk))
theorem place (n : Int) (len : Nat) : ∃ m : Nat, mn (mx n 0) (len : Int) = (m : Int) ∧ m ≤ len := by
  refine ⟨(mn (mx n 0) (len : Int)).toNat, ?_, ?_⟩ <;> (unfold mn mx; split <;> split <;> omega)
set_option maxHeartbeats 8000000 in
set_option maxRecDepth 100000 in
theorem walkLogs (A : Option Addr) (c : Nat) (l : List S56) (n : Int) (B : Option Addr) (d : Nat) (ks : List Int) (w : World) (hC : Kd.C k56 w A l.length l) (hc : l.length ≤ c) (hD : Kd.C (Kd.int .i64) w B ks.length ks) (hd : ks.length ≤ d) :
    Calls Try.prog 8 #[.slice A l.length c, .int .i64 n, .slice B ks.length d] w fun e w' => e = .returned (.bool true) ∧ Below w.heap.size w w' := by
  have HC := Aside0.mk hC
  have HD := Aside0.mk hD
  have Hc := Aside0.mk hc
  have Hd := Aside0.mk hd
  clear hC hD hc hd
  obtain ⟨b, hb, hsm⟩ := long_ok l 1000 (Nat.le_refl _)
  have HB0 := Aside0.mk hb
  clear hb
  by_cases hbig : b = true ∨ 100 < ks.length
  · have H50 := Aside0.mk hbig
    clear hsm hbig
    go_enter Try.func8, Try.ntmps8
    go_wp2_with fail
    refine (sakialaw15_Long.calls 1000 A c l 200 b _ HC.out Hc.out HB0.out).mono ?_
    rintro e w1 ⟨rfl, ⟨nd, rfl⟩⟩
    have hd50 : b = false → decide (100 < ks.length) = true := fun h => decide_eq_true (H50.out.resolve_left (by rw [h]; decide))
    have hd51 : b = false → decide ((100 : Int) < (ks.length : Int)) = true := fun h => by have := H50.out.resolve_left (by rw [h]; decide); exact decide_eq_true (by omega)
    cases b with
    | true =>
      clear hd50 hd51
      go_wp2_with (go_at_call 37; refine (live15 _).mono ?_; rintro e w2 ⟨rfl, hb2⟩; have HB2 := Aside0.mk hb2; clear hb2)
      go_ret
      exact ⟨rfl, below_step (pw_below_drewN (Below.refl _ _) _) HB2.out⟩
    | false =>
      have h50 := hd50 rfl
      have h51 := hd51 rfl
      clear hd50 hd51
      go_wp2_with (go_at_call 37; refine (live15 _).mono ?_; rintro e w2 ⟨rfl, hb2⟩; have HB2 := Aside0.mk hb2; clear hb2)
      go_ret
      exact ⟨rfl, below_step (pw_below_drewN (Below.refl _ _) _) HB2.out⟩
  · have hb : b = false := by cases b <;> simp_all
    have HKL := Aside0.mk (show ks.length ≤ 100 by omega)
    have HS := Aside0.mk (hsm hb)
    clear hsm
    subst hb
    have hd50 : decide (100 < ks.length) = false := decide_eq_false (by omega)
    have hd51 : decide ((100 : Int) < (ks.length : Int)) = false := decide_eq_false (by omega)
    clear hbig
    have HFL := Aside0.mk HS.out.fit
    obtain ⟨m, hm, hml⟩ := place n l.length
    have HM := Aside0.mk hm
    have HML := Aside0.mk hml
    have HCD := Aside0.mk (copy_ok (l.drop m) (HS.out.drop m) 1000 (Nat.le_refl _))
    have HCL := Aside0.mk (copy_ok (l.drop 0) (HS.out.drop 0) 1000 (Nat.le_refl _))
    have HFD := Aside0.mk (HFL.out.drop m)
    have HM1 := Aside0.mk (show mn (mx (-1) 0) (l.length : Int) = ((0 : Nat) : Int) by unfold mn mx; split <;> split <;> omega)
    have HM0 := Aside0.mk (show mn (mx 0 0) (l.length : Int) = ((0 : Nat) : Int) by unfold mn mx; split <;> split <;> omega)
    have HDC := Aside0.mk (show (l.drop m).length ≤ c - m by have := Hc.out; rw [List.length_drop]; omega)
    clear hm hml
    go_enter Try.func8, Try.ntmps8
    go_wp2_with fail
    refine (sakialaw15_Long.calls 1000 A c l 200 false _ HC.out Hc.out HB0.out).mono ?_
    rintro e w1 ⟨rfl, ⟨nd, rfl⟩⟩
    have HB := Aside0.mk (pw_below_drewN (Below.refl w.heap.size w) nd)
    generalize w.drewN nd = W at HB ⊢
    go_wp2_with fail
    refine (note_nil _ _ _ _ _ _ _ _).mono ?_
    rintro e W' ⟨rfl, hb'⟩
    replace HB := Aside0.mk (below_step HB.out hb')
    clear hb'
    go_wp2_with fail
    refine (len_nil _).mono ?_
    rintro e w' ⟨rfl, rfl⟩
    go_wp2_with fail
    refine (from_nil _ _).mono ?_
    rintro e w' ⟨rfl, rfl⟩
    go_wp2_with fail
    refine (fill_nil _ _ _).mono ?_
    rintro e w' ⟨rfl, rfl⟩
    go_wp2_with fail
    refine (newlog_calls w _ HB.out).mono ?_
    rintro e W1 ⟨g, rfl, hlog, hb1⟩
    have HLG0 := Aside0.mk hlog
    have HB1 := Aside0.mk hb1
    clear hlog hb1 HB hd50 hd51
    go_wp2_with fail
    go_loopw [9] (fun x wr => ∃ i : Nat, i ≤ l.length ∧ x = .int .i64 i ∧ (∃ v, Aside0 (LogAt w.heap.size wr g v (l.take i))) ∧ Aside0 (Below w.heap.size w wr)) (fun x _ => l.length - (intOf x).toNat)
    case atStart => exact ⟨0, Nat.zero_le _, rfl, ⟨_, HLG0⟩, HB1⟩
    case round =>
      clear HLG0 HB1
      obtain ⟨i, hi, rfl, ⟨v, HLG⟩, HB⟩ := hrel
      by_cases hlt : i < l.length
      · have t3 : decide ((i : Int) < (l.length : Int)) = true := decide_eq_true (by omega)
        have t3' : decide (i < l.length) = true := decide_eq_true hlt
        have p1 : 0 ≤ (i : Int) := by omega
        have q1 : (i : Int) < (l.length : Int) := by omega
        obtain ⟨ad, A6, c6, rfl, hx0, hx1, hx2, hx3, hx4, hx5, hx6, hl6, hi6⟩ := at_T56 HC.out i p1 q1
        replace hx0 := (HB.out.cell (World.block_lt_of_cell? w _ hx0)).trans hx0
        replace hx1 := (HB.out.cell (World.block_lt_of_cell? w _ hx1)).trans hx1
        replace hx2 := (HB.out.cell (World.block_lt_of_cell? w _ hx2)).trans hx2
        replace hx3 := (HB.out.cell (World.block_lt_of_cell? w _ hx3)).trans hx3
        replace hx4 := (HB.out.cell (World.block_lt_of_cell? w _ hx4)).trans hx4
        replace hx5 := (HB.out.cell (World.block_lt_of_cell? w _ hx5)).trans hx5
        replace hx6 := (HB.out.cell (World.block_lt_of_cell? w _ hx6)).trans hx6
        simp only [Int.toNat_natCast] at hx0 hx1 hx2 hx3 hx4 hx5 hx6
        have HR6 := Aside0.mk (Kd.C_below hi6 HB.out)
        have HL6 := Aside0.mk hl6
        have HE := Aside0.mk (rdT l i hlt)
        have HI := Aside0.mk hlt
        clear hl6 hi6 hi
        go_wp2_with fail
        refine (note_calls g v (l.take i) (rd_T56 l (i : Int)) A6 c6 w wr HLG.out HB.out HR6.out HL6.out (by rw [List.length_take]; have := HS.out.1; omega) (by rw [HE.out]; exact Nat.le_trans (HS.out.at i HI.out) (by decide))).mono ?_
        rintro e W3 ⟨rfl, ⟨v', hl'⟩, hb'⟩
        rw [HE.out, ← List.take_succ_eq_append_getElem HI.out] at hl'
        have HLG' := Aside0.mk hl'
        have HB' := Aside0.mk hb'
        clear hl' hb' hx0 hx1 hx2 hx3 hx4 hx5 hx6
        go_wp2
        go_roundw
        case rel => exact ⟨i + 1, HI.out, by rw [ws (by have := HI.out; have := HS.out.1; omega)], ⟨v', HLG'⟩, HB'⟩
        case measure =>
          have h1 := HI.out
          have h2 := HS.out.1
          rw [ws (by omega)]
          simp only [intOf, Int.toNat_natCast]
          omega
      · have t3 : decide ((i : Int) < (l.length : Int)) = false := decide_eq_false (by omega)
        have t3' : decide (i < l.length) = false := decide_eq_false hlt
        obtain rfl : i = l.length := by omega
        rw [List.take_length] at HLG
        clear hlt hi
        rename World => W
        go_wp2_with fail
        have hm2 : (if (l.length : Int) < (if n < 0 then 0 else n) then (l.length : Int) else if n < 0 then 0 else n) = (m : Int) := HM.out
        have hml := HML.out
        refine start_ (n := 26) (S := fun _ => True) (ds := []) #[false, false, false, false, false, false, false, false, false, false, false, false, false, false, false, false, false, false, false, false, false, false, false, false, false, false] (by kernel_rfl) rfl rfl trivial (fun hHeld => ?_)
        have HL1 := Aside0.mk (HLG.out.below (below_drew (Below.refl _ _)))
        have HB1 := Aside0.mk (below_drew1 HB.out)
        clear HLG HB
        generalize W.drew = W1 at HL1 HB1 ⊢
        refine pure_ (i := 0) (N := some 50) (v := ?_) (a' := ?_) #[true, false, false, false, false, false, false, false, false, false, false, false, false, false, false, false, false, false, false, false, false, false, false, false, false, false] rfl rfl (by kernel_rfl) (fun _ _ _ h => h) (Or.inl ⟨by rfl, ?_⟩) ?_ ?_
        rotate_left
        · intro w'
          go_simp
          with_reducible rfl
        rotate_left
        · simp only [Act.put, List.setIfInBounds_toArray, List.set_cons_zero, List.set_cons_succ, i64_w, i32_w]
          rfl
        refine pure_ (i := 2) (N := some 52) (v := ?_) (a' := ?_) #[true, false, true, false, false, false, false, false, false, false, false, false, false, false, false, false, false, false, false, false, false, false, false, false, false, false] rfl rfl (by kernel_rfl) (fun _ _ _ h => h) (Or.inl ⟨by rfl, ?_⟩) ?_ ?_
        rotate_left
        · intro w'
          go_simp
          with_reducible rfl
        rotate_left
        · simp only [Act.put, List.setIfInBounds_toArray, List.set_cons_zero, List.set_cons_succ, i64_w, i32_w]
          rfl
        refine pure_ (i := 3) (N := some 53) (v := ?_) (a' := ?_) #[true, false, true, true, false, false, false, false, false, false, false, false, false, false, false, false, false, false, false, false, false, false, false, false, false, false] rfl rfl (by kernel_rfl) (fun _ _ _ h => h) (Or.inl ⟨by rfl, ?_⟩) ?_ ?_
        rotate_left
        · intro w'
          go_simp
          with_reducible rfl
        rotate_left
        · simp only [Act.put, List.setIfInBounds_toArray, List.set_cons_zero, List.set_cons_succ, i64_w, i32_w]
          rfl
        refine one_ (i := 1) (N := some 51) #[true, true, true, true, false, false, false, false, false, false, false, false, false, false, false, false, false, false, false, false, false, false, false, false, false, false] rfl rfl (by kernel_rfl) (by decide) (fun K hK => ?_)
        refine goes_ Try.func40 (by kernel_rfl) rfl #[.pointer (some ⟨g, 0, none⟩)] (by rfl) rfl rfl (by (try simp only [List.map_toArray, List.map_cons, List.map_nil]); first | done | rfl | (simp only [List.length_drop]; rfl)) ?_
        with_reducible refine (len_calls _ g v l _ HL1.out).mono ?_
        rintro e w' ⟨rfl, rfl⟩
        refine ⟨_, rfl, ?_⟩
        refine hK.out _ _ trivial (fun hHeld => ?_)
        clear hK K
        refine norm_ (a' := ?_) ?_ ?_
        rotate_left
        · show Act.put _ (some 51) _ = _
          simp only [Act.put, List.setIfInBounds_toArray, List.set_cons_zero, List.set_cons_succ, i64_w, i32_w]
          rfl
        refine pure_ (i := 4) (N := some 54) (v := ?_) (a' := ?_) #[true, true, true, true, true, false, false, false, false, false, false, false, false, false, false, false, false, false, false, false, false, false, false, false, false, false] rfl rfl (by kernel_rfl) (fun _ _ _ h => h) (Or.inl ⟨by rfl, ?_⟩) ?_ ?_
        rotate_left
        · intro w'
          go_simp
          with_reducible rfl
        rotate_left
        · simp only [Act.put, List.setIfInBounds_toArray, List.set_cons_zero, List.set_cons_succ, i64_w, i32_w]
          rfl
        refine pure_ (i := 5) (N := some 55) (v := ?_) (a' := ?_) #[true, true, true, true, true, true, false, false, false, false, false, false, false, false, false, false, false, false, false, false, false, false, false, false, false, false] rfl rfl (by kernel_rfl) (fun _ _ _ h => h) (Or.inl ⟨by rfl, ?_⟩) ?_ ?_
        rotate_left
        · intro w'
          go_simp
          with_reducible rfl
        rotate_left
        · simp only [Act.put, List.setIfInBounds_toArray, List.set_cons_zero, List.set_cons_succ, i64_w, i32_w]
          rfl
        refine pure_ (i := 6) (N := some 56) (v := ?_) (a' := ?_) #[true, true, true, true, true, true, true, false, false, false, false, false, false, false, false, false, false, false, false, false, false, false, false, false, false, false] rfl rfl (by kernel_rfl) (fun _ _ _ h => h) (Or.inl ⟨by rfl, ?_⟩) ?_ ?_
        rotate_left
        · intro w'
          go_simp
          with_reducible rfl
        rotate_left
        · simp only [Act.put, List.setIfInBounds_toArray, List.set_cons_zero, List.set_cons_succ, i64_w, i32_w]
          rfl
        refine pure_ (i := 7) (N := some 57) (v := ?_) (a' := ?_) #[true, true, true, true, true, true, true, true, false, false, false, false, false, false, false, false, false, false, false, false, false, false, false, false, false, false] rfl rfl (by kernel_rfl) (fun _ _ _ h => h) (Or.inl ⟨by rfl, ?_⟩) ?_ ?_
        rotate_left
        · intro w'
          go_simp
          with_reducible rfl
        rotate_left
        · simp only [Act.put, List.setIfInBounds_toArray, List.set_cons_zero, List.set_cons_succ, i64_w, i32_w]
          rfl
        refine pure_ (i := 9) (N := some 59) (v := ?_) (a' := ?_) #[true, true, true, true, true, true, true, true, false, true, false, false, false, false, false, false, false, false, false, false, false, false, false, false, false, false] rfl rfl (by kernel_rfl) (fun _ _ _ h => h) (Or.inl ⟨by rfl, ?_⟩) ?_ ?_
        rotate_left
        · intro w'
          go_simp
          with_reducible rfl
        rotate_left
        · simp only [Act.put, List.setIfInBounds_toArray, List.set_cons_zero, List.set_cons_succ, i64_w, i32_w]
          rfl
        refine pure_ (i := 10) (N := some 60) (v := ?_) (a' := ?_) #[true, true, true, true, true, true, true, true, false, true, true, false, false, false, false, false, false, false, false, false, false, false, false, false, false, false] rfl rfl (by kernel_rfl) (fun _ _ _ h => h) (Or.inl ⟨by rfl, ?_⟩) ?_ ?_
        rotate_left
        · intro w'
          go_simp
          with_reducible rfl
        rotate_left
        · simp only [Act.put, List.setIfInBounds_toArray, List.set_cons_zero, List.set_cons_succ, i64_w, i32_w]
          rfl
        refine pure_ (i := 11) (N := some 61) (v := ?_) (a' := ?_) #[true, true, true, true, true, true, true, true, false, true, true, true, false, false, false, false, false, false, false, false, false, false, false, false, false, false] rfl rfl (by kernel_rfl) (fun _ _ _ h => h) (Or.inl ⟨by rfl, ?_⟩) ?_ ?_
        rotate_left
        · intro w'
          go_simp
          with_reducible rfl
        rotate_left
        · simp only [Act.put, List.setIfInBounds_toArray, List.set_cons_zero, List.set_cons_succ, i64_w, i32_w]
          rfl
        refine pure_ (i := 12) (N := some 62) (v := ?_) (a' := ?_) #[true, true, true, true, true, true, true, true, false, true, true, true, true, false, false, false, false, false, false, false, false, false, false, false, false, false] rfl rfl (by kernel_rfl) (fun _ _ _ h => h) (Or.inl ⟨by rfl, ?_⟩) ?_ ?_
        rotate_left
        · intro w'
          go_simp
          with_reducible rfl
        rotate_left
        · simp only [Act.put, List.setIfInBounds_toArray, List.set_cons_zero, List.set_cons_succ, i64_w, i32_w]
          rfl
        refine pure_ (i := 13) (N := some 63) (v := ?_) (a' := ?_) #[true, true, true, true, true, true, true, true, false, true, true, true, true, true, false, false, false, false, false, false, false, false, false, false, false, false] rfl rfl (by kernel_rfl) (fun _ _ _ h => h) (Or.inl ⟨by rfl, ?_⟩) ?_ ?_
        rotate_left
        · intro w'
          go_simp
          with_reducible rfl
        rotate_left
        · simp only [Act.put, List.setIfInBounds_toArray, List.set_cons_zero, List.set_cons_succ, i64_w, i32_w]
          rfl
        refine pure_ (i := 14) (N := some 64) (v := ?_) (a' := ?_) #[true, true, true, true, true, true, true, true, false, true, true, true, true, true, true, false, false, false, false, false, false, false, false, false, false, false] rfl rfl (by kernel_rfl) (fun _ _ _ h => h) (Or.inl ⟨by rfl, ?_⟩) ?_ ?_
        rotate_left
        · intro w'
          go_simp
          with_reducible rfl
        rotate_left
        · simp only [Act.put, List.setIfInBounds_toArray, List.set_cons_zero, List.set_cons_succ, i64_w, i32_w]
          rfl
        refine pure_ (i := 15) (N := some 65) (v := ?_) (a' := ?_) #[true, true, true, true, true, true, true, true, false, true, true, true, true, true, true, true, false, false, false, false, false, false, false, false, false, false] rfl rfl (by kernel_rfl) (fun _ _ _ h => h) (Or.inl ⟨by rfl, ?_⟩) ?_ ?_
        rotate_left
        · intro w'
          go_simp
          with_reducible rfl
        rotate_left
        · simp only [Act.put, List.setIfInBounds_toArray, List.set_cons_zero, List.set_cons_succ, i64_w, i32_w]
          rfl
        refine one_ (i := 8) (N := some 58) #[true, true, true, true, true, true, true, true, true, true, true, true, true, true, true, true, false, false, false, false, false, false, false, false, false, false] rfl rfl (by kernel_rfl) (by decide) (fun K hK => ?_)
        refine goes_ Try.func41 (by kernel_rfl) rfl #[.pointer (some ⟨g, 0, none⟩), .int .i64 n] (by rfl) rfl rfl (by (try simp only [List.map_toArray, List.map_cons, List.map_nil]); first | done | rfl | (simp only [List.length_drop]; rfl)) ?_
        with_reducible refine (from_calls 1000 _ g v l n m _ HL1.out HM.out HML.out HCD.out).mono ?_
        rintro e W2 ⟨A2, C2, rfl, h21, h22, hb2⟩
        refine ⟨_, rfl, ?_⟩
        have HL2 := Aside0.mk (HL1.out.below hb2)
        have HB2 := Aside0.mk (below_step HB1.out hb2)
        have HD2 := Aside0.mk (show Kd.C k56 W2 (if c = m then A else A.map (·.add (m * 7))) (l.drop m).length (l.drop m) from Kd.C_drop (Kd.C_below HC.out HB2.out) HML.out Hc.out)
        have H22 := Aside0.mk h22
        have H21 := Aside0.mk h21
        clear HL1 HB1 h22 h21 hb2
        refine hK.out _ _ trivial (fun hHeld => ?_)
        clear hK K
        refine norm_ (a' := ?_) ?_ ?_
        rotate_left
        · show Act.put _ (some 58) _ = _
          simp only [Act.put, List.setIfInBounds_toArray, List.set_cons_zero, List.set_cons_succ, i64_w, i32_w]
          rfl
        refine one_ (i := 16) (N := some 66) #[true, true, true, true, true, true, true, true, true, true, true, true, true, true, true, true, true, false, false, false, false, false, false, false, false, false] rfl rfl (by kernel_rfl) (by decide) (fun K hK => ?_)
        refine goes_ Try.func44 (by kernel_rfl) rfl #[.slice A2 (l.drop m).length C2, .slice (if c = m then A else A.map (·.add (m * 7))) (l.drop m).length (c - m)] (by rfl) rfl rfl (by (try simp only [List.map_toArray, List.map_cons, List.map_nil]); first | done | rfl | (simp only [List.length_drop]; rfl)) ?_
        with_reducible refine (sakiaref15_Same.calls 30000 A2 C2 (l.drop m) (if c = m then A else A.map (·.add (m * 7))) (c - m) (l.drop m) true _ H22.out H21.out HD2.out HDC.out (rself_ok _ HFD.out 30000 (Nat.le_refl _))).mono ?_
        rintro e W3 ⟨rfl, hb3⟩
        refine ⟨_, rfl, ?_⟩
        have HL3 := Aside0.mk (HL2.out.below hb3)
        have HB3 := Aside0.mk (below_step HB2.out hb3)
        clear HL2 HB2 HD2 H22 H21 hb3
        refine hK.out _ _ trivial (fun hHeld => ?_)
        clear hK K
        refine norm_ (a' := ?_) ?_ ?_
        rotate_left
        · show Act.put _ (some 66) _ = _
          simp only [Act.put, List.setIfInBounds_toArray, List.set_cons_zero, List.set_cons_succ, i64_w, i32_w]
          rfl
        refine pure_ (i := 17) (N := some 67) (v := ?_) (a' := ?_) #[true, true, true, true, true, true, true, true, true, true, true, true, true, true, true, true, true, true, false, false, false, false, false, false, false, false] rfl rfl (by kernel_rfl) (fun _ _ _ h => h) (Or.inl ⟨by rfl, ?_⟩) ?_ ?_
        rotate_left
        · intro w'
          go_simp
          with_reducible rfl
        rotate_left
        · simp only [Act.put, List.setIfInBounds_toArray, List.set_cons_zero, List.set_cons_succ, i64_w, i32_w]
          rfl
        refine pure_ (i := 18) (N := some 68) (v := ?_) (a' := ?_) #[true, true, true, true, true, true, true, true, true, true, true, true, true, true, true, true, true, true, true, false, false, false, false, false, false, false] rfl rfl (by kernel_rfl) (fun _ _ _ h => h) (Or.inl ⟨by rfl, ?_⟩) ?_ ?_
        rotate_left
        · intro w'
          go_simp
          with_reducible rfl
        rotate_left
        · simp only [Act.put, List.setIfInBounds_toArray, List.set_cons_zero, List.set_cons_succ, i64_w, i32_w]
          rfl
        refine pure_ (i := 19) (N := some 69) (v := ?_) (a' := ?_) #[true, true, true, true, true, true, true, true, true, true, true, true, true, true, true, true, true, true, true, true, false, false, false, false, false, false] rfl rfl (by kernel_rfl) (fun _ _ _ h => h) (Or.inl ⟨by rfl, ?_⟩) ?_ ?_
        rotate_left
        · intro w'
          go_simp
          with_reducible rfl
        rotate_left
        · simp only [Act.put, List.setIfInBounds_toArray, List.set_cons_zero, List.set_cons_succ, i64_w, i32_w]
          rfl
        refine pure_ (i := 20) (N := some 70) (v := ?_) (a' := ?_) #[true, true, true, true, true, true, true, true, true, true, true, true, true, true, true, true, true, true, true, true, true, false, false, false, false, false] rfl rfl (by kernel_rfl) (fun _ _ _ h => h) (Or.inl ⟨by rfl, ?_⟩) ?_ ?_
        rotate_left
        · intro w'
          go_simp
          with_reducible rfl
        rotate_left
        · simp only [Act.put, List.setIfInBounds_toArray, List.set_cons_zero, List.set_cons_succ, i64_w, i32_w]
          rfl
        refine pure_ (i := 22) (N := some 72) (v := ?_) (a' := ?_) #[true, true, true, true, true, true, true, true, true, true, true, true, true, true, true, true, true, true, true, true, true, false, true, false, false, false] rfl rfl (by kernel_rfl) (fun _ _ _ h => h) (Or.inl ⟨by rfl, ?_⟩) ?_ ?_
        rotate_left
        · intro w'
          go_simp
          with_reducible rfl
        rotate_left
        · simp only [Act.put, List.setIfInBounds_toArray, List.set_cons_zero, List.set_cons_succ, i64_w, i32_w]
          rfl
        refine one_ (i := 21) (N := some 71) #[true, true, true, true, true, true, true, true, true, true, true, true, true, true, true, true, true, true, true, true, true, true, true, false, false, false] rfl rfl (by kernel_rfl) (by decide) (fun K hK => ?_)
        refine goes_ Try.func41 (by kernel_rfl) rfl #[.pointer (some ⟨g, 0, none⟩), .int .i64 (-1)] (by rfl) rfl rfl (by (try simp only [List.map_toArray, List.map_cons, List.map_nil]); first | done | rfl | (simp only [List.length_drop]; rfl)) ?_
        with_reducible refine (from_calls 1000 _ g v l (-1) 0 _ HL3.out HM1.out (Nat.zero_le _) HCL.out).mono ?_
        rintro e W4 ⟨A4, C4, rfl, h41, h42, hb4⟩
        refine ⟨_, rfl, ?_⟩
        have HL4 := Aside0.mk (HL3.out.below hb4)
        have HB4 := Aside0.mk (below_step HB3.out hb4)
        simp only [List.drop_zero] at h41 h42
        have H42 := Aside0.mk h42
        have H41 := Aside0.mk h41
        have HC4 := Aside0.mk (Kd.C_below HC.out HB4.out)
        clear HL3 HB3 h42 h41 hb4
        refine hK.out _ _ trivial (fun hHeld => ?_)
        clear hK K
        refine norm_ (a' := ?_) ?_ ?_
        rotate_left
        · show Act.put _ (some 71) _ = _
          simp only [Act.put, List.setIfInBounds_toArray, List.set_cons_zero, List.set_cons_succ, i64_w, i32_w]
          rfl
        refine one_ (i := 23) (N := some 73) #[true, true, true, true, true, true, true, true, true, true, true, true, true, true, true, true, true, true, true, true, true, true, true, true, false, false] rfl rfl (by kernel_rfl) (by decide) (fun K hK => ?_)
        refine goes_ Try.func44 (by kernel_rfl) rfl #[.slice A4 l.length C4, .slice A l.length c] (by rfl) rfl rfl (by (try simp only [List.map_toArray, List.map_cons, List.map_nil]); first | done | rfl | (simp only [List.length_drop]; rfl)) ?_
        with_reducible refine (sakiaref15_Same.calls 30000 A4 C4 l A c l true _ H42.out H41.out HC4.out Hc.out (rself_ok _ HFL.out 30000 (Nat.le_refl _))).mono ?_
        rintro e W5 ⟨rfl, hb5⟩
        refine ⟨_, rfl, ?_⟩
        have HL5 := Aside0.mk (HL4.out.below hb5)
        have HB5 := Aside0.mk (below_step HB4.out hb5)
        clear HL4 HB4 HC4 H42 H41 hb5
        refine hK.out _ _ trivial (fun hHeld => ?_)
        clear hK K
        refine norm_ (a' := ?_) ?_ ?_
        rotate_left
        · show Act.put _ (some 73) _ = _
          simp only [Act.put, List.setIfInBounds_toArray, List.set_cons_zero, List.set_cons_succ, i64_w, i32_w]
          rfl
        refine pure_ (i := 24) (N := some 74) (v := ?_) (a' := ?_) #[true, true, true, true, true, true, true, true, true, true, true, true, true, true, true, true, true, true, true, true, true, true, true, true, true, false] rfl rfl (by kernel_rfl) (fun _ _ _ h => h) (Or.inl ⟨by rfl, ?_⟩) ?_ ?_
        rotate_left
        · intro w'
          go_simp
          with_reducible rfl
        rotate_left
        · simp only [Act.put, List.setIfInBounds_toArray, List.set_cons_zero, List.set_cons_succ, i64_w, i32_w]
          rfl
        refine pure_ (i := 25) (N := some 75) (v := ?_) (a' := ?_) #[true, true, true, true, true, true, true, true, true, true, true, true, true, true, true, true, true, true, true, true, true, true, true, true, true, true] rfl rfl (by kernel_rfl) (fun _ _ _ h => h) (Or.inl ⟨by rfl, ?_⟩) ?_ ?_
        rotate_left
        · intro w'
          go_simp
          with_reducible rfl
        rotate_left
        · simp only [Act.put, List.setIfInBounds_toArray, List.set_cons_zero, List.set_cons_succ, i64_w, i32_w]
          rfl
        refine done_ (by kernel_rfl) ?_
        clear hm2 hml t3 t3'
        generalize (if c = m then A else Option.map (fun x => x.add (m * 7)) A) = AA
        generalize (if n < 0 then 0 else n) = nn
        by_cases h0 : 0 ≤ n
        · by_cases h1 : n < (l.length : Int)
          · skip
            have HN0 := Aside0.mk h0
            have HN1 := Aside0.mk h1
            have t80 : decide (0 ≤ n) = true := decide_eq_true h0
            have t85 : decide (n < (l.length : Int)) = true := decide_eq_true h1
            go_wp2_with (((with_reducible refine gate_builtin (b := .append) (xs := #[.tmp 76, .tmp 77]) rfl ?_); at_builtin; refine Kd.N_append_rows k56 (w0 := w) w.heap.size rfl (.tmp 76) (.tmp 77) 49 56 (.agg #[(.int .i64 0), (.int .i64 0), (.int .i64 0), (.int .i64 0), (.int .u64 0), (.int .i64 0), (.slice none 0 0)]) 72 rfl Try.underlying49 info56 rfl (by decide) (by omega) (.slice none 0 0) ([] : List S56) l A l.length c (fun k => k < w.heap.size ∨ W5.heap.size ≤ k) (fun k => k < w.heap.size) rfl rfl ?aO ?aR ?aP ?aF ?aB ?aS ?aL ?_; (case aO => exact Kd.N_nil _ _ _ _ _); (case aR => exact F_old k56_heap HC.out (by first | exact HB5.out | exact below_drew1 HB5.out)); (case aP => exact fun k hk => ⟨.inl hk, by simp [Value.ownBlock]⟩); (case aF => exact fun k hk => .inr hk); (case aB => first | exact HB5.out | exact below_drew1 HB5.out); (case aS => exact HB5.out.size); (case aL => have := HS.out.1; simp; omega); intro v6 w6 ho6 hb6 hg6 hat6; rw [List.nil_append] at ho6; have HO6 := Aside0.mk ho6; have HB6 := Aside0.mk hb6; have HK6 := Aside0.mk (show ∀ k, k < W5.heap.size → w6.heap[k]? = W5.heap[k]? from fun k hk => hg6.block k hk (by simp [Value.ownBlock])); have HA6 := Aside0.mk hat6; clear ho6 hb6 hg6 hat6; obtain ⟨gw, C6, rfl, hgw, hgl, cl6, hcl6⟩ := Kd.N_form HO6.out (by have := HN1.out; have := HN0.out; omega); have HGW := Aside0.mk (show W5.heap.size ≤ gw by rcases HA6.out with h | ⟨b, h, hb⟩; (simp [Value.ownBlock] at h); (simp [Value.ownBlock] at h; subst h; exact hb)); clear hgw hgl hcl6; obtain ⟨ce, hcl, hMe, hcc, hfr⟩ := Kd.N_elem HO6.out z56 n HN0.out HN1.out; obtain ⟨ua, uc, rfl, hul, hug⟩ := k56_openF hMe; have hs6 : w6.cell? ⟨gw, n.toNat * 7 + 6, none⟩ = some (.slice ua _ uc) := hcc 6 _ rfl; have hf6 : w6.frozen? ⟨gw, n.toNat * 7 + 6, none⟩ = false := hfr 6; have HSEG := Aside0.mk (Kd.N_seg (okp := fun k => k < w.heap.size) (seg := [.slice B ks.length d]) (j := 6) (x' := filled (rd_T56 l n) ks) HO6.out n HN0.out HN1.out hcl hcc (show 7 ≤ 7 from by decide) (k56_mkF _ _ (filled (rd_T56 l n) ks) Hd.out (F_old (Kd.heap_int .i64) HD.out HB6.out)) (fun k hk => ⟨.inl hk, by have := HGW.out; have := HB5.out.size; omega⟩)); clear hcl hcc hfr hMe hul hug))
            clear hs6 hf6
            obtain ⟨w7, hw7⟩ : ∃ w7, w7 = w6.setCell ⟨gw, n.toNat * 7 + 6, none⟩ (.slice B ks.length d) := ⟨_, rfl⟩
            have HO7 := Aside0.mk (show Kd.N k56 56 w7 w.heap.size (fun k => k < w.heap.size ∨ W5.heap.size ≤ k) (.slice (some ⟨gw, 0, none⟩) l.length C6) (l.set n.toNat (filled (rd_T56 l n) ks)) by rw [hw7]; exact HSEG.out.1)
            have HB7 := Aside0.mk (show Below w.heap.size w w7 by rw [hw7]; exact below_set HB6.out (Nat.le_trans HB5.out.size HGW.out))
            have HL7 := Aside0.mk (show LogAt w.heap.size w7 g v l from HL5.out.old (fun k hk => by rw [hw7]; exact (Below.heap_setCell w6 _ _ k (by have := HGW.out; simp only; omega)).trans (HK6.out k hk)))
            rw [← hw7]
            clear hw7 HSEG HO6 HK6 HA6 HB6
            refine (fill_in g v l n B d ks w w7 HL7.out HB7.out (Kd.C_below HD.out HB7.out) Hd.out HN0.out HN1.out (by have := HKL.out; omega)).mono ?_
            rintro e w8 ⟨rfl, hl8, hb8, hk8⟩
            have HO8 := Aside0.mk (Kd.N_step HO7.out (fun k ho hlt => hk8 k hlt (fun e => by have h1 := Kd.S_base HL5.out.own k e.symm; obtain ⟨cs, h2⟩ := Kd.S_typed HL5.out.own k e.symm; have h3 := blk_lt h2; omega)))
            obtain ⟨l2, hl2⟩ : ∃ l2, l2 = l.set n.toNat (filled (rd_T56 l n) ks) := ⟨_, rfl⟩
            have hlen : l2.length = l.length := by rw [hl2, List.length_set]
            have HS2 := Aside0.mk (show Small l2 by rw [hl2]; exact HS.out.set _ _ HKL.out)
            rw [← hl2] at hl8 HO8
            have HL8 := Aside0.mk hl8
            have HB8 := Aside0.mk hb8
            have HR8 := Aside0.mk (Kd.N_reads' HO8.out).2.2
            have HC8 := Aside0.mk (Kd.N_reads' HO8.out).2.1
            have HLE := Aside0.mk hlen
            clear hl8 hb8 hlen hl2 hk8
            go_wp2_with fail
            refine (from_calls 1000 _ g v l2 0 0 _ HL8.out (by unfold mn mx; split <;> split <;> omega) (Nat.zero_le _) (copy_ok (l2.drop 0) (HS2.out.drop 0) 1000 (Nat.le_refl _))).mono ?_
            rintro e w9 ⟨A9, C9, rfl, h91, h92, hb9⟩
            simp only [List.drop_zero] at h91 h92 ⊢
            have HB9 := Aside0.mk (below_step HB8.out hb9)
            have HSAME := Aside0.mk (sakiaref15_Same.calls 30000 A9 C9 l2 (some ⟨gw, 0, none⟩) C6 l2 true w9 h92 h91 (Kd.C_below HR8.out hb9) (by first | exact HC8.out | (rw [HLE.out]; exact HC8.out)) (rself_ok _ HS2.out.fit 30000 (Nat.le_refl _)))
            rw [HLE.out] at HSAME ⊢
            clear h91 h92 hb9
            go_wp2_with fail
            refine HSAME.out.mono ?_
            rintro e w10 ⟨rfl, hb10⟩
            have HB10 := Aside0.mk (below_step HB9.out hb10)
            clear hb10 HSAME
            go_wp2_with (go_at_call 37; refine (live15 _).mono ?_; rintro e w2 ⟨rfl, hb2⟩; have HB11 := Aside0.mk (below_step HB10.out hb2); clear hb2)
            go_ret
            exact ⟨rfl, HB11.out⟩
          · skip
            have t80 : decide (0 ≤ n) = true := decide_eq_true h0
            have t85 : decide (n < (l.length : Int)) = false := decide_eq_false h1
            have HOUT := Aside0.mk (show n < 0 ∨ (l.length : Int) ≤ n by omega)
            clear h0 h1
            go_wp2_with (((with_reducible refine gate_builtin (b := .append) (xs := #[.tmp 76, .tmp 77]) rfl ?_); at_builtin; refine Kd.N_append_rows k56 (w0 := w) w.heap.size rfl (.tmp 76) (.tmp 77) 49 56 (.agg #[(.int .i64 0), (.int .i64 0), (.int .i64 0), (.int .i64 0), (.int .u64 0), (.int .i64 0), (.slice none 0 0)]) 72 rfl Try.underlying49 info56 rfl (by decide) (by omega) (.slice none 0 0) ([] : List S56) l A l.length c (fun k => k < w.heap.size ∨ W5.heap.size ≤ k) (fun k => k < w.heap.size) rfl rfl ?aO ?aR ?aP ?aF ?aB ?aS ?aL ?_; (case aO => exact Kd.N_nil _ _ _ _ _); (case aR => exact F_old k56_heap HC.out (by first | exact HB5.out | exact below_drew1 HB5.out)); (case aP => exact fun k hk => ⟨.inl hk, by simp [Value.ownBlock]⟩); (case aF => exact fun k hk => .inr hk); (case aB => first | exact HB5.out | exact below_drew1 HB5.out); (case aS => exact HB5.out.size); (case aL => have := HS.out.1; simp; omega); intro v6 w6 ho6 hb6 hg6 hat6; rw [List.nil_append] at ho6; have HO6 := Aside0.mk ho6; have HB6 := Aside0.mk hb6; have HK6 := Aside0.mk (show ∀ k, k < W5.heap.size → w6.heap[k]? = W5.heap[k]? from fun k hk => hg6.block k hk (by simp [Value.ownBlock])); have HA6 := Aside0.mk hat6; clear ho6 hb6 hg6 hat6))
            have HL7 := Aside0.mk (HL5.out.old HK6.out)
            clear HK6 HA6
            obtain ⟨A6, C6, rfl⟩ := Kd.N_slice HO6.out
            refine (fill_out _ g v l n _ w6 HL7.out HOUT.out).mono ?_
            rintro e w' ⟨rfl, rfl⟩
            have hl8 := HL7.out
            have hb8 := HB6.out
            obtain ⟨l2, hl2⟩ : ∃ l2, l2 = l := ⟨_, rfl⟩
            have hlen : l2.length = l.length := by rw [hl2]
            have HS2 := Aside0.mk (show Small l2 by rw [hl2]; exact HS.out)
            have HO8 := HO6
            rw [← hl2] at hl8 HO8
            have HL8 := Aside0.mk hl8
            have HB8 := Aside0.mk hb8
            have HR8 := Aside0.mk (Kd.N_reads' HO8.out).2.2
            have HC8 := Aside0.mk (Kd.N_reads' HO8.out).2.1
            have HLE := Aside0.mk hlen
            clear hl8 hb8 hlen hl2
            go_wp2_with fail
            refine (from_calls 1000 _ g v l2 0 0 _ HL8.out (by unfold mn mx; split <;> split <;> omega) (Nat.zero_le _) (copy_ok (l2.drop 0) (HS2.out.drop 0) 1000 (Nat.le_refl _))).mono ?_
            rintro e w9 ⟨A9, C9, rfl, h91, h92, hb9⟩
            simp only [List.drop_zero] at h91 h92 ⊢
            have HB9 := Aside0.mk (below_step HB8.out hb9)
            have HSAME := Aside0.mk (sakiaref15_Same.calls 30000 A9 C9 l2 A6 C6 l2 true w9 h92 h91 (Kd.C_below HR8.out hb9) (by first | exact HC8.out | (rw [HLE.out]; exact HC8.out)) (rself_ok _ HS2.out.fit 30000 (Nat.le_refl _)))
            rw [HLE.out] at HSAME ⊢
            clear h91 h92 hb9
            go_wp2_with fail
            refine HSAME.out.mono ?_
            rintro e w10 ⟨rfl, hb10⟩
            have HB10 := Aside0.mk (below_step HB9.out hb10)
            clear hb10 HSAME
            go_wp2_with (go_at_call 37; refine (live15 _).mono ?_; rintro e w2 ⟨rfl, hb2⟩; have HB11 := Aside0.mk (below_step HB10.out hb2); clear hb2)
            go_ret
            exact ⟨rfl, HB11.out⟩
        · skip
          have t80 : decide (0 ≤ n) = false := decide_eq_false h0
          have HOUT := Aside0.mk (show n < 0 ∨ (l.length : Int) ≤ n by omega)
          clear h0
          go_wp2_with (((with_reducible refine gate_builtin (b := .append) (xs := #[.tmp 76, .tmp 77]) rfl ?_); at_builtin; refine Kd.N_append_rows k56 (w0 := w) w.heap.size rfl (.tmp 76) (.tmp 77) 49 56 (.agg #[(.int .i64 0), (.int .i64 0), (.int .i64 0), (.int .i64 0), (.int .u64 0), (.int .i64 0), (.slice none 0 0)]) 72 rfl Try.underlying49 info56 rfl (by decide) (by omega) (.slice none 0 0) ([] : List S56) l A l.length c (fun k => k < w.heap.size ∨ W5.heap.size ≤ k) (fun k => k < w.heap.size) rfl rfl ?aO ?aR ?aP ?aF ?aB ?aS ?aL ?_; (case aO => exact Kd.N_nil _ _ _ _ _); (case aR => exact F_old k56_heap HC.out (by first | exact HB5.out | exact below_drew1 HB5.out)); (case aP => exact fun k hk => ⟨.inl hk, by simp [Value.ownBlock]⟩); (case aF => exact fun k hk => .inr hk); (case aB => first | exact HB5.out | exact below_drew1 HB5.out); (case aS => exact HB5.out.size); (case aL => have := HS.out.1; simp; omega); intro v6 w6 ho6 hb6 hg6 hat6; rw [List.nil_append] at ho6; have HO6 := Aside0.mk ho6; have HB6 := Aside0.mk hb6; have HK6 := Aside0.mk (show ∀ k, k < W5.heap.size → w6.heap[k]? = W5.heap[k]? from fun k hk => hg6.block k hk (by simp [Value.ownBlock])); have HA6 := Aside0.mk hat6; clear ho6 hb6 hg6 hat6))
          have HL7 := Aside0.mk (HL5.out.old HK6.out)
          clear HK6 HA6
          obtain ⟨A6, C6, rfl⟩ := Kd.N_slice HO6.out
          refine (fill_out _ g v l n _ w6 HL7.out HOUT.out).mono ?_
          rintro e w' ⟨rfl, rfl⟩
          have hl8 := HL7.out
          have hb8 := HB6.out
          obtain ⟨l2, hl2⟩ : ∃ l2, l2 = l := ⟨_, rfl⟩
          have hlen : l2.length = l.length := by rw [hl2]
          have HS2 := Aside0.mk (show Small l2 by rw [hl2]; exact HS.out)
          have HO8 := HO6
          rw [← hl2] at hl8 HO8
          have HL8 := Aside0.mk hl8
          have HB8 := Aside0.mk hb8
          have HR8 := Aside0.mk (Kd.N_reads' HO8.out).2.2
          have HC8 := Aside0.mk (Kd.N_reads' HO8.out).2.1
          have HLE := Aside0.mk hlen
          clear hl8 hb8 hlen hl2
          go_wp2_with fail
          refine (from_calls 1000 _ g v l2 0 0 _ HL8.out (by unfold mn mx; split <;> split <;> omega) (Nat.zero_le _) (copy_ok (l2.drop 0) (HS2.out.drop 0) 1000 (Nat.le_refl _))).mono ?_
          rintro e w9 ⟨A9, C9, rfl, h91, h92, hb9⟩
          simp only [List.drop_zero] at h91 h92 ⊢
          have HB9 := Aside0.mk (below_step HB8.out hb9)
          have HSAME := Aside0.mk (sakiaref15_Same.calls 30000 A9 C9 l2 A6 C6 l2 true w9 h92 h91 (Kd.C_below HR8.out hb9) (by first | exact HC8.out | (rw [HLE.out]; exact HC8.out)) (rself_ok _ HS2.out.fit 30000 (Nat.le_refl _)))
          rw [HLE.out] at HSAME ⊢
          clear h91 h92 hb9
          go_wp2_with fail
          refine HSAME.out.mono ?_
          rintro e w10 ⟨rfl, hb10⟩
          have HB10 := Aside0.mk (below_step HB9.out hb10)
          clear hb10 HSAME
          go_wp2_with (go_at_call 37; refine (live15 _).mono ?_; rintro e w2 ⟨rfl, hb2⟩; have HB11 := Aside0.mk (below_step HB10.out hb2); clear hb2)
          go_ret
          exact ⟨rfl, HB11.out⟩
end Go.Proofs.Ytjaiodlfgpndoaa.QEv
