/- The program's model: take. -/
import Derived.Test.YtnnfcdffnckoiaaDoorMoRows
set_option linter.unusedVariables false
set_option linter.unusedSimpArgs false
set_option maxRecDepth 100000
namespace Go.Proofs.YtnnfcdffnckoiaaDoor.Mo
open Go.RowKit Go.Proofs.YtnnfcdffnckoiaaDoorW.PrintWords Go.Proofs.YtnnfcdffnckoiaaDoorW.PrintLast Go.Proofs.YtnnfcdffnckoiaaDoorW.PrintMore
theorem MM.formH {base : Nat} {w : World} {B : Nat} {k : Mk} {cx : Cx} {st : St} (h : MM base w B k cx st) (j : Nat) (hj : j < cx.prod) : ∃ q, k.H = some ⟨q, 0, none⟩ ∧ base ≤ q ∧ (w.cell? ⟨q, j * 4, none⟩ = some (.int .i64 (held st j).f) ∧ w.cell? ⟨q, j * 4 + 1, none⟩ = some (.int .i64 (held st j).n) ∧ w.cell? ⟨q, j * 4 + 2, none⟩ = some (.int .i64 (held st j).p) ∧ w.cell? ⟨q, j * 4 + 3, none⟩ = some (.bool (held st j).g)) ∧ ∀ i, w.frozen? ⟨q, i, none⟩ = false := by
  have hl : j < (st.held.map hcl).length := by rw [List.length_map, h.r.wf.lh]; exact hj
  obtain ⟨q, cap, hv, hq, _, cells, hb⟩ := Kd.R_form h.x.h (by omega)
  injection hv with hA hn hc
  obtain ⟨ad, e1, a0, a1, a2, a3⟩ := held_at h.r j hj
  rw [hA] at e1
  injection e1 with e1
  subst e1
  rw [add_plain] at a0 a1 a2 a3
  exact ⟨q, hA, hq, ⟨a0, a1, a2, a3⟩, fun i => blk_frozen hb i⟩
/-- A producer holds something else. -/
theorem MM.putH {w0 w : World} {B : Nat} {k : Mk} {cx : Cx} {st : St} (h : MM w0.heap.size w B k cx st) (hb : Below w0.heap.size w0 w) {q : Nat} (eq : k.H = some ⟨q, 0, none⟩) (j : Nat) (hj : j < cx.prod) (v : Hd) :
    ∃ W, W = ((((w.setCell ⟨q, j * 4, none⟩ (.int .i64 v.f)).setCell ⟨q, j * 4 + 1, none⟩ (.int .i64 v.n)).setCell ⟨q, j * 4 + 2, none⟩ (.int .i64 v.p)).setCell ⟨q, j * 4 + 3, none⟩ (.bool v.g)) ∧
    MX w0.heap.size W B k cx { st with held := st.held.set j v } ∧ TK w0 w W k B ∧ W.heap[B]? = some (.cells (boxM k st) 100 (0, 0)) ∧ w.grownBy W (some q) := by
  refine ⟨_, rfl, ?_⟩
  have hx := h.x.h
  have hl : j < st.held.length := by rw [h.r.wf.lh]; exact hj
  have hn : k.hn = (st.held.map hcl).length := (Kd.R_reads' h.x.h).1
  rw [eq] at hx
  obtain ⟨c, hc1, hc2, hc3, _⟩ := Kd.R_elem hx [] (j : Int) (by omega) (by rw [hn, List.length_map]; omega)
  have hp := Kd.R_seg (okp := fun _ => False) hx (j : Int) (by omega) (by rw [hn, List.length_map]; omega) hc1 hc3 (seg := hcl v) (j := 0) (by show 0 + 4 ≤ 4; omega) (x' := hcl v) (by
    rw [show c.take 0 ++ hcl v ++ c.drop (0 + (hcl v).length) = hcl v by
      have h4 : c.length = 4 := hc1
      simp [hcl, h4]]
    refine ⟨rfl, rfl, fun u hu => ?_⟩
    simp only [hcl, List.mem_cons, List.not_mem_nil, or_false] at hu
    rcases hu with rfl | rfl | rfl | rfl <;> rfl) (fun _ h => h.elim)
  have hW : w.setCells q ((j : Int).toNat * (Kd.raw 4).sz + 0) (hcl v) = ((((w.setCell ⟨q, j * 4, none⟩ (.int .i64 v.f)).setCell ⟨q, j * 4 + 1, none⟩ (.int .i64 v.n)).setCell ⟨q, j * 4 + 2, none⟩ (.int .i64 v.p)).setCell ⟨q, j * 4 + 3, none⟩ (.bool v.g)) := rfl
  rw [hW] at hp
  have hown : (Value.slice k.H k.hn k.hc).ownBlock = some q := by rw [eq]; rfl
  have hm : (st.held.map hcl).set (j : Int).toNat (hcl v) = (st.held.set j v).map hcl := by rw [Int.toNat_natCast, List.map_set]
  rw [hm] at hp
  have hu := MX.updH h.x hp.1 (by rw [hown]; exact hp.2) (.inl (by rw [hown]; rfl))
  have e2 : ({ k with H := some ⟨q, 0, none⟩, hn := k.hn, hc := k.hc } : Mk) = k := by rw [← eq]
  rw [e2] at hu
  have hne := Kd.R_ne h.x.h h.r.blk (by decide)
  rw [hown] at hne
  have hB : ∀ i, (⟨q, i, none⟩ : Addr).block ≠ B := fun i e => hne (by rw [← e])
  have hq := Kd.R_base h.x.h q hown
  have ho : Own k B q ∨ w.heap.size ≤ q := .inl (own_H hown)
  refine ⟨hu.1, ((((TK.refl hb).set hq ho _ _).set hq ho _ _).set hq ho _ _).set hq ho _ _, ?_, hp.2⟩
  have hf : ∀ {W : World} (i : Nat) (u : Value), W.heap[B]? = some (.cells (boxM k st) 100 (0, 0)) → (W.setCell ⟨q, i, none⟩ u).heap[B]? = some (.cells (boxM k st) 100 (0, 0)) := fun i u hb => blk_far hb (p := ⟨q, i, none⟩) (fun e => hB i e.symm) u
  exact hf _ _ (hf _ _ (hf _ _ (hf _ _ h.r.blk)))
/-- While the model is written: its rows, its box, the event's box. -/
structure WS (w0 w W : World) (B : Nat) (k0 k : Mk) (cx : Cx) (st : St) (e : Ev) (Bd : Option Addr) (c : Nat) : Prop where
  x : MX w0.heap.size W B k cx st
  t : TK w0 w W k0 B
  b : W.heap[B]? = some (.cells (boxM k st) 100 (0, 0))
  y : W.heap[w.heap.size]? = some (.cells #[.int .i64 e.kind, .int .i64 e.thread, .int .i64 e.op, .int .i64 e.n, .int .u64 e.pos, .int .i64 e.code, .slice Bd e.data.length c] 44 (0, 0))
  n : ∀ q, Own k B q → Own k0 B q ∨ w.heap.size ≤ q
theorem WS.below {w0 w W W' : World} {B : Nat} {k0 k : Mk} {cx : Cx} {st : St} {e : Ev} {Bd : Option Addr} {c : Nat} (h : WS w0 w W B k0 k cx st e Bd c) (b : Below W.heap.size W W') : WS w0 w W' B k0 k cx st e Bd c :=
  ⟨h.x.below b, h.t.below b, blk_below h.b b, blk_below h.y b, h.n⟩
theorem MX.cong {base : Nat} {w : World} {B : Nat} {k : Mk} {cx : Cx} {st st' : St} (h : MX base w B k cx st) (e : st'.held = st.held ∧ st'.put = st.put ∧ st'.data = st.data ∧ st'.gate = st.gate ∧ st'.saw = st.saw) : MX base w B k cx st' := by
  obtain ⟨e1, e2, e3, e4, e5⟩ := e
  exact { h with h := e1 ▸ h.h, p := e2 ▸ h.p, d := e3 ▸ h.d, g := e4 ▸ h.g, s := e5 ▸ h.s }
/-- A number of the box is written. -/
theorem WS.box {w0 w W : World} {B : Nat} {k0 k : Mk} {cx : Cx} {st st' : St} {e : Ev} {Bd : Option Addr} {c : Nat} (h : WS w0 w W B k0 k cx st e Bd c) (j : Nat) (u : Value) (eb : (boxM k st).setIfInBounds j u = boxM k st') (es : st'.held = st.held ∧ st'.put = st.put ∧ st'.data = st.data ∧ st'.gate = st.gate ∧ st'.saw = st.saw) : WS w0 w (W.setCell ⟨B, j, none⟩ u) B k0 k cx st' e Bd c :=
  ⟨(h.x.setB j u).cong es, h.t.set h.x.bb (h.n B (own_B k B)) j u, blk_put h.b j u eb, blk_far h.y (p := ⟨B, j, none⟩) (blk_ne h.y h.b (by decide)) u, h.n⟩
/-- A row grew, and the box says where it lies now. -/
theorem WS.updP {w0 w W W1 : World} {B : Nat} {k0 k : Mk} {cx : Cx} {st : St} {e : Ev} {Bd : Option Addr} {c : Nat} (h : WS w0 w W B k0 k cx st e Bd c) {A : Option Addr} {n cc : Nat} {l : List Bool} (hr : Kd.bool.R 4 W1 w0.heap.size (fun _ => True) (.slice A n cc) l) (hg : W.grownBy W1 (Value.slice k.P k.pn k.pc).ownBlock) (hn : New W (.slice k.P k.pn k.pc) (.slice A n cc)) :
    WS w0 w (W1.setCell ⟨B, 12, none⟩ (.slice A n cc)) B k0 { k with P := A, pn := n, pc := cc } cx { st with put := l } e Bd c := by
  obtain ⟨hx, hw⟩ := MX.updP h.x hr hg hn
  have hown : ∀ q, (Value.slice k.P k.pn k.pc).ownBlock = some q → Own k0 B q ∨ w.heap.size ≤ q := fun q hq => h.n q (own_P hq)
  have ht := h.t.grown hg (fun q hq => Kd.R_base h.x.p q hq) hown
  have hb := blk_grown h.b hg (Kd.R_ne h.x.p h.b (by decide))
  have hy := blk_grown h.y hg (Kd.R_ne h.x.p h.y (by decide))
  have hB : Own k0 B B ∨ w.heap.size ≤ B := .inl (own_B k0 B)
  exact ⟨hx.setB 12 _, ht.set h.x.bb hB 12 _, blk_put hb 12 _ rfl, blk_far hy (p := ⟨B, 12, none⟩) (blk_ne hy hb (by decide)) _, fun q hq => by
    rcases hw q hq with h1 | h1
    · exact h.n q h1
    · exact .inr (Nat.le_trans h.t.s h1)⟩
/-- A row grew, and the box says where it lies now. -/
theorem WS.updD {w0 w W W1 : World} {B : Nat} {k0 k : Mk} {cx : Cx} {st : St} {e : Ev} {Bd : Option Addr} {c : Nat} (h : WS w0 w W B k0 k cx st e Bd c) {A : Option Addr} {n cc : Nat} {l : List Int} (hr : (Kd.int .i64).R 3 W1 w0.heap.size (fun _ => True) (.slice A n cc) l) (hg : W.grownBy W1 (Value.slice k.D k.dn k.dc).ownBlock) (hn : New W (.slice k.D k.dn k.dc) (.slice A n cc)) :
    WS w0 w (W1.setCell ⟨B, 13, none⟩ (.slice A n cc)) B k0 { k with D := A, dn := n, dc := cc } cx { st with data := l } e Bd c := by
  obtain ⟨hx, hw⟩ := MX.updD h.x hr hg hn
  have hown : ∀ q, (Value.slice k.D k.dn k.dc).ownBlock = some q → Own k0 B q ∨ w.heap.size ≤ q := fun q hq => h.n q (own_D hq)
  have ht := h.t.grown hg (fun q hq => Kd.R_base h.x.d q hq) hown
  have hb := blk_grown h.b hg (Kd.R_ne h.x.d h.b (by decide))
  have hy := blk_grown h.y hg (Kd.R_ne h.x.d h.y (by decide))
  have hB : Own k0 B B ∨ w.heap.size ≤ B := .inl (own_B k0 B)
  exact ⟨hx.setB 13 _, ht.set h.x.bb hB 13 _, blk_put hb 13 _ rfl, blk_far hy (p := ⟨B, 13, none⟩) (blk_ne hy hb (by decide)) _, fun q hq => by
    rcases hw q hq with h1 | h1
    · exact h.n q h1
    · exact .inr (Nat.le_trans h.t.s h1)⟩
theorem und82 : Tryd.prog.underlying 82 = some (.slice 4) := by kernel_rfl
theorem und37 : Tryd.prog.underlying 37 = some (.slice 3) := by kernel_rfl
theorem und3 : Tryd.prog.underlying 3 = some (.int .i64) := by kernel_rfl
theorem inf4 : (Tryd.prog.info? 4).map (fun i => (i.zero, i.size, i.bytes)) = some (some (.bool false), 1, 1) := by kernel_rfl
theorem inf3 : (Tryd.prog.info? 3).map (fun i => (i.zero, i.size, i.bytes)) = some (some (.int .i64 0), 1, 8) := by kernel_rfl
set_option maxHeartbeats 8000000 in
theorem ptake (w0 w : World) (h0 : Below w0.heap.size w0 w) (B : Nat) (k : Mk) (cx : Cx) (st : St) (h : MM w0.heap.size w B k cx st) (e : Ev) (Bd : Option Addr) (c : Nat) (ht : I64 e.thread) (hn : I64 e.n) (hg : takeC cx st e = 0 → Good cx (takeS st e)) :
    Calls Tryd.prog 62 #[.pointer (some ⟨B, 0, none⟩), .agg #[.int .i64 e.kind, .int .i64 e.thread, .int .i64 e.op, .int .i64 e.n, .int .u64 e.pos, .int .i64 e.code, .slice Bd e.data.length c]] w fun r W => WPost w0 w B k cx st (takeC cx st e) (takeS st e) r W := by
  have H0 := Aside.mk h0
  have HM0 := Aside.mk h
  have HB := Aside.mk (below_alloc (Below.refl w.heap.size w) (.cells #[.int .i64 e.kind, .int .i64 e.thread, .int .i64 e.op, .int .i64 e.n, .int .u64 e.pos, .int .i64 e.code, .slice Bd e.data.length c] 44))
  have HY := Aside.mk (heap_alloc_new w (.cells #[.int .i64 e.kind, .int .i64 e.thread, .int .i64 e.op, .int .i64 e.n, .int .u64 e.pos, .int .i64 e.code, .slice Bd e.data.length c] 44))
  have HT := Aside.mk ht
  have HG := Aside.mk hg
  clear h0 h ht hg
  go_enter Tryd.func62, Tryd.ntmps62
  go_upto_region 1 with (fail)
  generalize w.alloc (.cells #[.int .i64 e.kind, .int .i64 e.thread, .int .i64 e.op, .int .i64 e.n, .int .u64 e.pos, .int .i64 e.code, .slice Bd e.data.length c] 44) = w2 at *
  obtain ⟨y0, y1, y2, y3, y4, y5, y6⟩ := cell7 HY.out
  go_wp2_with fail
  refine (pproducer _ B k cx st (HM0.out.r.below HB.out) e.thread).mono ?_
  rintro r w3 ⟨rfl, hb⟩
  replace HY := Aside.mk (blk_below HY.out hb)
  replace HB := Aside.mk (HB.out.trans (hb.mono HB.out.size))
  clear hb y0 y1 y2 y3 y4 y5 y6
  by_cases hc : ¬ (0 ≤ e.thread ∧ e.thread < (cx.prod : Int))
  · have HV := Aside.mk (show (decide (0 ≤ e.thread) && decide (e.thread < (cx.prod : Int))) = false by
      by_cases h0 : 0 ≤ e.thread
      · rw [decide_eq_false (show ¬ e.thread < (cx.prod : Int) from fun h => hc ⟨h0, h⟩), Bool.and_false]
      · rw [decide_eq_false h0, Bool.false_and])
    rw [HV.out]
    have HC := Aside.mk (show takeC cx st e = 11 from by unfold takeC; rw [if_pos hc])
    clear hc
    go_wp2
    go_ret
    exact ⟨by rw [HC.out]; rfl, by rw [HC.out, if_neg (by decide)]; exact .same HM0.out HB.out H0.out⟩
  have HV := Aside.mk (show (decide (0 ≤ e.thread) && decide (e.thread < (cx.prod : Int))) = true by
    rw [decide_eq_true (show 0 ≤ e.thread by omega), decide_eq_true (show e.thread < (cx.prod : Int) by omega)]; rfl)
  rw [HV.out]
  obtain ⟨t, hth⟩ : ∃ t : Nat, e.thread = (t : Int) := ⟨e.thread.toNat, by omega⟩
  have HTL := Aside.mk (show t < cx.prod by omega)
  have HC := Aside.mk (show takeC cx st e = if isZ (held st t) = false then 14 else if e.n < 1 ∨ e.n > cx.cap then 13 else if cx.cnt st.taken e.pos ≠ st.taken then 16 else 0 from by unfold takeC; rw [if_neg hc, hth, Int.toNat_natCast])
  have HTH := Aside.mk hth
  clear hc
  have HM := Aside.mk (HM0.out.below HB.out)
  obtain ⟨hq, eH, hH1, ⟨a0, a1, a2, a3⟩, hfr⟩ := HM.out.formH t HTL.out
  have HHF := Aside.mk hfr
  have HEH := Aside.mk eH
  clear hfr
  obtain ⟨c0, c1, c2, c3, c4, c5, c6, c7, c8, c9, c10, c11, c12, c13, c14, c15⟩ := cell16 HM.out.r.blk
  have HH1 := Aside.mk hH1
  clear hH1
  rw [eH, HM.out.r.hn] at c11
  clear c0 c1 c3 c4 c5 c6 c7 c9 c10 c12 c13 c14 c15 eH
  rw [HM.out.r.cp] at c2
  have i1 : decide ((t : Int) < (cx.prod : Int)) = true := decide_eq_true (by have := HTL.out; omega)
  have i2 : (t : Int) < (cx.prod : Int) := by have := HTL.out; omega
  have i3 : decide (t < cx.prod) = true := decide_eq_true HTL.out
  have i4 : t < cx.prod := HTL.out
  obtain ⟨y0, y1, y2, y3, y4, y5, y6⟩ := cell7 HY.out
  rw [hth] at y1
  have HWH := Aside.mk (show (held st t = hz) ∨ ((held st t).f = 0 ∧ (held st t).n ≠ 0) ∨ (held st t).f ≠ 0 by
    rcases HM.out.r.wf.hw t HTL.out with h3 | h3
    · exact .inl h3
    · by_cases h4 : (held st t).f = 0
      · exact .inr (.inl ⟨h4, by have := h3.1; omega⟩)
      · exact .inr (.inr h4))
  generalize hhh : held st t = h at *
  have HHH := Aside.mk hhh
  clear hhh
  obtain ⟨hf, hn', hp, hg⟩ := h
  simp only at a0 a1 a2 a3
  rcases HWH.out with e1 | ⟨e1, e2⟩ | e1
  rotate_left
  · simp only at e1 e2
    subst e1
    rw [if_pos (show isZ ⟨0, hn', hp, hg⟩ = false by unfold isZ; simp [e2])] at HC
    clear hth
    go_wp2_with fail
    go_region
    all_goals
      replace HB := Aside.mk (below_drew1 HB.out)
      go_wp2
      go_ret
      exact ⟨by rw [HC.out]; rfl, by rw [HC.out, if_neg (by decide)]; exact .same HM0.out HB.out H0.out⟩
  · simp only at e1
    rw [if_pos (show isZ ⟨hf, hn', hp, hg⟩ = false by unfold isZ; simp [e1])] at HC
    clear hth
    go_wp2_with fail
    go_region
    all_goals
      replace HB := Aside.mk (below_drew1 HB.out)
      go_wp2
      go_ret
      exact ⟨by rw [HC.out]; rfl, by rw [HC.out, if_neg (by decide)]; exact .same HM0.out HB.out H0.out⟩
  · unfold hz at e1
    injection e1 with e1 e2 e3 e4
    subst e1 e2 e3 e4
    rw [if_neg (show ¬ isZ ⟨0, 0, 0, false⟩ = false by decide)] at HC
    clear hth
    go_wp2_with fail
    go_region
    all_goals
      replace HB := Aside.mk (below_drew1 HB.out)
      replace HM := Aside.mk (HM.out.below (below_drew1 (Below.refl _ _)))
      replace HY := Aside.mk (blk_drew HY.out)
      clear y0 y1 y2 y3 y4 y5 y6 a0 a1 a2 a3 c2 c8 c11 HHF
      generalize w3.drew = w4 at *
      obtain ⟨hq2, eH2, hH12, ⟨a0, a1, a2, a3⟩, hfr⟩ := HM.out.formH t HTL.out
      rw [HEH.out] at eH2
      injection eH2 with eH2
      injection eH2 with eH2
      subst eH2
      rw [HHH.out] at a0 a1 a2 a3
      simp only at a0 a1 a2 a3
      have HHF := Aside.mk hfr
      clear hfr hH12
      obtain ⟨c0, c1, c2, c3, c4, c5, c6, c7, c8, c9, c10, c11, c12, c13, c14, c15⟩ := cell16 HM.out.r.blk
      rw [HEH.out, HM.out.r.hn] at c11
      clear c0 c1 c3 c4 c5 c6 c7 c9 c10 c12 c13 c14 c15
      rw [HM.out.r.cp] at c2
      obtain ⟨y0, y1, y2, y3, y4, y5, y6⟩ := cell7 HY.out
      rw [HTH.out] at y1
      by_cases h1 : e.n < 1
      · have t1 : decide (e.n < 1) = true := decide_eq_true h1
        rw [if_pos (.inl h1)] at HC
        clear h1
        go_wp2_with fail
        go_region
        all_goals
          replace HB := Aside.mk (below_drew1 HB.out)
          go_wp2
          go_ret
          exact ⟨by rw [HC.out]; rfl, by rw [HC.out, if_neg (by decide)]; exact .same HM0.out HB.out H0.out⟩
      have t1 : decide (e.n < 1) = false := decide_eq_false h1
      by_cases h2 : cx.cap < e.n
      · have t2 : decide (cx.cap < e.n) = true := decide_eq_true h2
        rw [if_pos (.inr h2)] at HC
        clear h1 h2
        go_wp2_with fail
        go_region
        all_goals
          replace HB := Aside.mk (below_drew1 HB.out)
          go_wp2
          go_ret
          exact ⟨by rw [HC.out]; rfl, by rw [HC.out, if_neg (by decide)]; exact .same HM0.out HB.out H0.out⟩
      have t2 : decide (cx.cap < e.n) = false := decide_eq_false h2
      rw [if_neg (by omega)] at HC
      have HNN := Aside.mk (show 1 ≤ e.n ∧ e.n ≤ 64 by have := HM.out.r.c64; omega)
      clear h1 h2
      go_wp2_with fail
      go_region
      all_goals
        clear t1 t2
        replace HB := Aside.mk (below_drew1 HB.out)
        replace HM := Aside.mk (HM.out.below (below_drew1 (Below.refl _ _)))
        replace HY := Aside.mk (blk_drew HY.out)
        clear y0 y1 y2 y3 y4 y5 y6 a0 a1 a2 a3 c2 c8 c11 HHF
        generalize w4.drew = w5 at *
        obtain ⟨hq2, eH2, hH12, ⟨a0, a1, a2, a3⟩, hfr⟩ := HM.out.formH t HTL.out
        rw [HEH.out] at eH2
        injection eH2 with eH2
        injection eH2 with eH2
        subst eH2
        rw [HHH.out] at a0 a1 a2 a3
        simp only at a0 a1 a2 a3
        have HHF := Aside.mk hfr
        clear hfr hH12
        obtain ⟨c0, c1, c2, c3, c4, c5, c6, c7, c8, c9, c10, c11, c12, c13, c14, c15⟩ := cell16 HM.out.r.blk
        rw [HEH.out, HM.out.r.hn] at c11
        clear c0 c1 c3 c4 c5 c6 c7 c9 c10 c12 c13 c14 c15
        rw [HM.out.r.cp] at c2
        obtain ⟨y0, y1, y2, y3, y4, y5, y6⟩ := cell7 HY.out
        rw [HTH.out] at y1
        go_wp2_with fail
        refine start_ (n := 10) (S := fun w' => w'.cell? ⟨B, 8, none⟩ = some (.int .i64 st.taken) ∧ w'.cell? ⟨w.heap.size, 4, none⟩ = some (.int .u64 e.pos) ∧ True) (ds := []) #[false, false, false, false, false, false, false, false, false, false] (by kernel_rfl) rfl rfl ⟨(blk_cell (blk_drew HM.out.r.blk) 8).trans rfl, (blk_cell (blk_drew HY.out) 4).trans rfl, trivial⟩ (fun hHeld => ?_)
        replace HB := Aside.mk (below_drew1 HB.out)
        replace HM := Aside.mk (HM.out.below (below_drew1 (Below.refl _ _)))
        replace HY := Aside.mk (blk_drew HY.out)
        clear y0 y1 y2 y3 y4 y5 y6 a0 a1 a2 a3 c2 c8 c11 HHF
        generalize w5.drew = w6 at *
        refine pure_ (i := 0) (N := some 37) (v := ?_) (a' := ?_) #[true, false, false, false, false, false, false, false, false, false] rfl rfl (by kernel_rfl) (fun _ _ _ h => h) (Or.inl ⟨by rfl, ?_⟩) ?_ ?_
        rotate_left
        · intro w'
          go_simp
          with_reducible rfl
        rotate_left
        · simp only [Act.put, List.setIfInBounds_toArray, List.set_cons_zero, List.set_cons_succ, i64_w, i32_w]
          rfl
        refine pure_ (i := 1) (N := some 38) (v := ?_) (a' := ?_) #[true, true, false, false, false, false, false, false, false, false] rfl rfl (by kernel_rfl) (fun _ _ _ h => h) (Or.inl ⟨by rfl, ?_⟩) ?_ ?_
        rotate_left
        · intro w'
          go_simp
          with_reducible rfl
        rotate_left
        · simp only [Act.put, List.setIfInBounds_toArray, List.set_cons_zero, List.set_cons_succ, i64_w, i32_w]
          rfl
        refine take_ (i := 2) (N := some 39) (v := ?_) (a' := ?_) #[true, true, true, false, false, false, false, false, false, false] rfl rfl (by kernel_rfl) (fun _ _ _ h => h) (Or.inl ⟨by rfl, ?_⟩) hHeld ?_ ?_
        rotate_left
        · rintro w' ⟨s0, s1, s2⟩
          go_simp
          with_reducible rfl
        rotate_left
        · simp only [Act.put, List.setIfInBounds_toArray, List.set_cons_zero, List.set_cons_succ, i64_w, i32_w]
          rfl
        refine pure_ (i := 4) (N := some 41) (v := ?_) (a' := ?_) #[true, true, true, false, true, false, false, false, false, false] rfl rfl (by kernel_rfl) (fun _ _ _ h => h) (Or.inl ⟨by rfl, ?_⟩) ?_ ?_
        rotate_left
        · intro w'
          go_simp
          with_reducible rfl
        rotate_left
        · simp only [Act.put, List.setIfInBounds_toArray, List.set_cons_zero, List.set_cons_succ, i64_w, i32_w]
          rfl
        refine pure_ (i := 5) (N := some 42) (v := ?_) (a' := ?_) #[true, true, true, false, true, true, false, false, false, false] rfl rfl (by kernel_rfl) (fun _ _ _ h => h) (Or.inl ⟨by rfl, ?_⟩) ?_ ?_
        rotate_left
        · intro w'
          go_simp
          with_reducible rfl
        rotate_left
        · simp only [Act.put, List.setIfInBounds_toArray, List.set_cons_zero, List.set_cons_succ, i64_w, i32_w]
          rfl
        refine pure_ (i := 6) (N := some 43) (v := ?_) (a' := ?_) #[true, true, true, false, true, true, true, false, false, false] rfl rfl (by kernel_rfl) (fun _ _ _ h => h) (Or.inl ⟨by rfl, ?_⟩) ?_ ?_
        rotate_left
        · intro w'
          go_simp
          with_reducible rfl
        rotate_left
        · simp only [Act.put, List.setIfInBounds_toArray, List.set_cons_zero, List.set_cons_succ, i64_w, i32_w]
          rfl
        refine take_ (i := 7) (N := some 44) (v := ?_) (a' := ?_) #[true, true, true, false, true, true, true, true, false, false] rfl rfl (by kernel_rfl) (fun _ _ _ h => h) (Or.inl ⟨by rfl, ?_⟩) hHeld ?_ ?_
        rotate_left
        · rintro w' ⟨s0, s1, s2⟩
          go_simp
          with_reducible rfl
        rotate_left
        · simp only [Act.put, List.setIfInBounds_toArray, List.set_cons_zero, List.set_cons_succ, i64_w, i32_w]
          rfl
        refine one_ (i := 3) (N := some 40) #[true, true, true, true, true, true, true, true, false, false] rfl rfl (by kernel_rfl) (by decide) (fun K hK => ?_)
        refine goes_ Tryd.func37 (by kernel_rfl) rfl #[.pointer (some ⟨B, 0, none⟩), .int .u64 e.pos] (by rfl) rfl rfl (by (try simp only [List.map_toArray, List.map_cons, List.map_nil]); first | done | rfl) ?_
        with_reducible refine (pcount _ B k cx st HM.out.r e.pos).mono ?_
        rintro q w7 ⟨rfl, hb⟩
        refine ⟨_, rfl, ?_⟩
        replace HB := Aside.mk (HB.out.trans (hb.mono HB.out.size))
        replace HM := Aside.mk (HM.out.below hb)
        replace HY := Aside.mk (blk_below HY.out hb)
        clear hb
        refine hK.out _ _ ⟨(blk_cell HM.out.r.blk 8).trans rfl, (blk_cell HY.out 4).trans rfl, trivial⟩ (fun hHeld => ?_)
        clear hK K
        refine norm_ (a' := ?_) ?_ ?_
        rotate_left
        · show Act.put _ (some 40) _ = _
          simp only [Act.put, List.setIfInBounds_toArray, List.set_cons_zero, List.set_cons_succ, i64_w, i32_w]
          rfl
        refine pure_ (i := 8) (N := some 45) (v := ?_) (a' := ?_) #[true, true, true, true, true, true, true, true, true, false] rfl rfl (by kernel_rfl) (fun _ _ _ h => h) (Or.inl ⟨by rfl, ?_⟩) ?_ ?_
        rotate_left
        · intro w'
          go_simp
          with_reducible rfl
        rotate_left
        · simp only [Act.put, List.setIfInBounds_toArray, List.set_cons_zero, List.set_cons_succ, i64_w, i32_w]
          rfl
        refine pure_ (i := 9) (N := some 36) (v := ?_) (a' := ?_) #[true, true, true, true, true, true, true, true, true, true] rfl rfl (by kernel_rfl) (fun _ _ _ h => h) (Or.inl ⟨by rfl, ?_⟩) ?_ ?_
        rotate_left
        · intro w'
          go_simp
          with_reducible rfl
        rotate_left
        · simp only [Act.put, List.setIfInBounds_toArray, List.set_cons_zero, List.set_cons_succ, i64_w, i32_w]
          rfl
        refine done_ (by kernel_rfl) ?_
        generalize hnn : cx.cnt st.taken e.pos = n at *
        by_cases h3 : n = st.taken
        rotate_left
        · have t3 : (n != st.taken) = true := by simpa using h3
          rw [if_pos h3] at HC
          clear h3 hnn
          go_wp2
          go_ret
          exact ⟨by rw [HC.out]; rfl, by rw [HC.out, if_neg (by decide)]; exact .same HM0.out HB.out H0.out⟩
        have t3 : (n != st.taken) = false := by simpa using h3
        rw [if_neg (fun h => h h3)] at HC
        clear h3 hnn
        obtain ⟨hq2, eH2, hH12, ⟨a0, a1, a2, a3⟩, hfr⟩ := HM.out.formH t HTL.out
        rw [HEH.out] at eH2
        injection eH2 with eH2
        injection eH2 with eH2
        subst eH2
        rw [HHH.out] at a0 a1 a2 a3
        simp only at a0 a1 a2 a3
        have HHF := Aside.mk hfr
        clear hfr hH12
        obtain ⟨c0, c1, c2, c3, c4, c5, c6, c7, c8, c9, c10, c11, c12, c13, c14, c15⟩ := cell16 HM.out.r.blk
        rw [HEH.out, HM.out.r.hn] at c11
        clear c0 c1 c3 c4 c5 c6 c7 c9 c10 c12 c13 c14 c15
        rw [HM.out.r.cp] at c2
        obtain ⟨y0, y1, y2, y3, y4, y5, y6⟩ := cell7 HY.out
        rw [HTH.out] at y1
        go_wp2_with fail
        clear t3
        refine start_ (n := 15) (S := fun w' => w'.cell? ⟨B, 8, none⟩ = some (.int .i64 st.taken) ∧ w'.cell? ⟨B, 11, none⟩ = some (.slice (some ⟨hq, 0, none⟩) cx.prod k.hc) ∧ w'.cell? ⟨w.heap.size, 1, none⟩ = some (.int .i64 t) ∧ w'.cell? ⟨w.heap.size, 3, none⟩ = some (.int .i64 e.n) ∧ True) (ds := [14]) #[false, false, false, false, false, false, false, false, false, false, false, false, false, false, false] (by kernel_rfl) rfl rfl ⟨c8, c11, y1, y3, trivial⟩ (fun hHeld => ?_)
        replace HB := Aside.mk (below_drew1 HB.out)
        replace HM := Aside.mk (HM.out.below (below_drew1 (Below.refl _ _)))
        replace HY := Aside.mk (blk_drew HY.out)
        clear y0 y1 y2 y3 y4 y5 y6 a0 a1 a2 a3 c2 c8 c11 HHF
        generalize w7.drew = w8 at *
        obtain ⟨hq2, eH2, hH12, ⟨a0, a1, a2, a3⟩, hfr⟩ := HM.out.formH t HTL.out
        rw [HEH.out] at eH2
        injection eH2 with eH2
        injection eH2 with eH2
        subst eH2
        rw [HHH.out] at a0 a1 a2 a3
        simp only at a0 a1 a2 a3
        have HHF := Aside.mk hfr
        clear hfr hH12
        obtain ⟨c0, c1, c2, c3, c4, c5, c6, c7, c8, c9, c10, c11, c12, c13, c14, c15⟩ := cell16 HM.out.r.blk
        rw [HEH.out, HM.out.r.hn] at c11
        clear c0 c1 c3 c4 c5 c6 c7 c9 c10 c12 c13 c14 c15
        rw [HM.out.r.cp] at c2
        obtain ⟨y0, y1, y2, y3, y4, y5, y6⟩ := cell7 HY.out
        rw [HTH.out] at y1
        refine pure_ (i := 0) (N := some 46) (v := ?_) (a' := ?_) #[true, false, false, false, false, false, false, false, false, false, false, false, false, false, false] rfl rfl (by kernel_rfl) (fun _ _ _ h => h) (Or.inl ⟨by rfl, ?_⟩) ?_ ?_
        rotate_left
        · intro w'
          go_simp
          with_reducible rfl
        rotate_left
        · simp only [Act.put, List.setIfInBounds_toArray, List.set_cons_zero, List.set_cons_succ, i64_w, i32_w]
          rfl
        refine pure_ (i := 1) (N := some 47) (v := ?_) (a' := ?_) #[true, true, false, false, false, false, false, false, false, false, false, false, false, false, false] rfl rfl (by kernel_rfl) (fun _ _ _ h => h) (Or.inl ⟨by rfl, ?_⟩) ?_ ?_
        rotate_left
        · intro w'
          go_simp
          with_reducible rfl
        rotate_left
        · simp only [Act.put, List.setIfInBounds_toArray, List.set_cons_zero, List.set_cons_succ, i64_w, i32_w]
          rfl
        refine pure_ (i := 2) (N := some 48) (v := ?_) (a' := ?_) #[true, true, true, false, false, false, false, false, false, false, false, false, false, false, false] rfl rfl (by kernel_rfl) (fun _ _ _ h => h) (Or.inl ⟨by rfl, ?_⟩) ?_ ?_
        rotate_left
        · intro w'
          go_simp
          with_reducible rfl
        rotate_left
        · simp only [Act.put, List.setIfInBounds_toArray, List.set_cons_zero, List.set_cons_succ, i64_w, i32_w]
          rfl
        refine take_ (i := 3) (N := some 49) (v := ?_) (a' := ?_) #[true, true, true, true, false, false, false, false, false, false, false, false, false, false, false] rfl rfl (by kernel_rfl) (fun _ _ _ h => h) (Or.inl ⟨by rfl, ?_⟩) hHeld ?_ ?_
        rotate_left
        · rintro w' ⟨s0, s1, s2, s3, s4⟩
          go_simp
          with_reducible rfl
        rotate_left
        · simp only [Act.put, List.setIfInBounds_toArray, List.set_cons_zero, List.set_cons_succ, i64_w, i32_w]
          rfl
        refine pure_ (i := 4) (N := some 50) (v := ?_) (a' := ?_) #[true, true, true, true, true, false, false, false, false, false, false, false, false, false, false] rfl rfl (by kernel_rfl) (fun _ _ _ h => h) (Or.inl ⟨by rfl, ?_⟩) ?_ ?_
        rotate_left
        · intro w'
          go_simp
          with_reducible rfl
        rotate_left
        · simp only [Act.put, List.setIfInBounds_toArray, List.set_cons_zero, List.set_cons_succ, i64_w, i32_w]
          rfl
        refine take_ (i := 5) (N := some 51) (v := ?_) (a' := ?_) #[true, true, true, true, true, true, false, false, false, false, false, false, false, false, false] rfl rfl (by kernel_rfl) (fun _ _ _ h => h) (Or.inl ⟨by rfl, ?_⟩) hHeld ?_ ?_
        rotate_left
        · rintro w' ⟨s0, s1, s2, s3, s4⟩
          go_simp
          with_reducible rfl
        rotate_left
        · simp only [Act.put, List.setIfInBounds_toArray, List.set_cons_zero, List.set_cons_succ, i64_w, i32_w]
          rfl
        refine pure_ (i := 6) (N := some 52) (v := ?_) (a' := ?_) #[true, true, true, true, true, true, true, false, false, false, false, false, false, false, false] rfl rfl (by kernel_rfl) (fun _ _ _ h => h) (Or.inl ⟨by rfl, ?_⟩) ?_ ?_
        rotate_left
        · intro w'
          go_simp
          with_reducible rfl
        rotate_left
        · simp only [Act.put, List.setIfInBounds_toArray, List.set_cons_zero, List.set_cons_succ, i64_w, i32_w]
          rfl
        refine pure_ (i := 7) (N := some 53) (v := ?_) (a' := ?_) #[true, true, true, true, true, true, true, true, false, false, false, false, false, false, false] rfl rfl (by kernel_rfl) (fun _ _ _ h => h) (Or.inl ⟨by rfl, ?_⟩) ?_ ?_
        rotate_left
        · intro w'
          go_simp
          with_reducible rfl
        rotate_left
        · simp only [Act.put, List.setIfInBounds_toArray, List.set_cons_zero, List.set_cons_succ, i64_w, i32_w]
          rfl
        refine pure_ (i := 8) (N := some 54) (v := ?_) (a' := ?_) #[true, true, true, true, true, true, true, true, true, false, false, false, false, false, false] rfl rfl (by kernel_rfl) (fun _ _ _ h => h) (Or.inl ⟨by rfl, ?_⟩) ?_ ?_
        rotate_left
        · intro w'
          go_simp
          with_reducible rfl
        rotate_left
        · simp only [Act.put, List.setIfInBounds_toArray, List.set_cons_zero, List.set_cons_succ, i64_w, i32_w]
          rfl
        refine take_ (i := 9) (N := some 55) (v := ?_) (a' := ?_) #[true, true, true, true, true, true, true, true, true, true, false, false, false, false, false] rfl rfl (by kernel_rfl) (fun _ _ _ h => h) (Or.inl ⟨by rfl, ?_⟩) hHeld ?_ ?_
        rotate_left
        · rintro w' ⟨s0, s1, s2, s3, s4⟩
          go_simp
          with_reducible rfl
        rotate_left
        · simp only [Act.put, List.setIfInBounds_toArray, List.set_cons_zero, List.set_cons_succ, i64_w, i32_w]
          rfl
        refine pure_ (i := 10) (N := some 56) (v := ?_) (a' := ?_) #[true, true, true, true, true, true, true, true, true, true, true, false, false, false, false] rfl rfl (by kernel_rfl) (fun _ _ _ h => h) (Or.inl ⟨by rfl, ?_⟩) ?_ ?_
        rotate_left
        · intro w'
          go_simp
          with_reducible rfl
        rotate_left
        · simp only [Act.put, List.setIfInBounds_toArray, List.set_cons_zero, List.set_cons_succ, i64_w, i32_w]
          rfl
        refine take_ (i := 11) (N := some 57) (v := ?_) (a' := ?_) #[true, true, true, true, true, true, true, true, true, true, true, true, false, false, false] rfl rfl (by kernel_rfl) (fun _ _ _ h => h) (Or.inl ⟨by rfl, ?_⟩) hHeld ?_ ?_
        rotate_left
        · rintro w' ⟨s0, s1, s2, s3, s4⟩
          go_simp
          with_reducible rfl
        rotate_left
        · simp only [Act.put, List.setIfInBounds_toArray, List.set_cons_zero, List.set_cons_succ, i64_w, i32_w]
          rfl
        refine pure_ (i := 12) (N := some 58) (v := ?_) (a' := ?_) #[true, true, true, true, true, true, true, true, true, true, true, true, true, false, false] rfl rfl (by kernel_rfl) (fun _ _ _ h => h) (Or.inl ⟨by rfl, ?_⟩) ?_ ?_
        rotate_left
        · intro w'
          go_simp
          with_reducible rfl
        rotate_left
        · simp only [Act.put, List.setIfInBounds_toArray, List.set_cons_zero, List.set_cons_succ, i64_w, i32_w]
          rfl
        refine pure_ (i := 13) (N := some 59) (v := ?_) (a' := ?_) #[true, true, true, true, true, true, true, true, true, true, true, true, true, true, false] rfl rfl (by kernel_rfl) (fun _ _ _ h => h) (Or.inl ⟨by rfl, ?_⟩) ?_ ?_
        rotate_left
        · intro w'
          go_simp
          with_reducible rfl
        rotate_left
        · simp only [Act.put, List.setIfInBounds_toArray, List.set_cons_zero, List.set_cons_succ, i64_w, i32_w]
          rfl
        have fz0 := HHF.out (t * 4)
        have fz1 := HHF.out (t * 4 + 1)
        have fz2 := HHF.out (t * 4 + 2)
        have fz3 := HHF.out (t * 4 + 3)
        refine last_ (i := 14) (N := none) #[true, true, true, true, true, true, true, true, true, true, true, true, true, true, true] rfl rfl (by kernel_rfl) (by decide) (fun K hK => ?_)
        refine skip_ (w1 := ?_) (by rfl) rfl ?_ ?_
        rotate_left
        · go_simp
          rfl
        refine hK.out _ _ ?_
        clear hK K
        refine done_ (by kernel_rfl) ?_
        obtain ⟨w9, hw9, hx9, ht9, hb9, hg9⟩ := HM.out.putH (below_low HB.out H0.out) HEH.out t HTL.out ⟨st.taken, e.n, 0, false⟩
        rw [← hw9]
        have HOW := Aside.mk (show (Value.slice k.H k.hn k.hc).ownBlock = some hq by rw [HEH.out]; rfl)
        have HW := Aside.mk (show WS w0 w w9 B k k cx { st with held := st.held.set t ⟨st.taken, e.n, 0, false⟩ } e Bd c from ⟨hx9, ((TK.refl H0.out).below HB.out).trans ht9 (fun q hq => .inl hq), hb9, blk_grown HY.out hg9 (by rw [← HOW.out]; exact Kd.R_ne HM.out.x.h HY.out (by decide)), fun q hq => .inl hq⟩)
        have HGD := Aside.mk (HG.out HC.out)
        have HTS := Aside.mk (show takeS st e = { st with held := st.held.set t ⟨st.taken, e.n, 0, false⟩, taken := st.taken + e.n, put := st.put ++ List.replicate e.n.toNat false, data := st.data ++ List.replicate e.n.toNat 0 } from by unfold takeS; rw [HTH.out, Int.toNat_natCast])
        have HTB := Aside.mk (show 0 ≤ st.taken ∧ st.taken ≤ 100000 ∧ (st.put.length : Int) = st.taken ∧ (st.data.length : Int) = st.taken from ⟨HM.out.r.wf.t0, HM.out.r.tb, HM.out.r.wf.lp, HM.out.r.wf.ld⟩)
        have HPN := Aside.mk (And.intro HM.out.r.pn HM.out.r.dn)
        clear hw9 hx9 ht9 hb9 hg9 a0 a1 a2 a3 fz0 fz1 fz2 fz3 y0 y1 y2 y3 y4 y5 y6 c2 c8 c11 HY HM HB hHeld
        go_wp2_with fail
        refine start_ (n := 10) (S := fun w' => w'.cell? ⟨B, 8, none⟩ = some (.int .i64 st.taken) ∧ w'.cell? ⟨w.heap.size, 3, none⟩ = some (.int .i64 e.n) ∧ True) (ds := [9]) #[false, false, false, false, false, false, false, false, false, false] (by kernel_rfl) rfl rfl ⟨(blk_cell (blk_drew HW.out.b) 8).trans rfl, (blk_cell (blk_drew HW.out.y) 3).trans rfl, trivial⟩ (fun hHeld => ?_)
        replace HW := Aside.mk (HW.out.below (below_drew1 (Below.refl _ _)))
        generalize w9.drew = w10 at *
        have ew := w64 (show -4611686018427387904 ≤ st.taken + e.n ∧ st.taken + e.n ≤ 4611686018427387904 by have := HTB.out; have := HNN.out; omega)
        refine pure_ (i := 0) (N := some 60) (v := ?_) (a' := ?_) #[true, false, false, false, false, false, false, false, false, false] rfl rfl (by kernel_rfl) (fun _ _ _ h => h) (Or.inl ⟨by rfl, ?_⟩) ?_ ?_
        rotate_left
        · intro w'
          go_simp
          with_reducible rfl
        rotate_left
        · simp only [Act.put, List.setIfInBounds_toArray, List.set_cons_zero, List.set_cons_succ, i64_w, i32_w]
          rfl
        refine pure_ (i := 1) (N := some 61) (v := ?_) (a' := ?_) #[true, true, false, false, false, false, false, false, false, false] rfl rfl (by kernel_rfl) (fun _ _ _ h => h) (Or.inl ⟨by rfl, ?_⟩) ?_ ?_
        rotate_left
        · intro w'
          go_simp
          with_reducible rfl
        rotate_left
        · simp only [Act.put, List.setIfInBounds_toArray, List.set_cons_zero, List.set_cons_succ, i64_w, i32_w]
          rfl
        refine pure_ (i := 2) (N := some 62) (v := ?_) (a' := ?_) #[true, true, true, false, false, false, false, false, false, false] rfl rfl (by kernel_rfl) (fun _ _ _ h => h) (Or.inl ⟨by rfl, ?_⟩) ?_ ?_
        rotate_left
        · intro w'
          go_simp
          with_reducible rfl
        rotate_left
        · simp only [Act.put, List.setIfInBounds_toArray, List.set_cons_zero, List.set_cons_succ, i64_w, i32_w]
          rfl
        refine take_ (i := 3) (N := some 63) (v := ?_) (a' := ?_) #[true, true, true, true, false, false, false, false, false, false] rfl rfl (by kernel_rfl) (fun _ _ _ h => h) (Or.inl ⟨by rfl, ?_⟩) hHeld ?_ ?_
        rotate_left
        · rintro w' ⟨s0, s1, s2⟩
          go_simp
          with_reducible rfl
        rotate_left
        · simp only [Act.put, List.setIfInBounds_toArray, List.set_cons_zero, List.set_cons_succ, i64_w, i32_w]
          rfl
        refine pure_ (i := 4) (N := some 64) (v := ?_) (a' := ?_) #[true, true, true, true, true, false, false, false, false, false] rfl rfl (by kernel_rfl) (fun _ _ _ h => h) (Or.inl ⟨by rfl, ?_⟩) ?_ ?_
        rotate_left
        · intro w'
          go_simp
          with_reducible rfl
        rotate_left
        · simp only [Act.put, List.setIfInBounds_toArray, List.set_cons_zero, List.set_cons_succ, i64_w, i32_w]
          rfl
        refine take_ (i := 5) (N := some 65) (v := ?_) (a' := ?_) #[true, true, true, true, true, true, false, false, false, false] rfl rfl (by kernel_rfl) (fun _ _ _ h => h) (Or.inl ⟨by rfl, ?_⟩) hHeld ?_ ?_
        rotate_left
        · rintro w' ⟨s0, s1, s2⟩
          go_simp
          with_reducible rfl
        rotate_left
        · simp only [Act.put, List.setIfInBounds_toArray, List.set_cons_zero, List.set_cons_succ, i64_w, i32_w]
          rfl
        refine pure_ (i := 6) (N := some 66) (v := ?_) (a' := ?_) #[true, true, true, true, true, true, true, false, false, false] rfl rfl (by kernel_rfl) (fun _ _ _ h => h) (Or.inl ⟨by rfl, ?_⟩) ?_ ?_
        rotate_left
        · intro w'
          go_simp
          with_reducible rfl
        rotate_left
        · simp only [Act.put, List.setIfInBounds_toArray, List.set_cons_zero, List.set_cons_succ, i64_w, i32_w]
          rfl
        refine pure_ (i := 7) (N := some 67) (v := ?_) (a' := ?_) #[true, true, true, true, true, true, true, true, false, false] rfl rfl (by kernel_rfl) (fun _ _ _ h => h) (Or.inl ⟨by rfl, ?_⟩) ?_ ?_
        rotate_left
        · intro w'
          go_simp
          with_reducible rfl
        rotate_left
        · simp only [Act.put, List.setIfInBounds_toArray, List.set_cons_zero, List.set_cons_succ, i64_w, i32_w]
          rfl
        refine pure_ (i := 8) (N := some 68) (v := ?_) (a' := ?_) #[true, true, true, true, true, true, true, true, true, false] rfl rfl (by kernel_rfl) (fun _ _ _ h => h) (Or.inl ⟨by rfl, ?_⟩) ?_ ?_
        rotate_left
        · intro w'
          go_simp
          with_reducible rfl
        rotate_left
        · simp only [Act.put, List.setIfInBounds_toArray, List.set_cons_zero, List.set_cons_succ, i64_w, i32_w]
          rfl
        have cb := blk_cell HW.out.b 8
        have fb := blk_frozen HW.out.b 8
        replace cb : w10.cell? ⟨B, 8, none⟩ = some (.int .i64 st.taken) := cb.trans rfl
        skip
        refine last_ (i := 9) (N := none) #[true, true, true, true, true, true, true, true, true, true] rfl rfl (by kernel_rfl) (by decide) (fun K hK => ?_)
        refine skip_ (w1 := ?_) (by rfl) rfl ?_ ?_
        rotate_left
        · go_simp
          rfl
        refine hK.out _ _ ?_
        clear hK K
        refine done_ (by kernel_rfl) ?_
        have HW11 := Aside.mk (HW.out.box (st' := { st with held := st.held.set t ⟨st.taken, e.n, 0, false⟩, taken := st.taken + e.n }) 8 (.int .i64 (st.taken + e.n)) rfl ⟨rfl, rfl, rfl, rfl, rfl⟩)
        clear cb fb HW hHeld
        generalize w10.setCell ⟨B, 8, none⟩ (.int .i64 (st.taken + e.n)) = w11 at *
        go_wp2_with fail
        refine start_ (n := 11) (S := fun w' => w'.cell? ⟨B, 12, none⟩ = some (.slice k.P k.pn k.pc) ∧ w'.cell? ⟨w.heap.size, 3, none⟩ = some (.int .i64 e.n) ∧ True) (ds := [10]) #[false, false, false, false, false, false, false, false, false, false, false] (by kernel_rfl) rfl rfl ⟨(blk_cell (blk_drew HW11.out.b) 12).trans rfl, (blk_cell (blk_drew HW11.out.y) 3).trans rfl, trivial⟩ (fun hHeld => ?_)
        replace HW11 := Aside.mk (HW11.out.below (below_drew1 (Below.refl _ _)))
        generalize w11.drew = w11d at *
        refine pure_ (i := 0) (N := some 69) (v := ?_) (a' := ?_) #[true, false, false, false, false, false, false, false, false, false, false] rfl rfl (by kernel_rfl) (fun _ _ _ h => h) (Or.inl ⟨by rfl, ?_⟩) ?_ ?_
        rotate_left
        · intro w'
          go_simp
          with_reducible rfl
        rotate_left
        · simp only [Act.put, List.setIfInBounds_toArray, List.set_cons_zero, List.set_cons_succ, i64_w, i32_w]
          rfl
        refine pure_ (i := 1) (N := some 70) (v := ?_) (a' := ?_) #[true, true, false, false, false, false, false, false, false, false, false] rfl rfl (by kernel_rfl) (fun _ _ _ h => h) (Or.inl ⟨by rfl, ?_⟩) ?_ ?_
        rotate_left
        · intro w'
          go_simp
          with_reducible rfl
        rotate_left
        · simp only [Act.put, List.setIfInBounds_toArray, List.set_cons_zero, List.set_cons_succ, i64_w, i32_w]
          rfl
        refine pure_ (i := 2) (N := some 71) (v := ?_) (a' := ?_) #[true, true, true, false, false, false, false, false, false, false, false] rfl rfl (by kernel_rfl) (fun _ _ _ h => h) (Or.inl ⟨by rfl, ?_⟩) ?_ ?_
        rotate_left
        · intro w'
          go_simp
          with_reducible rfl
        rotate_left
        · simp only [Act.put, List.setIfInBounds_toArray, List.set_cons_zero, List.set_cons_succ, i64_w, i32_w]
          rfl
        refine pure_ (i := 3) (N := some 72) (v := ?_) (a' := ?_) #[true, true, true, true, false, false, false, false, false, false, false] rfl rfl (by kernel_rfl) (fun _ _ _ h => h) (Or.inl ⟨by rfl, ?_⟩) ?_ ?_
        rotate_left
        · intro w'
          go_simp
          with_reducible rfl
        rotate_left
        · simp only [Act.put, List.setIfInBounds_toArray, List.set_cons_zero, List.set_cons_succ, i64_w, i32_w]
          rfl
        refine take_ (i := 4) (N := some 73) (v := ?_) (a' := ?_) #[true, true, true, true, true, false, false, false, false, false, false] rfl rfl (by kernel_rfl) (fun _ _ _ h => h) (Or.inl ⟨by rfl, ?_⟩) hHeld ?_ ?_
        rotate_left
        · rintro w' ⟨s0, s1, s2⟩
          go_simp
          with_reducible rfl
        rotate_left
        · simp only [Act.put, List.setIfInBounds_toArray, List.set_cons_zero, List.set_cons_succ, i64_w, i32_w]
          rfl
        refine pure_ (i := 5) (N := some 74) (v := ?_) (a' := ?_) #[true, true, true, true, true, true, false, false, false, false, false] rfl rfl (by kernel_rfl) (fun _ _ _ h => h) (Or.inl ⟨by rfl, ?_⟩) ?_ ?_
        rotate_left
        · intro w'
          go_simp
          with_reducible rfl
        rotate_left
        · simp only [Act.put, List.setIfInBounds_toArray, List.set_cons_zero, List.set_cons_succ, i64_w, i32_w]
          rfl
        refine take_ (i := 6) (N := some 75) (v := ?_) (a' := ?_) #[true, true, true, true, true, true, true, false, false, false, false] rfl rfl (by kernel_rfl) (fun _ _ _ h => h) (Or.inl ⟨by rfl, ?_⟩) hHeld ?_ ?_
        rotate_left
        · rintro w' ⟨s0, s1, s2⟩
          go_simp
          with_reducible rfl
        rotate_left
        · simp only [Act.put, List.setIfInBounds_toArray, List.set_cons_zero, List.set_cons_succ, i64_w, i32_w]
          rfl
        refine one_ (i := 7) (N := some 76) #[true, true, true, true, true, true, true, true, false, false, false] rfl rfl (by kernel_rfl) (by decide) (fun K hK => ?_)
        refine Kd.R_append_zeros_step Kd.bool (w0 := w0) w0.heap.size (by rfl) (.tmp 73) (.tmp 75) 82 3 4 (.bool false) 1 rfl und82 und3 inf4 rfl (by decide) (by decide) (.slice k.P k.pn k.pc) st.put false e.n (fun _ => True) rfl rfl rfl (fun _ _ => trivial) HW11.out.x.p (by have := HNN.out; omega) HW11.out.t.b HW11.out.t.b.size (by have := HTB.out; have := HNN.out; omega) ?_
        intro v11 w11g hr hbl hg hat
        obtain ⟨A11, C11, ev⟩ := Kd.R_slice hr
        subst ev
        generalize hln : (st.put ++ List.replicate e.n.toNat false).length = ln11 at *
        clear hln
        have HW12 := Aside.mk (HW11.out.updP hr hg hat)
        have hb8 := blk_grown HW11.out.b hg (Kd.R_ne HW11.out.x.p HW11.out.b (by decide))
        have hy8 := blk_grown HW11.out.y hg (Kd.R_ne HW11.out.x.p HW11.out.y (by decide))
        refine hK.out _ _ ⟨(blk_cell hb8 12).trans rfl, (blk_cell hy8 3).trans rfl, trivial⟩ (fun hHeld => ?_)
        clear hK K
        refine norm_ (a' := ?_) ?_ ?_
        rotate_left
        · show Act.put _ (some 76) _ = _
          simp only [Act.put, List.setIfInBounds_toArray, List.set_cons_zero, List.set_cons_succ, i64_w, i32_w]
          rfl
        refine pure_ (i := 8) (N := some 77) (v := ?_) (a' := ?_) #[true, true, true, true, true, true, true, true, true, false, false] rfl rfl (by kernel_rfl) (fun _ _ _ h => h) (Or.inl ⟨by rfl, ?_⟩) ?_ ?_
        rotate_left
        · intro w'
          go_simp
          with_reducible rfl
        rotate_left
        · simp only [Act.put, List.setIfInBounds_toArray, List.set_cons_zero, List.set_cons_succ, i64_w, i32_w]
          rfl
        refine pure_ (i := 9) (N := some 78) (v := ?_) (a' := ?_) #[true, true, true, true, true, true, true, true, true, true, false] rfl rfl (by kernel_rfl) (fun _ _ _ h => h) (Or.inl ⟨by rfl, ?_⟩) ?_ ?_
        rotate_left
        · intro w'
          go_simp
          with_reducible rfl
        rotate_left
        · simp only [Act.put, List.setIfInBounds_toArray, List.set_cons_zero, List.set_cons_succ, i64_w, i32_w]
          rfl
        have fb := blk_frozen hb8 12
        have cb : w11g.cell? ⟨B, 12, none⟩ = some (.slice k.P k.pn k.pc) := (blk_cell hb8 12).trans rfl
        refine last_ (i := 10) (N := none) #[true, true, true, true, true, true, true, true, true, true, true] rfl rfl (by kernel_rfl) (by decide) (fun K hK => ?_)
        refine skip_ (w1 := ?_) (by rfl) rfl ?_ ?_
        rotate_left
        · go_simp
          rfl
        refine hK.out _ _ ?_
        clear hK K
        refine done_ (by kernel_rfl) ?_
        clear cb fb hHeld hb8 hy8 hr hbl hg hat HW11
        generalize w11g.setCell ⟨B, 12, none⟩ (.slice A11 ln11 C11) = w12 at *
        go_wp2_with fail
        refine start_ (n := 11) (S := fun w' => w'.cell? ⟨B, 13, none⟩ = some (.slice k.D k.dn k.dc) ∧ w'.cell? ⟨w.heap.size, 3, none⟩ = some (.int .i64 e.n) ∧ True) (ds := [10]) #[false, false, false, false, false, false, false, false, false, false, false] (by kernel_rfl) rfl rfl ⟨(blk_cell (blk_drew HW12.out.b) 13).trans rfl, (blk_cell (blk_drew HW12.out.y) 3).trans rfl, trivial⟩ (fun hHeld => ?_)
        replace HW12 := Aside.mk (HW12.out.below (below_drew1 (Below.refl _ _)))
        generalize w12.drew = w12d at *
        refine pure_ (i := 0) (N := some 79) (v := ?_) (a' := ?_) #[true, false, false, false, false, false, false, false, false, false, false] rfl rfl (by kernel_rfl) (fun _ _ _ h => h) (Or.inl ⟨by rfl, ?_⟩) ?_ ?_
        rotate_left
        · intro w'
          go_simp
          with_reducible rfl
        rotate_left
        · simp only [Act.put, List.setIfInBounds_toArray, List.set_cons_zero, List.set_cons_succ, i64_w, i32_w]
          rfl
        refine pure_ (i := 1) (N := some 80) (v := ?_) (a' := ?_) #[true, true, false, false, false, false, false, false, false, false, false] rfl rfl (by kernel_rfl) (fun _ _ _ h => h) (Or.inl ⟨by rfl, ?_⟩) ?_ ?_
        rotate_left
        · intro w'
          go_simp
          with_reducible rfl
        rotate_left
        · simp only [Act.put, List.setIfInBounds_toArray, List.set_cons_zero, List.set_cons_succ, i64_w, i32_w]
          rfl
        refine pure_ (i := 2) (N := some 81) (v := ?_) (a' := ?_) #[true, true, true, false, false, false, false, false, false, false, false] rfl rfl (by kernel_rfl) (fun _ _ _ h => h) (Or.inl ⟨by rfl, ?_⟩) ?_ ?_
        rotate_left
        · intro w'
          go_simp
          with_reducible rfl
        rotate_left
        · simp only [Act.put, List.setIfInBounds_toArray, List.set_cons_zero, List.set_cons_succ, i64_w, i32_w]
          rfl
        refine pure_ (i := 3) (N := some 82) (v := ?_) (a' := ?_) #[true, true, true, true, false, false, false, false, false, false, false] rfl rfl (by kernel_rfl) (fun _ _ _ h => h) (Or.inl ⟨by rfl, ?_⟩) ?_ ?_
        rotate_left
        · intro w'
          go_simp
          with_reducible rfl
        rotate_left
        · simp only [Act.put, List.setIfInBounds_toArray, List.set_cons_zero, List.set_cons_succ, i64_w, i32_w]
          rfl
        refine take_ (i := 4) (N := some 83) (v := ?_) (a' := ?_) #[true, true, true, true, true, false, false, false, false, false, false] rfl rfl (by kernel_rfl) (fun _ _ _ h => h) (Or.inl ⟨by rfl, ?_⟩) hHeld ?_ ?_
        rotate_left
        · rintro w' ⟨s0, s1, s2⟩
          go_simp
          with_reducible rfl
        rotate_left
        · simp only [Act.put, List.setIfInBounds_toArray, List.set_cons_zero, List.set_cons_succ, i64_w, i32_w]
          rfl
        refine pure_ (i := 5) (N := some 84) (v := ?_) (a' := ?_) #[true, true, true, true, true, true, false, false, false, false, false] rfl rfl (by kernel_rfl) (fun _ _ _ h => h) (Or.inl ⟨by rfl, ?_⟩) ?_ ?_
        rotate_left
        · intro w'
          go_simp
          with_reducible rfl
        rotate_left
        · simp only [Act.put, List.setIfInBounds_toArray, List.set_cons_zero, List.set_cons_succ, i64_w, i32_w]
          rfl
        refine take_ (i := 6) (N := some 85) (v := ?_) (a' := ?_) #[true, true, true, true, true, true, true, false, false, false, false] rfl rfl (by kernel_rfl) (fun _ _ _ h => h) (Or.inl ⟨by rfl, ?_⟩) hHeld ?_ ?_
        rotate_left
        · rintro w' ⟨s0, s1, s2⟩
          go_simp
          with_reducible rfl
        rotate_left
        · simp only [Act.put, List.setIfInBounds_toArray, List.set_cons_zero, List.set_cons_succ, i64_w, i32_w]
          rfl
        refine one_ (i := 7) (N := some 86) #[true, true, true, true, true, true, true, true, false, false, false] rfl rfl (by kernel_rfl) (by decide) (fun K hK => ?_)
        refine Kd.R_append_zeros_step (Kd.int .i64) (w0 := w0) w0.heap.size (by rfl) (.tmp 83) (.tmp 85) 37 3 3 (.int .i64 0) 8 rfl und37 und3 inf3 rfl (by decide) (by decide) (.slice k.D k.dn k.dc) st.data (0 : Int) e.n (fun _ => True) rfl rfl rfl (fun _ _ => trivial) HW12.out.x.d (by have := HNN.out; omega) HW12.out.t.b HW12.out.t.b.size (by have := HTB.out; have := HNN.out; omega) ?_
        intro v12 w12g hr hbl hg hat
        obtain ⟨A12, C12, ev⟩ := Kd.R_slice hr
        subst ev
        generalize hln : (st.data ++ List.replicate e.n.toNat (0 : Int)).length = ln12 at *
        clear hln
        have HW13 := Aside.mk (HW12.out.updD hr hg hat)
        have hb8 := blk_grown HW12.out.b hg (Kd.R_ne HW12.out.x.d HW12.out.b (by decide))
        have hy8 := blk_grown HW12.out.y hg (Kd.R_ne HW12.out.x.d HW12.out.y (by decide))
        refine hK.out _ _ ⟨(blk_cell hb8 13).trans rfl, (blk_cell hy8 3).trans rfl, trivial⟩ (fun hHeld => ?_)
        clear hK K
        refine norm_ (a' := ?_) ?_ ?_
        rotate_left
        · show Act.put _ (some 86) _ = _
          simp only [Act.put, List.setIfInBounds_toArray, List.set_cons_zero, List.set_cons_succ, i64_w, i32_w]
          rfl
        refine pure_ (i := 8) (N := some 87) (v := ?_) (a' := ?_) #[true, true, true, true, true, true, true, true, true, false, false] rfl rfl (by kernel_rfl) (fun _ _ _ h => h) (Or.inl ⟨by rfl, ?_⟩) ?_ ?_
        rotate_left
        · intro w'
          go_simp
          with_reducible rfl
        rotate_left
        · simp only [Act.put, List.setIfInBounds_toArray, List.set_cons_zero, List.set_cons_succ, i64_w, i32_w]
          rfl
        refine pure_ (i := 9) (N := some 88) (v := ?_) (a' := ?_) #[true, true, true, true, true, true, true, true, true, true, false] rfl rfl (by kernel_rfl) (fun _ _ _ h => h) (Or.inl ⟨by rfl, ?_⟩) ?_ ?_
        rotate_left
        · intro w'
          go_simp
          with_reducible rfl
        rotate_left
        · simp only [Act.put, List.setIfInBounds_toArray, List.set_cons_zero, List.set_cons_succ, i64_w, i32_w]
          rfl
        have fb := blk_frozen hb8 13
        have cb : w12g.cell? ⟨B, 13, none⟩ = some (.slice k.D k.dn k.dc) := (blk_cell hb8 13).trans rfl
        refine last_ (i := 10) (N := none) #[true, true, true, true, true, true, true, true, true, true, true] rfl rfl (by kernel_rfl) (by decide) (fun K hK => ?_)
        refine skip_ (w1 := ?_) (by rfl) rfl ?_ ?_
        rotate_left
        · go_simp
          rfl
        refine hK.out _ _ ?_
        clear hK K
        refine done_ (by kernel_rfl) ?_
        clear cb fb hHeld hb8 hy8 hr hbl hg hat HW12
        generalize w12g.setCell ⟨B, 13, none⟩ (.slice A12 ln12 C12) = w13 at *
        go_wp2_with fail
        go_wp2
        go_ret
        exact ⟨by rw [HC.out]; rfl, by
          rw [HC.out, if_pos rfl, HTS.out]
          exact ⟨_, ⟨HW13.out.x, MR.of HM0.out.r HW13.out.x HW13.out.b (HTS.out ▸ HGD.out.wf) (HTS.out ▸ HGD.out.tb) (HTS.out ▸ HGD.out.gb) (HTS.out ▸ HGD.out.rb)⟩, HW13.out.t, HW13.out.n⟩⟩
end Go.Proofs.YtnnfcdffnckoiaaDoor.Mo
/- The program's model: grant. -/
set_option linter.unusedVariables false
set_option linter.unusedSimpArgs false
set_option maxRecDepth 100000
namespace Go.Proofs.YtnnfcdffnckoiaaDoor.Mo
open Go.RowKit Go.Proofs.YtnnfcdffnckoiaaDoorW.PrintWords Go.Proofs.YtnnfcdffnckoiaaDoorW.PrintLast Go.Proofs.YtnnfcdffnckoiaaDoorW.PrintMore
attribute [local go_sem] max2_int min2_int max_two min_two
theorem WS.of {w0 w W : World} {B : Nat} {k : Mk} {cx : Cx} {st : St} {e : Ev} {Bd : Option Addr} {c : Nat} (h : MM w0.heap.size W B k cx st) (h0 : Below w0.heap.size w0 w) (hb : Below w.heap.size w W) (hy : W.heap[w.heap.size]? = some (.cells #[.int .i64 e.kind, .int .i64 e.thread, .int .i64 e.op, .int .i64 e.n, .int .u64 e.pos, .int .i64 e.code, .slice Bd e.data.length c] 44 (0, 0))) : WS w0 w W B k k cx st e Bd c :=
  ⟨h.x, (TK.refl h0).below hb, h.r.blk, hy, fun _ hq => .inl hq⟩
/-- A cell of what a producer holds is written. -/
theorem WS.cellH {w0 w W : World} {B : Nat} {k0 k : Mk} {cx : Cx} {st : St} {e : Ev} {Bd : Option Addr} {c : Nat} (h : WS w0 w W B k0 k cx st e Bd c) {q : Nat} (eq : k.H = some ⟨q, 0, none⟩) (j : Nat) (hj : j < st.held.length) (i : Nat) (hi : i < 4) (u : Value) (v : Hd) (hv : (hcl (held st j)).take i ++ [u] ++ (hcl (held st j)).drop (i + 1) = hcl v) :
    WS w0 w (W.setCell ⟨q, j * 4 + i, none⟩ u) B k0 k cx { st with held := st.held.set j v } e Bd c := by
  have hx := h.x.h
  have hn : k.hn = (st.held.map hcl).length := (Kd.R_reads' h.x.h).1
  rw [eq] at hx
  obtain ⟨cs, hc1, hc2, hc3, _⟩ := Kd.R_elem hx [] (j : Int) (by omega) (by rw [hn, List.length_map]; omega)
  have hcs : cs = hcl (held st j) := by
    have h1 := hc2.1
    rw [h1, Int.toNat_natCast]
    simp [held, hj]
  have hp := Kd.R_seg (okp := fun _ => False) hx (j : Int) (by omega) (by rw [hn, List.length_map]; omega) hc1 hc3 (seg := [u]) (j := i) (by show i + 1 ≤ 4; omega) (x' := hcl v) (by
    refine ⟨by rw [hcs]; exact hv, ?_, ?_⟩
    · rw [hcs]; show ((hcl (held st j)).take i ++ [u] ++ (hcl (held st j)).drop (i + 1)).length = 4; rw [hv]; rfl
    · rw [hcs]; show ∀ u' ∈ (hcl (held st j)).take i ++ [u] ++ (hcl (held st j)).drop (i + 1), u'.oneCell' = true
      rw [hv]
      intro u' hu
      simp only [hcl, List.mem_cons, List.not_mem_nil, or_false] at hu
      rcases hu with rfl | rfl | rfl | rfl <;> rfl) (fun _ h => h.elim)
  have hW : W.setCells q ((j : Int).toNat * (Kd.raw 4).sz + i) [u] = W.setCell ⟨q, j * 4 + i, none⟩ u := rfl
  rw [hW] at hp
  have hown : (Value.slice k.H k.hn k.hc).ownBlock = some q := by rw [eq]; rfl
  have hm : (st.held.map hcl).set (j : Int).toNat (hcl v) = (st.held.set j v).map hcl := by rw [Int.toNat_natCast, List.map_set]
  rw [hm] at hp
  have hu := MX.updH h.x hp.1 (by rw [hown]; exact hp.2) (.inl (by rw [hown]; rfl))
  have e2 : ({ k with H := some ⟨q, 0, none⟩, hn := k.hn, hc := k.hc } : Mk) = k := by rw [← eq]
  rw [e2] at hu
  have hne := Kd.R_ne h.x.h h.b (by decide)
  have hne2 := Kd.R_ne h.x.h h.y (by decide)
  rw [hown] at hne hne2
  exact ⟨hu.1, h.t.set (Kd.R_base h.x.h q hown) (h.n q (own_H hown)) _ _, blk_far h.b (p := ⟨q, j * 4 + i, none⟩) (fun e => hne (by rw [e])) u, blk_far h.y (p := ⟨q, j * 4 + i, none⟩) (fun e => hne2 (by rw [e])) u, h.n⟩
/-- What a producer holds, read. -/
theorem WS.formH {w0 w W : World} {B : Nat} {k0 k : Mk} {cx : Cx} {st : St} {e : Ev} {Bd : Option Addr} {c : Nat} (h : WS w0 w W B k0 k cx st e Bd c) {q : Nat} (eq : k.H = some ⟨q, 0, none⟩) (j : Nat) (hj : j < st.held.length) : (W.cell? ⟨q, j * 4, none⟩ = some (.int .i64 (held st j).f) ∧ W.cell? ⟨q, j * 4 + 1, none⟩ = some (.int .i64 (held st j).n) ∧ W.cell? ⟨q, j * 4 + 2, none⟩ = some (.int .i64 (held st j).p) ∧ W.cell? ⟨q, j * 4 + 3, none⟩ = some (.bool (held st j).g)) ∧ ∀ i, W.frozen? ⟨q, i, none⟩ = false := by
  have hl : j < (st.held.map hcl).length := by rw [List.length_map]; exact hj
  obtain ⟨q', cap, hv, hq, _, cells, hb⟩ := Kd.R_form h.x.h (by omega)
  injection hv with hA hn hc
  rw [eq] at hA
  injection hA with hA
  injection hA with hA
  subst hA
  obtain ⟨ad, e1, a0, a1, a2, a3⟩ := held_c h.x.h j hj
  rw [eq] at e1
  injection e1 with e1
  subst e1
  rw [add_plain] at a0 a1 a2 a3
  have e : held st j = st.held[j] := by unfold held; rw [List.getD_eq_getElem?_getD, List.getElem?_eq_getElem hj]; rfl
  rw [e]
  exact ⟨⟨a0, a1, a2, a3⟩, fun i => blk_frozen hb i⟩
set_option maxHeartbeats 8000000 in
theorem pgrant (w0 w : World) (h0 : Below w0.heap.size w0 w) (B : Nat) (k : Mk) (cx : Cx) (st : St) (h : MM w0.heap.size w B k cx st) (e : Ev) (Bd : Option Addr) (c : Nat) (ht : I64 e.thread) (hg : grantC cx st e = 0 → Good cx (grantS st e)) :
    Calls Tryd.prog 63 #[.pointer (some ⟨B, 0, none⟩), .agg #[.int .i64 e.kind, .int .i64 e.thread, .int .i64 e.op, .int .i64 e.n, .int .u64 e.pos, .int .i64 e.code, .slice Bd e.data.length c]] w fun r W => WPost w0 w B k cx st (grantC cx st e) (grantS st e) r W := by
  have H0 := Aside.mk h0
  have HM0 := Aside.mk h
  have HB := Aside.mk (below_alloc (Below.refl w.heap.size w) (.cells #[.int .i64 e.kind, .int .i64 e.thread, .int .i64 e.op, .int .i64 e.n, .int .u64 e.pos, .int .i64 e.code, .slice Bd e.data.length c] 44))
  have HY := Aside.mk (heap_alloc_new w (.cells #[.int .i64 e.kind, .int .i64 e.thread, .int .i64 e.op, .int .i64 e.n, .int .u64 e.pos, .int .i64 e.code, .slice Bd e.data.length c] 44))
  have HT := Aside.mk ht
  have HG := Aside.mk hg
  clear h0 h ht hg
  go_enter Tryd.func63, Tryd.ntmps63
  go_upto_region 1 with (fail)
  generalize w.alloc (.cells #[.int .i64 e.kind, .int .i64 e.thread, .int .i64 e.op, .int .i64 e.n, .int .u64 e.pos, .int .i64 e.code, .slice Bd e.data.length c] 44) = w2 at *
  obtain ⟨y0, y1, y2, y3, y4, y5, y6⟩ := cell7 HY.out
  go_wp2_with fail
  refine (pproducer _ B k cx st (HM0.out.r.below HB.out) e.thread).mono ?_
  rintro r w3 ⟨rfl, hb⟩
  replace HY := Aside.mk (blk_below HY.out hb)
  replace HB := Aside.mk (HB.out.trans (hb.mono HB.out.size))
  clear hb y0 y1 y2 y3 y4 y5 y6
  by_cases hc : ¬ (0 ≤ e.thread ∧ e.thread < (cx.prod : Int))
  · have HV := Aside.mk (show (decide (0 ≤ e.thread) && decide (e.thread < (cx.prod : Int))) = false by
      by_cases h0 : 0 ≤ e.thread
      · rw [decide_eq_false (show ¬ e.thread < (cx.prod : Int) from fun h => hc ⟨h0, h⟩), Bool.and_false]
      · rw [decide_eq_false h0, Bool.false_and])
    rw [HV.out]
    have HC := Aside.mk (show grantC cx st e = 11 from by unfold grantC; rw [if_pos hc])
    clear hc
    go_wp2
    go_ret
    exact ⟨by rw [HC.out]; rfl, by rw [HC.out, if_neg (by decide)]; exact .same HM0.out HB.out H0.out⟩
  have HV := Aside.mk (show (decide (0 ≤ e.thread) && decide (e.thread < (cx.prod : Int))) = true by
    rw [decide_eq_true (show 0 ≤ e.thread by omega), decide_eq_true (show e.thread < (cx.prod : Int) by omega)]; rfl)
  rw [HV.out]
  obtain ⟨t, hth⟩ : ∃ t : Nat, e.thread = (t : Int) := ⟨e.thread.toNat, by omega⟩
  have HTL := Aside.mk (show t < cx.prod by omega)
  have HC := Aside.mk (show grantC cx st e = if (held st t).n = 0 ∨ (held st t).g = true then 14 else if (held st t).f + (held st t).n - least st.gate cx.ends > cx.cap then 17 else 0 from by unfold grantC; rw [if_neg hc, hth, Int.toNat_natCast])
  have HTH := Aside.mk hth
  clear hc
  have HM := Aside.mk (HM0.out.below HB.out)
  obtain ⟨hq, eH, hH1, ⟨a0, a1, a2, a3⟩, hfr⟩ := HM.out.formH t HTL.out
  have HHF := Aside.mk hfr
  have HEH := Aside.mk eH
  clear hfr
  obtain ⟨c0, c1, c2, c3, c4, c5, c6, c7, c8, c9, c10, c11, c12, c13, c14, c15⟩ := cell16 HM.out.r.blk
  have HH1 := Aside.mk hH1
  clear hH1
  rw [eH, HM.out.r.hn] at c11
  clear c0 c1 c3 c4 c5 c6 c7 c9 c10 c12 c13 c14 c15 eH
  rw [HM.out.r.cp] at c2
  have i1 : decide ((t : Int) < (cx.prod : Int)) = true := decide_eq_true (by have := HTL.out; omega)
  have i2 : (t : Int) < (cx.prod : Int) := by have := HTL.out; omega
  have i3 : decide (t < cx.prod) = true := decide_eq_true HTL.out
  have i4 : t < cx.prod := HTL.out
  obtain ⟨y0, y1, y2, y3, y4, y5, y6⟩ := cell7 HY.out
  rw [hth] at y1
  have HHL := Aside.mk (show t < st.held.length by rw [HM.out.r.wf.lh]; exact HTL.out)
  have HLE := Aside.mk (HM.out.r)
  have HBD := Aside.mk (show held st t = hz ∨ (0 ≤ (held st t).f ∧ 1 ≤ (held st t).n ∧ (held st t).f + (held st t).n ≤ st.taken) from by
    rcases HM.out.r.wf.hw t HTL.out with h3 | ⟨h3, _, h4, h5, _⟩
    · exact .inl h3
    · exact .inr ⟨h4, h3, h5⟩)
  have HGS := Aside.mk (show grantS st e = { st with held := st.held.set t { held st t with g := true }, granted := max st.granted ((held st t).f + (held st t).n) } from by unfold grantS; rw [HTH.out, Int.toNat_natCast])
  generalize hhh : held st t = h at *
  have HHH := Aside.mk hhh
  clear hhh hth
  obtain ⟨hf, hn', hp, hg⟩ := h
  simp only at a0 a1 a2 a3 HC HBD HGS
  go_wp2_with fail
  clear c2 c8
  refine start_ (n := 8) (S := fun w' => w'.cell? ⟨B, 11, none⟩ = some (.slice (some ⟨hq, 0, none⟩) cx.prod k.hc) ∧ w'.cell? ⟨w.heap.size, 1, none⟩ = some (.int .i64 t) ∧ True) (ds := []) #[false, false, false, false, false, false, false, false] (by kernel_rfl) rfl rfl ⟨c11, y1, trivial⟩ (fun hHeld => ?_)
  replace HB := Aside.mk (below_drew1 HB.out)
  replace HM := Aside.mk (HM.out.below (below_drew1 (Below.refl _ _)))
  replace HY := Aside.mk (blk_drew HY.out)
  clear y0 y1 y2 y3 y4 y5 y6 a0 a1 a2 a3 c11 HHF
  generalize w3.drew = w4 at *
  refine pure_ (i := 0) (N := some 11) (v := ?_) (a' := ?_) #[true, false, false, false, false, false, false, false] rfl rfl (by kernel_rfl) (fun _ _ _ h => h) (Or.inl ⟨by rfl, ?_⟩) ?_ ?_
  rotate_left
  · intro w'
    go_simp
    with_reducible rfl
  rotate_left
  · simp only [Act.put, List.setIfInBounds_toArray, List.set_cons_zero, List.set_cons_succ, i64_w, i32_w]
    rfl
  refine pure_ (i := 1) (N := some 12) (v := ?_) (a' := ?_) #[true, true, false, false, false, false, false, false] rfl rfl (by kernel_rfl) (fun _ _ _ h => h) (Or.inl ⟨by rfl, ?_⟩) ?_ ?_
  rotate_left
  · intro w'
    go_simp
    with_reducible rfl
  rotate_left
  · simp only [Act.put, List.setIfInBounds_toArray, List.set_cons_zero, List.set_cons_succ, i64_w, i32_w]
    rfl
  refine pure_ (i := 2) (N := some 13) (v := ?_) (a' := ?_) #[true, true, true, false, false, false, false, false] rfl rfl (by kernel_rfl) (fun _ _ _ h => h) (Or.inl ⟨by rfl, ?_⟩) ?_ ?_
  rotate_left
  · intro w'
    go_simp
    with_reducible rfl
  rotate_left
  · simp only [Act.put, List.setIfInBounds_toArray, List.set_cons_zero, List.set_cons_succ, i64_w, i32_w]
    rfl
  refine take_ (i := 3) (N := some 14) (v := ?_) (a' := ?_) #[true, true, true, true, false, false, false, false] rfl rfl (by kernel_rfl) (fun _ _ _ h => h) (Or.inl ⟨by rfl, ?_⟩) hHeld ?_ ?_
  rotate_left
  · rintro w' ⟨s0, s1, s2⟩
    go_simp
    with_reducible rfl
  rotate_left
  · simp only [Act.put, List.setIfInBounds_toArray, List.set_cons_zero, List.set_cons_succ, i64_w, i32_w]
    rfl
  refine pure_ (i := 4) (N := some 15) (v := ?_) (a' := ?_) #[true, true, true, true, true, false, false, false] rfl rfl (by kernel_rfl) (fun _ _ _ h => h) (Or.inl ⟨by rfl, ?_⟩) ?_ ?_
  rotate_left
  · intro w'
    go_simp
    with_reducible rfl
  rotate_left
  · simp only [Act.put, List.setIfInBounds_toArray, List.set_cons_zero, List.set_cons_succ, i64_w, i32_w]
    rfl
  refine take_ (i := 5) (N := some 16) (v := ?_) (a' := ?_) #[true, true, true, true, true, true, false, false] rfl rfl (by kernel_rfl) (fun _ _ _ h => h) (Or.inl ⟨by rfl, ?_⟩) hHeld ?_ ?_
  rotate_left
  · rintro w' ⟨s0, s1, s2⟩
    go_simp
    with_reducible rfl
  rotate_left
  · simp only [Act.put, List.setIfInBounds_toArray, List.set_cons_zero, List.set_cons_succ, i64_w, i32_w]
    rfl
  refine pure_ (i := 6) (N := some 17) (v := ?_) (a' := ?_) #[true, true, true, true, true, true, true, false] rfl rfl (by kernel_rfl) (fun _ _ _ h => h) (Or.inl ⟨by rfl, ?_⟩) ?_ ?_
  rotate_left
  · intro w'
    go_simp
    with_reducible rfl
  rotate_left
  · simp only [Act.put, List.setIfInBounds_toArray, List.set_cons_zero, List.set_cons_succ, i64_w, i32_w]
    rfl
  refine pure_ (i := 7) (N := some 5) (v := ?_) (a' := ?_) #[true, true, true, true, true, true, true, true] rfl rfl (by kernel_rfl) (fun _ _ _ h => h) (Or.inl ⟨by rfl, ?_⟩) ?_ ?_
  rotate_left
  · intro w'
    go_simp
    with_reducible rfl
  rotate_left
  · simp only [Act.put, List.setIfInBounds_toArray, List.set_cons_zero, List.set_cons_succ, i64_w, i32_w]
    rfl
  refine done_ (by kernel_rfl) ?_
  obtain ⟨hq2, eH2, hH12, ⟨a0, a1, a2, a3⟩, hfr⟩ := HM.out.formH t HTL.out
  rw [HEH.out] at eH2
  injection eH2 with eH2
  injection eH2 with eH2
  subst eH2
  rw [HHH.out] at a0 a1 a2 a3
  simp only at a0 a1 a2 a3
  have HHF := Aside.mk hfr
  clear hfr hH12
  skip
  by_cases e1 : hn' = 0
  · have t1 : (hn' == 0) = true := by rw [e1]; rfl
    rw [if_pos (.inl e1)] at HC
    clear e1
    go_wp2
    go_ret
    exact ⟨by rw [HC.out]; rfl, by rw [HC.out, if_neg (by decide)]; exact .same HM0.out HB.out H0.out⟩
  have t1 : (hn' == 0) = false := by simpa using e1
  cases hg with
  | true =>
    rw [if_pos (.inr rfl)] at HC
    clear e1
    go_wp2
    go_ret
    exact ⟨by rw [HC.out]; rfl, by rw [HC.out, if_neg (by decide)]; exact .same HM0.out HB.out H0.out⟩
  | false =>
    rw [if_neg (by simp [e1])] at HC
    have HBE := Aside.mk (show 0 ≤ hf ∧ 1 ≤ hn' ∧ hf + hn' ≤ 100000 from by
      rcases HBD.out with h3 | h3
      · unfold hz at h3; injection h3 with _ h3; exact absurd h3 e1
      · have := HM.out.r.tb; omega)
    clear e1
    go_wp2_with fail
    clear t1
    refine start_ (n := 23) (S := fun w' => w'.cell? ⟨B, 7, none⟩ = some (.slice k.E k.en k.ec) ∧ w'.cell? ⟨B, 2, none⟩ = some (.int .i64 k.cp) ∧ w'.cell? ⟨hq, t * 4, none⟩ = some (.int .i64 hf) ∧ w'.cell? ⟨hq, t * 4 + 1, none⟩ = some (.int .i64 hn') ∧ True) (ds := []) #[false, false, false, false, false, false, false, false, false, false, false, false, false, false, false, false, false, false, false, false, false, false, false] (by kernel_rfl) rfl rfl ⟨(blk_cell (blk_drew HM.out.r.blk) 7).trans rfl, (blk_cell (blk_drew HM.out.r.blk) 2).trans rfl, a0, a1, trivial⟩ (fun hHeld => ?_)
    replace HB := Aside.mk (below_drew1 HB.out)
    replace HM := Aside.mk (HM.out.below (below_drew1 (Below.refl _ _)))
    replace HY := Aside.mk (blk_drew HY.out)
    clear a0 a1 a2 a3 HHF
    generalize w4.drew = w5 at *
    have ew := w64 (show -4611686018427387904 ≤ hf + hn' ∧ hf + hn' ≤ 4611686018427387904 by have := HBE.out; omega)
    refine pure_ (i := 0) (N := some 31) (v := ?_) (a' := ?_) #[true, false, false, false, false, false, false, false, false, false, false, false, false, false, false, false, false, false, false, false, false, false, false] rfl rfl (by kernel_rfl) (fun _ _ _ h => h) (Or.inl ⟨by rfl, ?_⟩) ?_ ?_
    rotate_left
    · intro w'
      go_simp
      with_reducible rfl
    rotate_left
    · simp only [Act.put, List.setIfInBounds_toArray, List.set_cons_zero, List.set_cons_succ, i64_w, i32_w]
      rfl
    refine pure_ (i := 1) (N := some 32) (v := ?_) (a' := ?_) #[true, true, false, false, false, false, false, false, false, false, false, false, false, false, false, false, false, false, false, false, false, false, false] rfl rfl (by kernel_rfl) (fun _ _ _ h => h) (Or.inl ⟨by rfl, ?_⟩) ?_ ?_
    rotate_left
    · intro w'
      go_simp
      with_reducible rfl
    rotate_left
    · simp only [Act.put, List.setIfInBounds_toArray, List.set_cons_zero, List.set_cons_succ, i64_w, i32_w]
      rfl
    refine pure_ (i := 2) (N := some 33) (v := ?_) (a' := ?_) #[true, true, true, false, false, false, false, false, false, false, false, false, false, false, false, false, false, false, false, false, false, false, false] rfl rfl (by kernel_rfl) (fun _ _ _ h => h) (Or.inl ⟨by rfl, ?_⟩) ?_ ?_
    rotate_left
    · intro w'
      go_simp
      with_reducible rfl
    rotate_left
    · simp only [Act.put, List.setIfInBounds_toArray, List.set_cons_zero, List.set_cons_succ, i64_w, i32_w]
      rfl
    refine take_ (i := 3) (N := some 34) (v := ?_) (a' := ?_) #[true, true, true, true, false, false, false, false, false, false, false, false, false, false, false, false, false, false, false, false, false, false, false] rfl rfl (by kernel_rfl) (fun _ _ _ h => h) (Or.inl ⟨by rfl, ?_⟩) hHeld ?_ ?_
    rotate_left
    · rintro w' ⟨s0, s1, s2, s3, s4⟩
      go_simp
      with_reducible rfl
    rotate_left
    · simp only [Act.put, List.setIfInBounds_toArray, List.set_cons_zero, List.set_cons_succ, i64_w, i32_w]
      rfl
    refine pure_ (i := 4) (N := some 35) (v := ?_) (a' := ?_) #[true, true, true, true, true, false, false, false, false, false, false, false, false, false, false, false, false, false, false, false, false, false, false] rfl rfl (by kernel_rfl) (fun _ _ _ h => h) (Or.inl ⟨by rfl, ?_⟩) ?_ ?_
    rotate_left
    · intro w'
      go_simp
      with_reducible rfl
    rotate_left
    · simp only [Act.put, List.setIfInBounds_toArray, List.set_cons_zero, List.set_cons_succ, i64_w, i32_w]
      rfl
    refine pure_ (i := 5) (N := some 36) (v := ?_) (a' := ?_) #[true, true, true, true, true, true, false, false, false, false, false, false, false, false, false, false, false, false, false, false, false, false, false] rfl rfl (by kernel_rfl) (fun _ _ _ h => h) (Or.inl ⟨by rfl, ?_⟩) ?_ ?_
    rotate_left
    · intro w'
      go_simp
      with_reducible rfl
    rotate_left
    · simp only [Act.put, List.setIfInBounds_toArray, List.set_cons_zero, List.set_cons_succ, i64_w, i32_w]
      rfl
    refine pure_ (i := 6) (N := some 37) (v := ?_) (a' := ?_) #[true, true, true, true, true, true, true, false, false, false, false, false, false, false, false, false, false, false, false, false, false, false, false] rfl rfl (by kernel_rfl) (fun _ _ _ h => h) (Or.inl ⟨by rfl, ?_⟩) ?_ ?_
    rotate_left
    · intro w'
      go_simp
      with_reducible rfl
    rotate_left
    · simp only [Act.put, List.setIfInBounds_toArray, List.set_cons_zero, List.set_cons_succ, i64_w, i32_w]
      rfl
    refine take_ (i := 7) (N := some 38) (v := ?_) (a' := ?_) #[true, true, true, true, true, true, true, true, false, false, false, false, false, false, false, false, false, false, false, false, false, false, false] rfl rfl (by kernel_rfl) (fun _ _ _ h => h) (Or.inl ⟨by rfl, ?_⟩) hHeld ?_ ?_
    rotate_left
    · rintro w' ⟨s0, s1, s2, s3, s4⟩
      go_simp
      with_reducible rfl
    rotate_left
    · simp only [Act.put, List.setIfInBounds_toArray, List.set_cons_zero, List.set_cons_succ, i64_w, i32_w]
      rfl
    refine pure_ (i := 8) (N := some 39) (v := ?_) (a' := ?_) #[true, true, true, true, true, true, true, true, true, false, false, false, false, false, false, false, false, false, false, false, false, false, false] rfl rfl (by kernel_rfl) (fun _ _ _ h => h) (Or.inl ⟨by rfl, ?_⟩) ?_ ?_
    rotate_left
    · intro w'
      go_simp
      with_reducible rfl
    rotate_left
    · simp only [Act.put, List.setIfInBounds_toArray, List.set_cons_zero, List.set_cons_succ, i64_w, i32_w]
      rfl
    refine pure_ (i := 9) (N := some 40) (v := ?_) (a' := ?_) #[true, true, true, true, true, true, true, true, true, true, false, false, false, false, false, false, false, false, false, false, false, false, false] rfl rfl (by kernel_rfl) (fun _ _ _ h => h) (Or.inl ⟨by rfl, ?_⟩) ?_ ?_
    rotate_left
    · intro w'
      go_simp
      with_reducible rfl
    rotate_left
    · simp only [Act.put, List.setIfInBounds_toArray, List.set_cons_zero, List.set_cons_succ, i64_w, i32_w]
      rfl
    refine pure_ (i := 10) (N := some 41) (v := ?_) (a' := ?_) #[true, true, true, true, true, true, true, true, true, true, true, false, false, false, false, false, false, false, false, false, false, false, false] rfl rfl (by kernel_rfl) (fun _ _ _ h => h) (Or.inl ⟨by rfl, ?_⟩) ?_ ?_
    rotate_left
    · intro w'
      go_simp
      with_reducible rfl
    rotate_left
    · simp only [Act.put, List.setIfInBounds_toArray, List.set_cons_zero, List.set_cons_succ, i64_w, i32_w]
      rfl
    refine pure_ (i := 11) (N := some 42) (v := ?_) (a' := ?_) #[true, true, true, true, true, true, true, true, true, true, true, true, false, false, false, false, false, false, false, false, false, false, false] rfl rfl (by kernel_rfl) (fun _ _ _ h => h) (Or.inl ⟨by rfl, ?_⟩) ?_ ?_
    rotate_left
    · intro w'
      go_simp
      with_reducible rfl
    rotate_left
    · simp only [Act.put, List.setIfInBounds_toArray, List.set_cons_zero, List.set_cons_succ, i64_w, i32_w]
      rfl
    refine pure_ (i := 12) (N := some 43) (v := ?_) (a' := ?_) #[true, true, true, true, true, true, true, true, true, true, true, true, true, false, false, false, false, false, false, false, false, false, false] rfl rfl (by kernel_rfl) (fun _ _ _ h => h) (Or.inl ⟨by rfl, ?_⟩) ?_ ?_
    rotate_left
    · intro w'
      go_simp
      with_reducible rfl
    rotate_left
    · simp only [Act.put, List.setIfInBounds_toArray, List.set_cons_zero, List.set_cons_succ, i64_w, i32_w]
      rfl
    refine take_ (i := 13) (N := some 44) (v := ?_) (a' := ?_) #[true, true, true, true, true, true, true, true, true, true, true, true, true, true, false, false, false, false, false, false, false, false, false] rfl rfl (by kernel_rfl) (fun _ _ _ h => h) (Or.inl ⟨by rfl, ?_⟩) hHeld ?_ ?_
    rotate_left
    · rintro w' ⟨s0, s1, s2, s3, s4⟩
      go_simp
      with_reducible rfl
    rotate_left
    · simp only [Act.put, List.setIfInBounds_toArray, List.set_cons_zero, List.set_cons_succ, i64_w, i32_w]
      rfl
    refine pure_ (i := 16) (N := some 47) (v := ?_) (a' := ?_) #[true, true, true, true, true, true, true, true, true, true, true, true, true, true, false, false, true, false, false, false, false, false, false] rfl rfl (by kernel_rfl) (fun _ _ _ h => h) (Or.inl ⟨by rfl, ?_⟩) ?_ ?_
    rotate_left
    · intro w'
      go_simp
      with_reducible rfl
    rotate_left
    · simp only [Act.put, List.setIfInBounds_toArray, List.set_cons_zero, List.set_cons_succ, i64_w, i32_w]
      rfl
    refine pure_ (i := 17) (N := some 48) (v := ?_) (a' := ?_) #[true, true, true, true, true, true, true, true, true, true, true, true, true, true, false, false, true, true, false, false, false, false, false] rfl rfl (by kernel_rfl) (fun _ _ _ h => h) (Or.inl ⟨by rfl, ?_⟩) ?_ ?_
    rotate_left
    · intro w'
      go_simp
      with_reducible rfl
    rotate_left
    · simp only [Act.put, List.setIfInBounds_toArray, List.set_cons_zero, List.set_cons_succ, i64_w, i32_w]
      rfl
    refine pure_ (i := 18) (N := some 49) (v := ?_) (a' := ?_) #[true, true, true, true, true, true, true, true, true, true, true, true, true, true, false, false, true, true, true, false, false, false, false] rfl rfl (by kernel_rfl) (fun _ _ _ h => h) (Or.inl ⟨by rfl, ?_⟩) ?_ ?_
    rotate_left
    · intro w'
      go_simp
      with_reducible rfl
    rotate_left
    · simp only [Act.put, List.setIfInBounds_toArray, List.set_cons_zero, List.set_cons_succ, i64_w, i32_w]
      rfl
    refine pure_ (i := 19) (N := some 50) (v := ?_) (a' := ?_) #[true, true, true, true, true, true, true, true, true, true, true, true, true, true, false, false, true, true, true, true, false, false, false] rfl rfl (by kernel_rfl) (fun _ _ _ h => h) (Or.inl ⟨by rfl, ?_⟩) ?_ ?_
    rotate_left
    · intro w'
      go_simp
      with_reducible rfl
    rotate_left
    · simp only [Act.put, List.setIfInBounds_toArray, List.set_cons_zero, List.set_cons_succ, i64_w, i32_w]
      rfl
    refine take_ (i := 20) (N := some 51) (v := ?_) (a' := ?_) #[true, true, true, true, true, true, true, true, true, true, true, true, true, true, false, false, true, true, true, true, true, false, false] rfl rfl (by kernel_rfl) (fun _ _ _ h => h) (Or.inl ⟨by rfl, ?_⟩) hHeld ?_ ?_
    rotate_left
    · rintro w' ⟨s0, s1, s2, s3, s4⟩
      go_simp
      with_reducible rfl
    rotate_left
    · simp only [Act.put, List.setIfInBounds_toArray, List.set_cons_zero, List.set_cons_succ, i64_w, i32_w]
      rfl
    refine one_ (i := 14) (N := some 45) #[true, true, true, true, true, true, true, true, true, true, true, true, true, true, true, false, true, true, true, true, true, false, false] rfl rfl (by kernel_rfl) (by decide) (fun K hK => ?_)
    refine goes_ Tryd.func61 (by kernel_rfl) rfl #[.pointer (some ⟨B, 0, none⟩), .slice k.E k.en k.ec] (by rfl) rfl rfl (by (try simp only [List.map_toArray, List.map_cons, List.map_nil]); first | done | rfl) ?_
    rw [HM.out.r.en]
    with_reducible refine (pleast_ _ B k cx st HM.out.r k.E k.ec cx.ends HM.out.r.e (by rw [← HM.out.r.en]; exact HM.out.r.ec) HM.out.r.en0 (by have := HM.out.r.el; omega) HM.out.r.eb).mono ?_
    rintro q w6 ⟨rfl, hb⟩
    refine ⟨_, rfl, ?_⟩
    replace HB := Aside.mk (HB.out.trans (hb.mono HB.out.size))
    replace HM := Aside.mk (HM.out.below hb)
    replace HY := Aside.mk (blk_below HY.out hb)
    clear hb
    obtain ⟨hq2, eH2, hH12, ⟨a0, a1, a2, a3⟩, hfr⟩ := HM.out.formH t HTL.out
    rw [HEH.out] at eH2
    injection eH2 with eH2
    injection eH2 with eH2
    subst eH2
    rw [HHH.out] at a0 a1 a2 a3
    simp only at a0 a1 a2 a3
    have HHF := Aside.mk hfr
    clear hfr hH12
    refine hK.out _ _ ⟨(blk_cell HM.out.r.blk 7).trans rfl, (blk_cell HM.out.r.blk 2).trans rfl, a0, a1, trivial⟩ (fun hHeld => ?_)
    clear hK K
    refine norm_ (a' := ?_) ?_ ?_
    rotate_left
    · show Act.put _ (some 45) _ = _
      simp only [Act.put, List.setIfInBounds_toArray, List.set_cons_zero, List.set_cons_succ, i64_w, i32_w]
      rfl
    have HLB := Aside.mk (least_bd HM.out.r.gb cx.ends)
    have HCP := Aside.mk HM.out.r.cp
    generalize hle : least st.gate cx.ends = le at *
    have ew2 := w64 (show -4611686018427387904 ≤ hf + hn' - le ∧ hf + hn' - le ≤ 4611686018427387904 by have := HBE.out; have := HLB.out; omega)
    refine pure_ (i := 15) (N := some 46) (v := ?_) (a' := ?_) #[true, true, true, true, true, true, true, true, true, true, true, true, true, true, true, true, true, true, true, true, true, false, false] rfl rfl (by kernel_rfl) (fun _ _ _ h => h) (Or.inl ⟨by rfl, ?_⟩) ?_ ?_
    rotate_left
    · intro w'
      go_simp
      with_reducible rfl
    rotate_left
    · simp only [Act.put, List.setIfInBounds_toArray, List.set_cons_zero, List.set_cons_succ, i64_w, i32_w]
      rfl
    refine pure_ (i := 21) (N := some 52) (v := ?_) (a' := ?_) #[true, true, true, true, true, true, true, true, true, true, true, true, true, true, true, true, true, true, true, true, true, true, false] rfl rfl (by kernel_rfl) (fun _ _ _ h => h) (Or.inl ⟨by rfl, ?_⟩) ?_ ?_
    rotate_left
    · intro w'
      go_simp
      with_reducible rfl
    rotate_left
    · simp only [Act.put, List.setIfInBounds_toArray, List.set_cons_zero, List.set_cons_succ, i64_w, i32_w]
      rfl
    refine pure_ (i := 22) (N := some 30) (v := ?_) (a' := ?_) #[true, true, true, true, true, true, true, true, true, true, true, true, true, true, true, true, true, true, true, true, true, true, true] rfl rfl (by kernel_rfl) (fun _ _ _ h => h) (Or.inl ⟨by rfl, ?_⟩) ?_ ?_
    rotate_left
    · intro w'
      go_simp
      with_reducible rfl
    rotate_left
    · simp only [Act.put, List.setIfInBounds_toArray, List.set_cons_zero, List.set_cons_succ, i64_w, i32_w]
      rfl
    refine done_ (by kernel_rfl) ?_
    skip
    by_cases h3 : cx.cap < hf + hn' - le
    · have t3 : decide (k.cp < hf + hn' - le) = true := decide_eq_true (by rw [HCP.out]; exact h3)
      have t4 : decide (hf + hn' - le ≤ k.cp) = false := decide_eq_false (by rw [HCP.out]; omega)
      rw [if_pos h3] at HC
      clear h3 hle t4
      simp only [t3]
      go_wp2
      go_ret
      exact ⟨by rw [HC.out]; rfl, by rw [HC.out, if_neg (by decide)]; exact .same HM0.out HB.out H0.out⟩
    have t3 : decide (k.cp < hf + hn' - le) = false := decide_eq_false (by rw [HCP.out]; exact h3)
    have t4 : decide (hf + hn' - le ≤ k.cp) = true := decide_eq_true (by rw [HCP.out]; omega)
    rw [if_neg h3] at HC
    clear h3 hle t4
    simp only [t3]
    have f3 := HHF.out (t * 4 + 3)
    go_upto_region 9 with (fail)
    have HW := Aside.mk ((WS.of HM.out H0.out HB.out HY.out).cellH HEH.out t HHL.out 3 (by decide) (.bool true) ⟨hf, hn', hp, true⟩ (by rw [HHH.out]; rfl))
    have HGD := Aside.mk (HG.out HC.out)
    have HRB := Aside.mk HM.out.r.rb
    clear hHeld HM HY HB a0 a1 a2 a3 HHF f3 ew2
    generalize w6.setCell ⟨hq, t * 4 + 3, none⟩ (.bool true) = w7 at *
    obtain ⟨⟨a0, a1, a2, a3⟩, hfr⟩ := HW.out.formH HEH.out t (by rw [List.length_set]; exact HHL.out)
    rw [show held { st with held := st.held.set t ⟨hf, hn', hp, true⟩ } t = ⟨hf, hn', hp, true⟩ from (held_set _ _ _ _ HHL.out).trans (if_pos rfl)] at a0 a1 a2 a3
    simp only at a0 a1 a2 a3
    go_wp2_with fail
    refine start_ (n := 18) (S := fun w' => w'.cell? ⟨B, 9, none⟩ = some (.int .i64 st.granted) ∧ w'.cell? ⟨hq, t * 4, none⟩ = some (.int .i64 hf) ∧ w'.cell? ⟨hq, t * 4 + 1, none⟩ = some (.int .i64 hn') ∧ True) (ds := [17]) #[false, false, false, false, false, false, false, false, false, false, false, false, false, false, false, false, false, false] (by kernel_rfl) rfl rfl ⟨(blk_cell (blk_drew HW.out.b) 9).trans rfl, a0, a1, trivial⟩ (fun hHeld => ?_)
    replace HW := Aside.mk (HW.out.below (below_drew1 (Below.refl _ _)))
    clear a0 a1 a2 a3 hfr
    generalize w7.drew = w8 at *
    refine pure_ (i := 0) (N := some 56) (v := ?_) (a' := ?_) #[true, false, false, false, false, false, false, false, false, false, false, false, false, false, false, false, false, false] rfl rfl (by kernel_rfl) (fun _ _ _ h => h) (Or.inl ⟨by rfl, ?_⟩) ?_ ?_
    rotate_left
    · intro w'
      go_simp
      with_reducible rfl
    rotate_left
    · simp only [Act.put, List.setIfInBounds_toArray, List.set_cons_zero, List.set_cons_succ, i64_w, i32_w]
      rfl
    refine pure_ (i := 1) (N := some 57) (v := ?_) (a' := ?_) #[true, true, false, false, false, false, false, false, false, false, false, false, false, false, false, false, false, false] rfl rfl (by kernel_rfl) (fun _ _ _ h => h) (Or.inl ⟨by rfl, ?_⟩) ?_ ?_
    rotate_left
    · intro w'
      go_simp
      with_reducible rfl
    rotate_left
    · simp only [Act.put, List.setIfInBounds_toArray, List.set_cons_zero, List.set_cons_succ, i64_w, i32_w]
      rfl
    refine pure_ (i := 2) (N := some 58) (v := ?_) (a' := ?_) #[true, true, true, false, false, false, false, false, false, false, false, false, false, false, false, false, false, false] rfl rfl (by kernel_rfl) (fun _ _ _ h => h) (Or.inl ⟨by rfl, ?_⟩) ?_ ?_
    rotate_left
    · intro w'
      go_simp
      with_reducible rfl
    rotate_left
    · simp only [Act.put, List.setIfInBounds_toArray, List.set_cons_zero, List.set_cons_succ, i64_w, i32_w]
      rfl
    refine pure_ (i := 3) (N := some 59) (v := ?_) (a' := ?_) #[true, true, true, true, false, false, false, false, false, false, false, false, false, false, false, false, false, false] rfl rfl (by kernel_rfl) (fun _ _ _ h => h) (Or.inl ⟨by rfl, ?_⟩) ?_ ?_
    rotate_left
    · intro w'
      go_simp
      with_reducible rfl
    rotate_left
    · simp only [Act.put, List.setIfInBounds_toArray, List.set_cons_zero, List.set_cons_succ, i64_w, i32_w]
      rfl
    refine take_ (i := 4) (N := some 60) (v := ?_) (a' := ?_) #[true, true, true, true, true, false, false, false, false, false, false, false, false, false, false, false, false, false] rfl rfl (by kernel_rfl) (fun _ _ _ h => h) (Or.inl ⟨by rfl, ?_⟩) hHeld ?_ ?_
    rotate_left
    · rintro w' ⟨s0, s1, s2, s3⟩
      go_simp
      with_reducible rfl
    rotate_left
    · simp only [Act.put, List.setIfInBounds_toArray, List.set_cons_zero, List.set_cons_succ, i64_w, i32_w]
      rfl
    refine pure_ (i := 5) (N := some 61) (v := ?_) (a' := ?_) #[true, true, true, true, true, true, false, false, false, false, false, false, false, false, false, false, false, false] rfl rfl (by kernel_rfl) (fun _ _ _ h => h) (Or.inl ⟨by rfl, ?_⟩) ?_ ?_
    rotate_left
    · intro w'
      go_simp
      with_reducible rfl
    rotate_left
    · simp only [Act.put, List.setIfInBounds_toArray, List.set_cons_zero, List.set_cons_succ, i64_w, i32_w]
      rfl
    refine pure_ (i := 6) (N := some 62) (v := ?_) (a' := ?_) #[true, true, true, true, true, true, true, false, false, false, false, false, false, false, false, false, false, false] rfl rfl (by kernel_rfl) (fun _ _ _ h => h) (Or.inl ⟨by rfl, ?_⟩) ?_ ?_
    rotate_left
    · intro w'
      go_simp
      with_reducible rfl
    rotate_left
    · simp only [Act.put, List.setIfInBounds_toArray, List.set_cons_zero, List.set_cons_succ, i64_w, i32_w]
      rfl
    refine pure_ (i := 7) (N := some 63) (v := ?_) (a' := ?_) #[true, true, true, true, true, true, true, true, false, false, false, false, false, false, false, false, false, false] rfl rfl (by kernel_rfl) (fun _ _ _ h => h) (Or.inl ⟨by rfl, ?_⟩) ?_ ?_
    rotate_left
    · intro w'
      go_simp
      with_reducible rfl
    rotate_left
    · simp only [Act.put, List.setIfInBounds_toArray, List.set_cons_zero, List.set_cons_succ, i64_w, i32_w]
      rfl
    refine take_ (i := 8) (N := some 64) (v := ?_) (a' := ?_) #[true, true, true, true, true, true, true, true, true, false, false, false, false, false, false, false, false, false] rfl rfl (by kernel_rfl) (fun _ _ _ h => h) (Or.inl ⟨by rfl, ?_⟩) hHeld ?_ ?_
    rotate_left
    · rintro w' ⟨s0, s1, s2, s3⟩
      go_simp
      with_reducible rfl
    rotate_left
    · simp only [Act.put, List.setIfInBounds_toArray, List.set_cons_zero, List.set_cons_succ, i64_w, i32_w]
      rfl
    refine pure_ (i := 9) (N := some 65) (v := ?_) (a' := ?_) #[true, true, true, true, true, true, true, true, true, true, false, false, false, false, false, false, false, false] rfl rfl (by kernel_rfl) (fun _ _ _ h => h) (Or.inl ⟨by rfl, ?_⟩) ?_ ?_
    rotate_left
    · intro w'
      go_simp
      with_reducible rfl
    rotate_left
    · simp only [Act.put, List.setIfInBounds_toArray, List.set_cons_zero, List.set_cons_succ, i64_w, i32_w]
      rfl
    refine pure_ (i := 10) (N := some 66) (v := ?_) (a' := ?_) #[true, true, true, true, true, true, true, true, true, true, true, false, false, false, false, false, false, false] rfl rfl (by kernel_rfl) (fun _ _ _ h => h) (Or.inl ⟨by rfl, ?_⟩) ?_ ?_
    rotate_left
    · intro w'
      go_simp
      with_reducible rfl
    rotate_left
    · simp only [Act.put, List.setIfInBounds_toArray, List.set_cons_zero, List.set_cons_succ, i64_w, i32_w]
      rfl
    refine pure_ (i := 11) (N := some 67) (v := ?_) (a' := ?_) #[true, true, true, true, true, true, true, true, true, true, true, true, false, false, false, false, false, false] rfl rfl (by kernel_rfl) (fun _ _ _ h => h) (Or.inl ⟨by rfl, ?_⟩) ?_ ?_
    rotate_left
    · intro w'
      go_simp
      with_reducible rfl
    rotate_left
    · simp only [Act.put, List.setIfInBounds_toArray, List.set_cons_zero, List.set_cons_succ, i64_w, i32_w]
      rfl
    refine take_ (i := 12) (N := some 68) (v := ?_) (a' := ?_) #[true, true, true, true, true, true, true, true, true, true, true, true, true, false, false, false, false, false] rfl rfl (by kernel_rfl) (fun _ _ _ h => h) (Or.inl ⟨by rfl, ?_⟩) hHeld ?_ ?_
    rotate_left
    · rintro w' ⟨s0, s1, s2, s3⟩
      go_simp
      with_reducible rfl
    rotate_left
    · simp only [Act.put, List.setIfInBounds_toArray, List.set_cons_zero, List.set_cons_succ, i64_w, i32_w]
      rfl
    refine pure_ (i := 13) (N := some 69) (v := ?_) (a' := ?_) #[true, true, true, true, true, true, true, true, true, true, true, true, true, true, false, false, false, false] rfl rfl (by kernel_rfl) (fun _ _ _ h => h) (Or.inl ⟨by rfl, ?_⟩) ?_ ?_
    rotate_left
    · intro w'
      go_simp
      with_reducible rfl
    rotate_left
    · simp only [Act.put, List.setIfInBounds_toArray, List.set_cons_zero, List.set_cons_succ, i64_w, i32_w]
      rfl
    refine pure_ (i := 14) (N := some 70) (v := ?_) (a' := ?_) #[true, true, true, true, true, true, true, true, true, true, true, true, true, true, true, false, false, false] rfl rfl (by kernel_rfl) (fun _ _ _ h => h) (Or.inl ⟨by rfl, ?_⟩) ?_ ?_
    rotate_left
    · intro w'
      go_simp
      with_reducible rfl
    rotate_left
    · simp only [Act.put, List.setIfInBounds_toArray, List.set_cons_zero, List.set_cons_succ, i64_w, i32_w]
      rfl
    refine pure_ (i := 15) (N := some 71) (v := ?_) (a' := ?_) #[true, true, true, true, true, true, true, true, true, true, true, true, true, true, true, true, false, false] rfl rfl (by kernel_rfl) (fun _ _ _ h => h) (Or.inl ⟨by rfl, ?_⟩) ?_ ?_
    rotate_left
    · intro w'
      go_simp
      with_reducible rfl
    rotate_left
    · simp only [Act.put, List.setIfInBounds_toArray, List.set_cons_zero, List.set_cons_succ, i64_w, i32_w]
      rfl
    refine pure_ (i := 16) (N := some 72) (v := ?_) (a' := ?_) #[true, true, true, true, true, true, true, true, true, true, true, true, true, true, true, true, true, false] rfl rfl (by kernel_rfl) (fun _ _ _ h => h) (Or.inl ⟨by rfl, ?_⟩) ?_ ?_
    rotate_left
    · intro w'
      go_simp
      with_reducible rfl
    rotate_left
    · simp only [Act.put, List.setIfInBounds_toArray, List.set_cons_zero, List.set_cons_succ, i64_w, i32_w]
      rfl
    have fb := blk_frozen HW.out.b 9
    have cb : w8.cell? ⟨B, 9, none⟩ = some (.int .i64 st.granted) := (blk_cell HW.out.b 9).trans rfl
    refine last_ (i := 17) (N := none) #[true, true, true, true, true, true, true, true, true, true, true, true, true, true, true, true, true, true] rfl rfl (by kernel_rfl) (by decide) (fun K hK => ?_)
    refine skip_ (w1 := ?_) (by rfl) rfl ?_ ?_
    rotate_left
    · go_simp
      rfl
    refine hK.out _ _ ?_
    clear hK K
    refine done_ (by kernel_rfl) ?_
    have hmx : (if st.granted < hf + hn' then hf + hn' else st.granted) = max st.granted (hf + hn') := by split <;> omega
    rw [hmx]
    have HW9 := Aside.mk (HW.out.box (st' := { st with held := st.held.set t ⟨hf, hn', hp, true⟩, granted := max st.granted (hf + hn') }) 9 (.int .i64 (max st.granted (hf + hn'))) rfl ⟨rfl, rfl, rfl, rfl, rfl⟩)
    clear cb fb hHeld HW hmx
    generalize hgm : max st.granted (hf + hn') = gm at *
    generalize w8.setCell ⟨B, 9, none⟩ (.int .i64 gm) = w9 at *
    go_wp2
    go_ret
    exact ⟨by rw [HC.out]; rfl, by
      rw [HC.out, if_pos rfl, HGS.out]
      exact ⟨k, ⟨HW9.out.x, HM0.out.r.same HW9.out.x HW9.out.b (HGS.out ▸ HGD.out)⟩, HW9.out.t, HW9.out.n⟩⟩
end Go.Proofs.YtnnfcdffnckoiaaDoor.Mo
