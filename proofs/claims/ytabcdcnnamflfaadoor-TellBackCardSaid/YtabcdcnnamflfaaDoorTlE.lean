/- The program's event of a line that is one: walked. Asked: the library's variables lie as laid. -/
import Derived.Test.YtabcdcnnamflfaaDoorTlD
set_option linter.unusedVariables false
set_option linter.unusedSimpArgs false
set_option maxRecDepth 100000
namespace Go.Proofs.YtabcdcnnamflfaaDoor.Wd
open Go.RowKit Go.Proofs.YtabcdcnnamflfaaDoorW.PrintWords Go.Proofs.YtabcdcnnamflfaaDoorW.PrintLast Go.Proofs.YtabcdcnnamflfaaDoorW.PrintMore
open QTe (EvOk In64 S76 k76 at_T76 rd_T76)
/-- What stands while an event is read: the words that are left, and the event's own box behind them. -/
structure RS (w0 w : World) (B E : Nat) (ws : List (List UInt8)) (A : Option Addr) (c : Nat) (ev : Array Value) : Prop where
  b : Below w0.heap.size w0 w
  hB : w0.heap.size ≤ B
  ne : B ≠ E
  he : w0.heap.size ≤ E
  nr : w0.heap.size ≠ B ∧ w0.heap.size ≠ E
  br : w.heap[w0.heap.size]? = some (.cells #[.int .i64 0, .int .i64 0, .int .i64 0, .int .i64 0, .int .u64 0, .int .i64 0, .slice none 0 0] 76 (0, 0))
  ps : PS w B ws false A c
  bx : w.heap[E]? = some (.cells ev 76 (0, 0))
  lib : LibW w0
section
variable {w0 w w' : World} {B E : Nat} {ws ws' : List (List UInt8)} {A A' : Option Addr} {c c' : Nat} {ev : Array Value}
theorem RS.lf (h : RS w0 w B E ws A c ev) : LF B w := ⟨fun w2 b2 => h.lib.below (h.b.trans (b2.mono h.hB))⟩
theorem RS.turned (h : RS w0 w B E ws A c ev) (t : Turned B w w') (p : PS w' B ws' false A' c') : RS w0 w' B E ws' A' c' ev :=
  ⟨h.b.trans (t.b.mono h.hB), h.hB, h.ne, h.he, h.nr, t.k.blk h.br h.nr.1 (by simp), p, t.k.blk h.bx (fun e => h.ne e.symm) (by simp), h.lib⟩
theorem RS.put (h : RS w0 w B E ws A c ev) (i : Nat) (u : Value) : RS w0 (w.setCell ⟨E, i, none⟩ u) B E ws A c (ev.setIfInBounds i u) :=
  ⟨h.b.setCell h.he _, h.hB, h.ne, h.he, h.nr, blk_far h.br h.nr.2 _, ⟨blk_far h.ps.bx h.ne _, h.ps.cap, fun hn => by
    obtain ⟨g, off, cl, e, hg, hb, hc⟩ := h.ps.tx hn
    exact ⟨g, off, cl, e, hg, blk_far hb (fun e2 => blk_ne hb h.bx (by decide) e2) _, hc⟩⟩, blk_set h.bx i u, h.lib⟩
end
/-- A result's cells, laid one by one. -/
theorem fin76 {w0 w : World} {R : Nat} {a0 a1 a2 a3 a4 a5 a6 : Value} (v0 v1 v2 v3 v4 v5 v6 : Value) (b : Below w0.heap.size w0 w) (hR : w0.heap.size ≤ R) (h : w.heap[R]? = some (.cells #[a0, a1, a2, a3, a4, a5, a6] 76 (0, 0))) :
    (((((((w.setCell ⟨R, 0, none⟩ v0).setCell ⟨R, 1, none⟩ v1).setCell ⟨R, 2, none⟩ v2).setCell ⟨R, 3, none⟩ v3).setCell ⟨R, 4, none⟩ v4).setCell ⟨R, 5, none⟩ v5).setCell ⟨R, 6, none⟩ v6).heap[R]? = some (.cells #[v0, v1, v2, v3, v4, v5, v6] 76 (0, 0)) ∧ Below w0.heap.size w0 (((((((w.setCell ⟨R, 0, none⟩ v0).setCell ⟨R, 1, none⟩ v1).setCell ⟨R, 2, none⟩ v2).setCell ⟨R, 3, none⟩ v3).setCell ⟨R, 4, none⟩ v4).setCell ⟨R, 5, none⟩ v5).setCell ⟨R, 6, none⟩ v6) ∧ ∀ A l, Nums w A l → Nums (((((((w.setCell ⟨R, 0, none⟩ v0).setCell ⟨R, 1, none⟩ v1).setCell ⟨R, 2, none⟩ v2).setCell ⟨R, 3, none⟩ v3).setCell ⟨R, 4, none⟩ v4).setCell ⟨R, 5, none⟩ v5).setCell ⟨R, 6, none⟩ v6) A l := by
  have k0 := blk_put (cs' := #[v0, a1, a2, a3, a4, a5, a6]) h 0 v0 rfl
  have k1 := blk_put (cs' := #[v0, v1, a2, a3, a4, a5, a6]) k0 1 v1 rfl
  have k2 := blk_put (cs' := #[v0, v1, v2, a3, a4, a5, a6]) k1 2 v2 rfl
  have k3 := blk_put (cs' := #[v0, v1, v2, v3, a4, a5, a6]) k2 3 v3 rfl
  have k4 := blk_put (cs' := #[v0, v1, v2, v3, v4, a5, a6]) k3 4 v4 rfl
  have k5 := blk_put (cs' := #[v0, v1, v2, v3, v4, v5, a6]) k4 5 v5 rfl
  have k6 := blk_put (cs' := #[v0, v1, v2, v3, v4, v5, v6]) k5 6 v6 rfl
  exact ⟨k6, (((((((b.setCell hR _).setCell hR _).setCell hR _).setCell hR _).setCell hR _).setCell hR _).setCell hR _), fun A l hn => ((((((hn.set h (by decide) 0 _).set k0 (by decide) 1 _).set k1 (by decide) 2 _).set k2 (by decide) 3 _).set k3 (by decide) 4 _).set k4 (by decide) 5 _).set k5 (by decide) 6 _⟩
/-- The words behind the first two. -/
def wt (e : Ev) : List (List UInt8) :=
  if e.kind = 1 then [opX e.op, Lib.itoa e.n, listTxt e.data]
  else if e.kind = 2 then [opX e.op, Lib.itoa e.code, Lib.decDigits e.pos.toNat, Lib.itoa e.n, listTxt e.data]
  else if e.kind = 3 then [Lib.decDigits e.pos.toNat, Lib.itoa e.n]
  else if e.kind = 4 then []
  else if e.kind = 5 then [Lib.decDigits e.pos.toNat, Lib.itoa e.n, listTxt e.data]
  else [Lib.decDigits e.pos.toNat]
theorem wds_wt (e : Ev) : wds e = Lib.itoa e.thread :: kindT e.kind :: wt e := rfl
theorem wt_len (e : Ev) : (wt e).length ≤ 5 := by
  unfold wt
  repeat' split
  all_goals simp
theorem split_line (e : Ev) (hc : cleanB e = true) (ho : EvOk e) (hl : e.data.length ≤ 100) (w : World) (hw : LibW w) :
    Calls Tryd.prog 12 #[.string (bs (lineE e))] w fun r w' => ∃ A c, r = .returned (.tuple #[.slice A ((wt e).length + 1 + 1) c, .int .i64 0]) ∧ (Lib.itoa e.thread :: kindT e.kind :: wt e).length ≤ c ∧ Txts w' A (Lib.itoa e.thread :: kindT e.kind :: wt e) ∧ Below w.heap.size w w' := by
  rw [← wds_wt]
  have hwl : (wt e).length + 1 + 1 = (wds e).length := rfl
  rw [hwl]
  have hlen := lineE_len ho hl
  refine (split_w (bs (lineE e)) (by rw [bs_size]; omega) w hw).mono ?_
  rintro r w' ⟨hs, hb⟩
  unfold SplitRes at hs
  rw [bs_data, (lineE_clean hc).2.2.1] at hs
  rcases hs with ⟨h1, _⟩ | ⟨_, h2, _⟩ | ⟨_, _, A, c, h3, h4, h5⟩
  · omega
  · rw [(lineE_clean hc).2.1] at h2; cases h2
  · exact ⟨A, c, h3, h4, h5, hb⟩
theorem ps_new {w : World} {A : Option Addr} {c : Nat} {ws : List (List UInt8)} (h : Txts w A ws) (hc : ws.length ≤ c) : PS (w.alloc (.cells #[.slice A ws.length c, .bool false] 115)) w.heap.size ws false A c :=
  ⟨heap_alloc_new _ _, hc, fun hn => by
    obtain ⟨g, cl, e, hb, hj⟩ := h hn
    exact ⟨g, 0, cl, e, blk_lt hb, blk_alloc hb _, fun j hjl => by rw [Nat.zero_add]; exact hj j hjl⟩⟩
set_option maxHeartbeats 8000000 in
theorem read_ (e : Ev) (hc : cleanB e = true) (ho : EvOk e) (hl : e.data.length ≤ 100) (w : World) (hw : LibW w) :
    Calls Tryd.prog 62 #[.string (bs (lineE e))] w fun r w' => ∃ A c, r = .returned (.tuple #[.agg #[.int .i64 e.kind, .int .i64 e.thread, .int .i64 e.op, .int .i64 e.n, .int .u64 e.pos, .int .i64 e.code, .slice A e.data.length c], .bool true]) ∧ e.data.length ≤ c ∧ Nums w' A e.data ∧ Below w.heap.size w w' := by
  have HW := Aside.mk hw
  have HO := Aside.mk ho
  have HL := Aside.mk hl
  have HC := Aside.mk hc
  have HK := Aside.mk (clean_kind hc)
  have HS := Aside.mk (split_line e hc ho hl)
  have HB1 := Aside.mk (below_alloc (Below.refl w.heap.size w) (.cells #[.int .i64 0, .int .i64 0, .int .i64 0, .int .i64 0, .int .u64 0, .int .i64 0, .slice none 0 0] 76))
  obtain ⟨m, hm⟩ : ∃ m : Nat, e.pos = (m : Int) := ⟨e.pos.toNat, (Int.toNat_of_nonneg ho.p.1).symm⟩
  have HPL := Aside.mk (show m < 18446744073709551616 by have := ho.p; omega)
  have HPOS := Aside.mk hm
  have HPM := Aside.mk (show e.pos.toNat = m by omega)
  clear hm
  have HDL := Aside.mk (show (∀ n ∈ e.data, In64 n) ∧ e.data.length ≤ 1000 from ⟨ho.d, by omega⟩)
  clear hw ho hl hc
  go_enter Tryd.func62, Tryd.ntmps62
  go_wp2_with fail
  refine (HS.out _ (HW.out.below HB1.out)).mono ?_
  rintro r w1 ⟨A1, c1, rfl, hc1, ht, hb⟩
  have HB2 := Aside.mk (HB1.out.trans (hb.mono HB1.out.size))
  have HP := Aside.mk (ps_new ht hc1)
  have HR1 := blk_below (blk_new w (.cells #[.int .i64 0, .int .i64 0, .int .i64 0, .int .i64 0, .int .u64 0, .int .i64 0, .slice none 0 0] 76)) hb
  clear hb ht hc1
  have HNR := Aside.mk (show w1.heap[w.heap.size]? = some (.cells #[.int .i64 0, .int .i64 0, .int .i64 0, .int .i64 0, .int .u64 0, .int .i64 0, .slice none 0 0] 76 (0, 0)) from HR1)
  clear HR1
  have HLF := Aside.mk (show LF w1.heap.size (w1.alloc (.cells #[.slice A1 ((wt e).length + 1 + 1) c1, .bool false] 115)) from ⟨fun w2 b2 => HW.out.below ((below_alloc HB2.out _).trans (b2.mono (HB2.out.size)))⟩)
  go_wp2_with fail
  have HWL := Aside.mk (wt_len e)
  refine (pnum_ _ w1.heap.size e.thread HO.out.t (kindT e.kind :: wt e) _ _ HP.out (by have := HWL.out; simp; omega) HLF.out).mono ?_
  rintro r w2 ⟨A2, c2, rfl, hp, hT⟩
  have HP2 := Aside.mk hp
  have HT2 := Aside.mk hT
  clear hp hT HP
  go_wp2_with (go_at_call 83; refine (next_ _ w1.heap.size (kindT e.kind) (wt e) false A2 c2 HP2.out (by have := HWL.out; omega)).mono ?_)
  rintro r w3 ⟨A3, c3, rfl, hp, hT⟩
  have HP3 := Aside.mk hp
  have HT3 := Aside.mk (HT2.out.trans hT)
  clear hp hT HP2 HT2
  go_wp2_with (go_at_call 82; refine (evKind_ (kindT e.kind) _).mono ?_)
  rw [kindOfT_T e.kind HK.out.1 HK.out.2]
  rintro r w4 ⟨rfl, hb⟩
  have HP4 := Aside.mk (HP3.out.step hb)
  have HT4 := Aside.mk (HT3.out.step (Nat.le_of_lt HP3.out.lt) hb)
  clear hb HP3 HT3
  have H5 := Aside.mk (show RS w (w4.alloc (.cells #[.int .i64 e.kind, .int .i64 e.thread, .int .i64 0, .int .i64 0, .int .u64 0, .int .i64 0, .slice none 0 0] 76)) w1.heap.size w4.heap.size (wt e) A3 c3 #[.int .i64 e.kind, .int .i64 e.thread, .int .i64 0, .int .i64 0, .int .u64 0, .int .i64 0, .slice none 0 0] from
    ⟨below_alloc ((below_alloc HB2.out _).trans (HT4.out.b.mono HB2.out.size)) _, HB2.out.size, Nat.ne_of_lt HP4.out.lt, Nat.le_trans HB2.out.size (Nat.le_of_lt HP4.out.lt), ⟨Nat.ne_of_lt (blk_lt HNR.out), Nat.ne_of_lt (blk_lt (HT4.out.k.blk (blk_alloc HNR.out _) (Nat.ne_of_lt (blk_lt HNR.out)) (by simp)))⟩, blk_alloc (HT4.out.k.blk (blk_alloc HNR.out _) (Nat.ne_of_lt (blk_lt HNR.out)) (by simp)) _, HP4.out.step (below_alloc (Below.refl _ _) _), heap_alloc_new _ _, HW.out⟩)
  clear HP4 HT4 HNR HLF HS HB1 HB2
  obtain ⟨d0, d1, d2, d3, d4, d5, d6⟩ := blk_cell7 H5.out.bx
  have hk := HK.out
  have HK2 := Aside.mk (show e.kind = 1 ∨ e.kind = 2 ∨ e.kind = 3 ∨ e.kind = 4 ∨ e.kind = 5 ∨ e.kind = 6 ∨ e.kind = 7 by omega)
  clear hk
  rcases HK2.out with h | h | h | h | h | h | h
  · have q1 : (e.kind == 1) = true := by rw [h]; rfl
    have q2 : (e.kind == 2) = false := by rw [h]; rfl
    have q3 : (e.kind == 3) = false := by rw [h]; rfl
    have q4 : (e.kind == 4) = false := by rw [h]; rfl
    have q5 : (e.kind == 5) = false := by rw [h]; rfl
    have q6 : (e.kind == 6) = false := by rw [h]; rfl
    have q7 : (e.kind == 7) = false := by rw [h]; rfl
    have hwt : wt e = [opX e.op, Lib.itoa e.n, listTxt e.data] := by unfold wt; rw [h, HPM.out]; rfl
    rw [hwt] at H5
    have HH := Aside.mk h
    have HZ := Aside.mk (show e.pos = 0 ∧ e.code = 0 from by
      have := HC.out
      unfold cleanB at this
      simp only [h, reduceIte, Int.reduceEq, or_false, false_or, or_true, true_or, Bool.and_eq_true, decide_eq_true_eq] at this
      exact ⟨this.1, this.2⟩)
    clear h hwt
    go_wp2_with fail
    refine (pop_ _ w1.heap.size (e.op) HO.out.o [Lib.itoa e.n, listTxt e.data] _ _ H5.out.ps (by simp) H5.out.lf).mono ?_
    rintro r x1 ⟨a1, b1, rfl, hp, hT⟩
    have HX1 := Aside.mk (H5.out.turned hT hp)
    clear hp hT d0 d1 d2 d3 d4 d5 d6
    go_wp2_with fail
    refine (pnum_ _ w1.heap.size (e.n) HO.out.n [listTxt e.data] _ _ HX1.out.ps (by simp) HX1.out.lf).mono ?_
    rintro r x2 ⟨a2, b2, rfl, hp, hT⟩
    have HX2 := Aside.mk (HX1.out.turned hT hp)
    clear hp hT
    go_wp2_with fail
    refine (plist_ _ w1.heap.size (e.data) HDL.out [] _ _ HX2.out.ps (by simp) HX2.out.lf).mono ?_
    rintro r x3 ⟨a3, b3, D2, d2c, rfl, hcd, hnu, hp, hT⟩
    have HCD := Aside.mk hcd
    have HNU := Aside.mk hnu
    have HX3 := Aside.mk (HX2.out.turned hT hp)
    clear hp hT hcd hnu
    obtain ⟨d0, d1, d2, d3, d4, d5, d6⟩ := blk_cell7 HX3.out.bx
    have fe2 := blk_frozen HX3.out.bx 2
    have fe3 := blk_frozen HX3.out.bx 3
    have fe6 := blk_frozen HX3.out.bx 6
    have HQ := Aside.mk (show RS w (((x3.setCell ⟨w4.heap.size, 2, none⟩ (.int .i64 e.op)).setCell ⟨w4.heap.size, 3, none⟩ (.int .i64 e.n)).setCell ⟨w4.heap.size, 6, none⟩ (.slice D2 e.data.length d2c)) w1.heap.size w4.heap.size [] a3 b3 #[.int .i64 e.kind, .int .i64 e.thread, .int .i64 e.op, .int .i64 e.n, .int .u64 0, .int .i64 0, .slice D2 e.data.length d2c] from (((HX3.out.put 2 (.int .i64 e.op)).put 3 (.int .i64 e.n)).put 6 (.slice D2 e.data.length d2c)))
    have HNQ := Aside.mk (show Nums (((x3.setCell ⟨w4.heap.size, 2, none⟩ (.int .i64 e.op)).setCell ⟨w4.heap.size, 3, none⟩ (.int .i64 e.n)).setCell ⟨w4.heap.size, 6, none⟩ (.slice D2 e.data.length d2c)) D2 e.data from (((HNU.out.set (HX3.out).bx (by decide) 2 _).set ((HX3.out.put 2 (.int .i64 e.op))).bx (by decide) 3 _).set (((HX3.out.put 2 (.int .i64 e.op)).put 3 (.int .i64 e.n))).bx (by decide) 6 _))
    clear HNU
    go_upto_region 20 with (fail)
    clear d0 d1 d2 d3 d4 d5 d6 fe2 fe3 fe6 HX3
    generalize (((x3.setCell ⟨w4.heap.size, 2, none⟩ (.int .i64 e.op)).setCell ⟨w4.heap.size, 3, none⟩ (.int .i64 e.n)).setCell ⟨w4.heap.size, 6, none⟩ (.slice D2 e.data.length d2c)) = x9 at HQ HNQ ⊢
    obtain ⟨p0, p1, g0, g1⟩ := blk_cell2 HQ.out.ps.bx
    obtain ⟨d0, d1, d2, d3, d4, d5, d6⟩ := blk_cell7 HQ.out.bx
    obtain ⟨r0, r1, r2, r3, r4, r5, r6⟩ := blk_cell7 HQ.out.br
    have fr0 := blk_frozen HQ.out.br 0
    have fr1 := blk_frozen HQ.out.br 1
    have fr2 := blk_frozen HQ.out.br 2
    have fr3 := blk_frozen HQ.out.br 3
    have fr4 := blk_frozen HQ.out.br 4
    have fr5 := blk_frozen HQ.out.br 5
    have fr6 := blk_frozen HQ.out.br 6
    have HF := Aside.mk (fin76 (w0 := w) (R := w.heap.size) (.int .i64 e.kind) (.int .i64 e.thread) (.int .i64 e.op) (.int .i64 e.n) (.int .u64 0) (.int .i64 0) (.slice D2 e.data.length d2c) HQ.out.b (Nat.le_refl _) HQ.out.br)
    have HNF := Aside.mk (HF.out.2.2 D2 e.data HNQ.out)
    go_wp2
    refine bodyPost_ret (results_ct rfl _ _ w.heap.size 76 #[.int .i64 e.kind, .int .i64 e.thread, .int .i64 e.op, .int .i64 e.n, .int .u64 0, .int .i64 0, .slice D2 e.data.length d2c] (0, 0) _ rfl HF.out.1 Tryd.underlying76 rfl (by kernel_rfl)) rfl ?_
    exact ⟨D2, d2c, by (rw [HZ.out.1, HZ.out.2]) <;> rfl, HCD.out, HNF.out, HF.out.2.1⟩
  · have q1 : (e.kind == 1) = false := by rw [h]; rfl
    have q2 : (e.kind == 2) = true := by rw [h]; rfl
    have q3 : (e.kind == 3) = false := by rw [h]; rfl
    have q4 : (e.kind == 4) = false := by rw [h]; rfl
    have q5 : (e.kind == 5) = false := by rw [h]; rfl
    have q6 : (e.kind == 6) = false := by rw [h]; rfl
    have q7 : (e.kind == 7) = false := by rw [h]; rfl
    have hwt : wt e = [opX e.op, Lib.itoa e.code, Lib.decDigits m, Lib.itoa e.n, listTxt e.data] := by unfold wt; rw [h, HPM.out]; rfl
    rw [hwt] at H5
    have HH := Aside.mk h
    clear h hwt
    go_wp2_with fail
    refine (pop_ _ w1.heap.size (e.op) HO.out.o [Lib.itoa e.code, Lib.decDigits m, Lib.itoa e.n, listTxt e.data] _ _ H5.out.ps (by simp) H5.out.lf).mono ?_
    rintro r x1 ⟨a1, b1, rfl, hp, hT⟩
    have HX1 := Aside.mk (H5.out.turned hT hp)
    clear hp hT d0 d1 d2 d3 d4 d5 d6
    go_wp2_with fail
    refine (pnum_ _ w1.heap.size (e.code) HO.out.c [Lib.decDigits m, Lib.itoa e.n, listTxt e.data] _ _ HX1.out.ps (by simp) HX1.out.lf).mono ?_
    rintro r x2 ⟨a2, b2, rfl, hp, hT⟩
    have HX2 := Aside.mk (HX1.out.turned hT hp)
    clear hp hT
    go_wp2_with fail
    refine (ppos_ _ w1.heap.size (m) HPL.out [Lib.itoa e.n, listTxt e.data] _ _ HX2.out.ps (by simp) HX2.out.lf).mono ?_
    rintro r x3 ⟨a3, b3, rfl, hp, hT⟩
    have HX3 := Aside.mk (HX2.out.turned hT hp)
    clear hp hT
    go_wp2_with fail
    refine (pnum_ _ w1.heap.size (e.n) HO.out.n [listTxt e.data] _ _ HX3.out.ps (by simp) HX3.out.lf).mono ?_
    rintro r x4 ⟨a4, b4, rfl, hp, hT⟩
    have HX4 := Aside.mk (HX3.out.turned hT hp)
    clear hp hT
    go_wp2_with fail
    refine (plist_ _ w1.heap.size (e.data) HDL.out [] _ _ HX4.out.ps (by simp) HX4.out.lf).mono ?_
    rintro r x5 ⟨a5, b5, D2, d2c, rfl, hcd, hnu, hp, hT⟩
    have HCD := Aside.mk hcd
    have HNU := Aside.mk hnu
    have HX5 := Aside.mk (HX4.out.turned hT hp)
    clear hp hT hcd hnu
    obtain ⟨d0, d1, d2, d3, d4, d5, d6⟩ := blk_cell7 HX5.out.bx
    have fe2 := blk_frozen HX5.out.bx 2
    have fe3 := blk_frozen HX5.out.bx 3
    have fe4 := blk_frozen HX5.out.bx 4
    have fe5 := blk_frozen HX5.out.bx 5
    have fe6 := blk_frozen HX5.out.bx 6
    have HQ := Aside.mk (show RS w (((((x5.setCell ⟨w4.heap.size, 2, none⟩ (.int .i64 e.op)).setCell ⟨w4.heap.size, 5, none⟩ (.int .i64 e.code)).setCell ⟨w4.heap.size, 4, none⟩ (.int .u64 (m : Int))).setCell ⟨w4.heap.size, 3, none⟩ (.int .i64 e.n)).setCell ⟨w4.heap.size, 6, none⟩ (.slice D2 e.data.length d2c)) w1.heap.size w4.heap.size [] a5 b5 #[.int .i64 e.kind, .int .i64 e.thread, .int .i64 e.op, .int .i64 e.n, .int .u64 (m : Int), .int .i64 e.code, .slice D2 e.data.length d2c] from (((((HX5.out.put 2 (.int .i64 e.op)).put 5 (.int .i64 e.code)).put 4 (.int .u64 (m : Int))).put 3 (.int .i64 e.n)).put 6 (.slice D2 e.data.length d2c)))
    have HNQ := Aside.mk (show Nums (((((x5.setCell ⟨w4.heap.size, 2, none⟩ (.int .i64 e.op)).setCell ⟨w4.heap.size, 5, none⟩ (.int .i64 e.code)).setCell ⟨w4.heap.size, 4, none⟩ (.int .u64 (m : Int))).setCell ⟨w4.heap.size, 3, none⟩ (.int .i64 e.n)).setCell ⟨w4.heap.size, 6, none⟩ (.slice D2 e.data.length d2c)) D2 e.data from (((((HNU.out.set (HX5.out).bx (by decide) 2 _).set ((HX5.out.put 2 (.int .i64 e.op))).bx (by decide) 5 _).set (((HX5.out.put 2 (.int .i64 e.op)).put 5 (.int .i64 e.code))).bx (by decide) 4 _).set ((((HX5.out.put 2 (.int .i64 e.op)).put 5 (.int .i64 e.code)).put 4 (.int .u64 (m : Int)))).bx (by decide) 3 _).set (((((HX5.out.put 2 (.int .i64 e.op)).put 5 (.int .i64 e.code)).put 4 (.int .u64 (m : Int))).put 3 (.int .i64 e.n))).bx (by decide) 6 _))
    clear HNU
    go_upto_region 20 with (fail)
    clear d0 d1 d2 d3 d4 d5 d6 fe2 fe3 fe4 fe5 fe6 HX5
    generalize (((((x5.setCell ⟨w4.heap.size, 2, none⟩ (.int .i64 e.op)).setCell ⟨w4.heap.size, 5, none⟩ (.int .i64 e.code)).setCell ⟨w4.heap.size, 4, none⟩ (.int .u64 (m : Int))).setCell ⟨w4.heap.size, 3, none⟩ (.int .i64 e.n)).setCell ⟨w4.heap.size, 6, none⟩ (.slice D2 e.data.length d2c)) = x9 at HQ HNQ ⊢
    obtain ⟨p0, p1, g0, g1⟩ := blk_cell2 HQ.out.ps.bx
    obtain ⟨d0, d1, d2, d3, d4, d5, d6⟩ := blk_cell7 HQ.out.bx
    obtain ⟨r0, r1, r2, r3, r4, r5, r6⟩ := blk_cell7 HQ.out.br
    have fr0 := blk_frozen HQ.out.br 0
    have fr1 := blk_frozen HQ.out.br 1
    have fr2 := blk_frozen HQ.out.br 2
    have fr3 := blk_frozen HQ.out.br 3
    have fr4 := blk_frozen HQ.out.br 4
    have fr5 := blk_frozen HQ.out.br 5
    have fr6 := blk_frozen HQ.out.br 6
    have HF := Aside.mk (fin76 (w0 := w) (R := w.heap.size) (.int .i64 e.kind) (.int .i64 e.thread) (.int .i64 e.op) (.int .i64 e.n) (.int .u64 (m : Int)) (.int .i64 e.code) (.slice D2 e.data.length d2c) HQ.out.b (Nat.le_refl _) HQ.out.br)
    have HNF := Aside.mk (HF.out.2.2 D2 e.data HNQ.out)
    go_wp2
    refine bodyPost_ret (results_ct rfl _ _ w.heap.size 76 #[.int .i64 e.kind, .int .i64 e.thread, .int .i64 e.op, .int .i64 e.n, .int .u64 (m : Int), .int .i64 e.code, .slice D2 e.data.length d2c] (0, 0) _ rfl HF.out.1 Tryd.underlying76 rfl (by kernel_rfl)) rfl ?_
    exact ⟨D2, d2c, by (rw [HPOS.out]) <;> rfl, HCD.out, HNF.out, HF.out.2.1⟩
  · have q1 : (e.kind == 1) = false := by rw [h]; rfl
    have q2 : (e.kind == 2) = false := by rw [h]; rfl
    have q3 : (e.kind == 3) = true := by rw [h]; rfl
    have q4 : (e.kind == 4) = false := by rw [h]; rfl
    have q5 : (e.kind == 5) = false := by rw [h]; rfl
    have q6 : (e.kind == 6) = false := by rw [h]; rfl
    have q7 : (e.kind == 7) = false := by rw [h]; rfl
    have hwt : wt e = [Lib.decDigits m, Lib.itoa e.n] := by unfold wt; rw [h, HPM.out]; rfl
    rw [hwt] at H5
    have HH := Aside.mk h
    have HZ := Aside.mk (show e.op = 0 ∧ e.code = 0 ∧ e.data = [] from by
      have := HC.out
      unfold cleanB at this
      simp only [h, reduceIte, Int.reduceEq, or_false, false_or, or_true, true_or, Bool.and_eq_true, decide_eq_true_eq] at this
      exact ⟨this.1.1, this.1.2, List.eq_nil_of_length_eq_zero this.2⟩)
    clear h hwt
    go_wp2_with fail
    refine (ppos_ _ w1.heap.size (m) HPL.out [Lib.itoa e.n] _ _ H5.out.ps (by simp) H5.out.lf).mono ?_
    rintro r x1 ⟨a1, b1, rfl, hp, hT⟩
    have HX1 := Aside.mk (H5.out.turned hT hp)
    clear hp hT d0 d1 d2 d3 d4 d5 d6
    go_wp2_with fail
    refine (pnum_ _ w1.heap.size (e.n) HO.out.n [] _ _ HX1.out.ps (by simp) HX1.out.lf).mono ?_
    rintro r x2 ⟨a2, b2, rfl, hp, hT⟩
    have HX2 := Aside.mk (HX1.out.turned hT hp)
    clear hp hT
    obtain ⟨d0, d1, d2, d3, d4, d5, d6⟩ := blk_cell7 HX2.out.bx
    have fe3 := blk_frozen HX2.out.bx 3
    have fe4 := blk_frozen HX2.out.bx 4
    have HQ := Aside.mk (show RS w ((x2.setCell ⟨w4.heap.size, 4, none⟩ (.int .u64 (m : Int))).setCell ⟨w4.heap.size, 3, none⟩ (.int .i64 e.n)) w1.heap.size w4.heap.size [] a2 b2 #[.int .i64 e.kind, .int .i64 e.thread, .int .i64 0, .int .i64 e.n, .int .u64 (m : Int), .int .i64 0, .slice none 0 0] from ((HX2.out.put 4 (.int .u64 (m : Int))).put 3 (.int .i64 e.n)))
    go_upto_region 20 with (fail)
    clear d0 d1 d2 d3 d4 d5 d6 fe3 fe4 HX2
    generalize ((x2.setCell ⟨w4.heap.size, 4, none⟩ (.int .u64 (m : Int))).setCell ⟨w4.heap.size, 3, none⟩ (.int .i64 e.n)) = x9 at HQ ⊢
    obtain ⟨p0, p1, g0, g1⟩ := blk_cell2 HQ.out.ps.bx
    obtain ⟨d0, d1, d2, d3, d4, d5, d6⟩ := blk_cell7 HQ.out.bx
    obtain ⟨r0, r1, r2, r3, r4, r5, r6⟩ := blk_cell7 HQ.out.br
    have fr0 := blk_frozen HQ.out.br 0
    have fr1 := blk_frozen HQ.out.br 1
    have fr2 := blk_frozen HQ.out.br 2
    have fr3 := blk_frozen HQ.out.br 3
    have fr4 := blk_frozen HQ.out.br 4
    have fr5 := blk_frozen HQ.out.br 5
    have fr6 := blk_frozen HQ.out.br 6
    have HF := Aside.mk (fin76 (w0 := w) (R := w.heap.size) (.int .i64 e.kind) (.int .i64 e.thread) (.int .i64 0) (.int .i64 e.n) (.int .u64 (m : Int)) (.int .i64 0) (.slice none 0 0) HQ.out.b (Nat.le_refl _) HQ.out.br)
    go_wp2
    refine bodyPost_ret (results_ct rfl _ _ w.heap.size 76 #[.int .i64 e.kind, .int .i64 e.thread, .int .i64 0, .int .i64 e.n, .int .u64 (m : Int), .int .i64 0, .slice none 0 0] (0, 0) _ rfl HF.out.1 Tryd.underlying76 rfl (by kernel_rfl)) rfl ?_
    exact ⟨none, 0, by (rw [HZ.out.1, HZ.out.2.1, HZ.out.2.2, HPOS.out]) <;> rfl, by rw [HZ.out.2.2]; exact Nat.le_refl _, fun hn => absurd (HZ.out.2.2) hn, HF.out.2.1⟩
  · have q1 : (e.kind == 1) = false := by rw [h]; rfl
    have q2 : (e.kind == 2) = false := by rw [h]; rfl
    have q3 : (e.kind == 3) = false := by rw [h]; rfl
    have q4 : (e.kind == 4) = true := by rw [h]; rfl
    have q5 : (e.kind == 5) = false := by rw [h]; rfl
    have q6 : (e.kind == 6) = false := by rw [h]; rfl
    have q7 : (e.kind == 7) = false := by rw [h]; rfl
    have hwt : wt e = [] := by unfold wt; rw [h, HPM.out]; rfl
    rw [hwt] at H5
    have HH := Aside.mk h
    have HZ := Aside.mk (show e.op = 0 ∧ e.code = 0 ∧ e.pos = 0 ∧ e.n = 0 ∧ e.data = [] from by
      have := HC.out
      unfold cleanB at this
      simp only [h, reduceIte, Int.reduceEq, or_false, false_or, or_true, true_or, Bool.and_eq_true, decide_eq_true_eq] at this
      exact ⟨this.1.1.1.1, this.1.1.1.2, this.1.1.2, this.1.2, List.eq_nil_of_length_eq_zero this.2⟩)
    clear h hwt
    obtain ⟨p0, p1, g0, g1⟩ := blk_cell2 H5.out.ps.bx
    obtain ⟨r0, r1, r2, r3, r4, r5, r6⟩ := blk_cell7 H5.out.br
    have fr0 := blk_frozen H5.out.br 0
    have fr1 := blk_frozen H5.out.br 1
    have fr2 := blk_frozen H5.out.br 2
    have fr3 := blk_frozen H5.out.br 3
    have fr4 := blk_frozen H5.out.br 4
    have fr5 := blk_frozen H5.out.br 5
    have fr6 := blk_frozen H5.out.br 6
    have HF := Aside.mk (fin76 (w0 := w) (R := w.heap.size) (.int .i64 e.kind) (.int .i64 e.thread) (.int .i64 0) (.int .i64 0) (.int .u64 0) (.int .i64 0) (.slice none 0 0) H5.out.b (Nat.le_refl _) H5.out.br)
    go_wp2
    refine bodyPost_ret (results_ct rfl _ _ w.heap.size 76 #[.int .i64 e.kind, .int .i64 e.thread, .int .i64 0, .int .i64 0, .int .u64 0, .int .i64 0, .slice none 0 0] (0, 0) _ rfl HF.out.1 Tryd.underlying76 rfl (by kernel_rfl)) rfl ?_
    exact ⟨none, 0, by (rw [HZ.out.1, HZ.out.2.1, HZ.out.2.2.1, HZ.out.2.2.2.1, HZ.out.2.2.2.2]) <;> rfl, by rw [HZ.out.2.2.2.2]; exact Nat.le_refl _, fun hn => absurd (HZ.out.2.2.2.2) hn, HF.out.2.1⟩
  · have q1 : (e.kind == 1) = false := by rw [h]; rfl
    have q2 : (e.kind == 2) = false := by rw [h]; rfl
    have q3 : (e.kind == 3) = false := by rw [h]; rfl
    have q4 : (e.kind == 4) = false := by rw [h]; rfl
    have q5 : (e.kind == 5) = true := by rw [h]; rfl
    have q6 : (e.kind == 6) = false := by rw [h]; rfl
    have q7 : (e.kind == 7) = false := by rw [h]; rfl
    have hwt : wt e = [Lib.decDigits m, Lib.itoa e.n, listTxt e.data] := by unfold wt; rw [h, HPM.out]; rfl
    rw [hwt] at H5
    have HH := Aside.mk h
    have HZ := Aside.mk (show e.op = 0 ∧ e.code = 0 from by
      have := HC.out
      unfold cleanB at this
      simp only [h, reduceIte, Int.reduceEq, or_false, false_or, or_true, true_or, Bool.and_eq_true, decide_eq_true_eq] at this
      exact ⟨this.1, this.2⟩)
    clear h hwt
    go_wp2_with fail
    refine (ppos_ _ w1.heap.size (m) HPL.out [Lib.itoa e.n, listTxt e.data] _ _ H5.out.ps (by simp) H5.out.lf).mono ?_
    rintro r x1 ⟨a1, b1, rfl, hp, hT⟩
    have HX1 := Aside.mk (H5.out.turned hT hp)
    clear hp hT d0 d1 d2 d3 d4 d5 d6
    go_wp2_with fail
    refine (pnum_ _ w1.heap.size (e.n) HO.out.n [listTxt e.data] _ _ HX1.out.ps (by simp) HX1.out.lf).mono ?_
    rintro r x2 ⟨a2, b2, rfl, hp, hT⟩
    have HX2 := Aside.mk (HX1.out.turned hT hp)
    clear hp hT
    go_wp2_with fail
    refine (plist_ _ w1.heap.size (e.data) HDL.out [] _ _ HX2.out.ps (by simp) HX2.out.lf).mono ?_
    rintro r x3 ⟨a3, b3, D2, d2c, rfl, hcd, hnu, hp, hT⟩
    have HCD := Aside.mk hcd
    have HNU := Aside.mk hnu
    have HX3 := Aside.mk (HX2.out.turned hT hp)
    clear hp hT hcd hnu
    obtain ⟨d0, d1, d2, d3, d4, d5, d6⟩ := blk_cell7 HX3.out.bx
    have fe3 := blk_frozen HX3.out.bx 3
    have fe4 := blk_frozen HX3.out.bx 4
    have fe6 := blk_frozen HX3.out.bx 6
    have HQ := Aside.mk (show RS w (((x3.setCell ⟨w4.heap.size, 4, none⟩ (.int .u64 (m : Int))).setCell ⟨w4.heap.size, 3, none⟩ (.int .i64 e.n)).setCell ⟨w4.heap.size, 6, none⟩ (.slice D2 e.data.length d2c)) w1.heap.size w4.heap.size [] a3 b3 #[.int .i64 e.kind, .int .i64 e.thread, .int .i64 0, .int .i64 e.n, .int .u64 (m : Int), .int .i64 0, .slice D2 e.data.length d2c] from (((HX3.out.put 4 (.int .u64 (m : Int))).put 3 (.int .i64 e.n)).put 6 (.slice D2 e.data.length d2c)))
    have HNQ := Aside.mk (show Nums (((x3.setCell ⟨w4.heap.size, 4, none⟩ (.int .u64 (m : Int))).setCell ⟨w4.heap.size, 3, none⟩ (.int .i64 e.n)).setCell ⟨w4.heap.size, 6, none⟩ (.slice D2 e.data.length d2c)) D2 e.data from (((HNU.out.set (HX3.out).bx (by decide) 4 _).set ((HX3.out.put 4 (.int .u64 (m : Int)))).bx (by decide) 3 _).set (((HX3.out.put 4 (.int .u64 (m : Int))).put 3 (.int .i64 e.n))).bx (by decide) 6 _))
    clear HNU
    go_upto_region 20 with (fail)
    clear d0 d1 d2 d3 d4 d5 d6 fe3 fe4 fe6 HX3
    generalize (((x3.setCell ⟨w4.heap.size, 4, none⟩ (.int .u64 (m : Int))).setCell ⟨w4.heap.size, 3, none⟩ (.int .i64 e.n)).setCell ⟨w4.heap.size, 6, none⟩ (.slice D2 e.data.length d2c)) = x9 at HQ HNQ ⊢
    obtain ⟨p0, p1, g0, g1⟩ := blk_cell2 HQ.out.ps.bx
    obtain ⟨d0, d1, d2, d3, d4, d5, d6⟩ := blk_cell7 HQ.out.bx
    obtain ⟨r0, r1, r2, r3, r4, r5, r6⟩ := blk_cell7 HQ.out.br
    have fr0 := blk_frozen HQ.out.br 0
    have fr1 := blk_frozen HQ.out.br 1
    have fr2 := blk_frozen HQ.out.br 2
    have fr3 := blk_frozen HQ.out.br 3
    have fr4 := blk_frozen HQ.out.br 4
    have fr5 := blk_frozen HQ.out.br 5
    have fr6 := blk_frozen HQ.out.br 6
    have HF := Aside.mk (fin76 (w0 := w) (R := w.heap.size) (.int .i64 e.kind) (.int .i64 e.thread) (.int .i64 0) (.int .i64 e.n) (.int .u64 (m : Int)) (.int .i64 0) (.slice D2 e.data.length d2c) HQ.out.b (Nat.le_refl _) HQ.out.br)
    have HNF := Aside.mk (HF.out.2.2 D2 e.data HNQ.out)
    go_wp2
    refine bodyPost_ret (results_ct rfl _ _ w.heap.size 76 #[.int .i64 e.kind, .int .i64 e.thread, .int .i64 0, .int .i64 e.n, .int .u64 (m : Int), .int .i64 0, .slice D2 e.data.length d2c] (0, 0) _ rfl HF.out.1 Tryd.underlying76 rfl (by kernel_rfl)) rfl ?_
    exact ⟨D2, d2c, by (rw [HZ.out.1, HZ.out.2, HPOS.out]) <;> rfl, HCD.out, HNF.out, HF.out.2.1⟩
  · have q1 : (e.kind == 1) = false := by rw [h]; rfl
    have q2 : (e.kind == 2) = false := by rw [h]; rfl
    have q3 : (e.kind == 3) = false := by rw [h]; rfl
    have q4 : (e.kind == 4) = false := by rw [h]; rfl
    have q5 : (e.kind == 5) = false := by rw [h]; rfl
    have q6 : (e.kind == 6) = true := by rw [h]; rfl
    have q7 : (e.kind == 7) = false := by rw [h]; rfl
    have hwt : wt e = [Lib.decDigits m] := by unfold wt; rw [h, HPM.out]; rfl
    rw [hwt] at H5
    have HH := Aside.mk h
    have HZ := Aside.mk (show e.op = 0 ∧ e.code = 0 ∧ e.n = 0 ∧ e.data = [] from by
      have := HC.out
      unfold cleanB at this
      simp only [h, reduceIte, Int.reduceEq, or_false, false_or, or_true, true_or, Bool.and_eq_true, decide_eq_true_eq] at this
      exact ⟨this.1.1.1, this.1.1.2, this.1.2, List.eq_nil_of_length_eq_zero this.2⟩)
    clear h hwt
    go_wp2_with fail
    refine (ppos_ _ w1.heap.size (m) HPL.out [] _ _ H5.out.ps (by simp) H5.out.lf).mono ?_
    rintro r x1 ⟨a1, b1, rfl, hp, hT⟩
    have HX1 := Aside.mk (H5.out.turned hT hp)
    clear hp hT d0 d1 d2 d3 d4 d5 d6
    obtain ⟨d0, d1, d2, d3, d4, d5, d6⟩ := blk_cell7 HX1.out.bx
    have fe4 := blk_frozen HX1.out.bx 4
    have HQ := Aside.mk (show RS w (x1.setCell ⟨w4.heap.size, 4, none⟩ (.int .u64 (m : Int))) w1.heap.size w4.heap.size [] a1 b1 #[.int .i64 e.kind, .int .i64 e.thread, .int .i64 0, .int .i64 0, .int .u64 (m : Int), .int .i64 0, .slice none 0 0] from (HX1.out.put 4 (.int .u64 (m : Int))))
    go_upto_region 20 with (fail)
    clear d0 d1 d2 d3 d4 d5 d6 fe4 HX1
    generalize (x1.setCell ⟨w4.heap.size, 4, none⟩ (.int .u64 (m : Int))) = x9 at HQ ⊢
    obtain ⟨p0, p1, g0, g1⟩ := blk_cell2 HQ.out.ps.bx
    obtain ⟨d0, d1, d2, d3, d4, d5, d6⟩ := blk_cell7 HQ.out.bx
    obtain ⟨r0, r1, r2, r3, r4, r5, r6⟩ := blk_cell7 HQ.out.br
    have fr0 := blk_frozen HQ.out.br 0
    have fr1 := blk_frozen HQ.out.br 1
    have fr2 := blk_frozen HQ.out.br 2
    have fr3 := blk_frozen HQ.out.br 3
    have fr4 := blk_frozen HQ.out.br 4
    have fr5 := blk_frozen HQ.out.br 5
    have fr6 := blk_frozen HQ.out.br 6
    have HF := Aside.mk (fin76 (w0 := w) (R := w.heap.size) (.int .i64 e.kind) (.int .i64 e.thread) (.int .i64 0) (.int .i64 0) (.int .u64 (m : Int)) (.int .i64 0) (.slice none 0 0) HQ.out.b (Nat.le_refl _) HQ.out.br)
    go_wp2
    refine bodyPost_ret (results_ct rfl _ _ w.heap.size 76 #[.int .i64 e.kind, .int .i64 e.thread, .int .i64 0, .int .i64 0, .int .u64 (m : Int), .int .i64 0, .slice none 0 0] (0, 0) _ rfl HF.out.1 Tryd.underlying76 rfl (by kernel_rfl)) rfl ?_
    exact ⟨none, 0, by (rw [HZ.out.1, HZ.out.2.1, HZ.out.2.2.1, HZ.out.2.2.2, HPOS.out]) <;> rfl, by rw [HZ.out.2.2.2]; exact Nat.le_refl _, fun hn => absurd (HZ.out.2.2.2) hn, HF.out.2.1⟩
  · have q1 : (e.kind == 1) = false := by rw [h]; rfl
    have q2 : (e.kind == 2) = false := by rw [h]; rfl
    have q3 : (e.kind == 3) = false := by rw [h]; rfl
    have q4 : (e.kind == 4) = false := by rw [h]; rfl
    have q5 : (e.kind == 5) = false := by rw [h]; rfl
    have q6 : (e.kind == 6) = false := by rw [h]; rfl
    have q7 : (e.kind == 7) = true := by rw [h]; rfl
    have hwt : wt e = [Lib.decDigits m] := by unfold wt; rw [h, HPM.out]; rfl
    rw [hwt] at H5
    have HH := Aside.mk h
    have HZ := Aside.mk (show e.op = 0 ∧ e.code = 0 ∧ e.n = 0 ∧ e.data = [] from by
      have := HC.out
      unfold cleanB at this
      simp only [h, reduceIte, Int.reduceEq, or_false, false_or, or_true, true_or, Bool.and_eq_true, decide_eq_true_eq] at this
      exact ⟨this.1.1.1, this.1.1.2, this.1.2, List.eq_nil_of_length_eq_zero this.2⟩)
    clear h hwt
    go_wp2_with fail
    refine (ppos_ _ w1.heap.size (m) HPL.out [] _ _ H5.out.ps (by simp) H5.out.lf).mono ?_
    rintro r x1 ⟨a1, b1, rfl, hp, hT⟩
    have HX1 := Aside.mk (H5.out.turned hT hp)
    clear hp hT d0 d1 d2 d3 d4 d5 d6
    obtain ⟨d0, d1, d2, d3, d4, d5, d6⟩ := blk_cell7 HX1.out.bx
    have fe4 := blk_frozen HX1.out.bx 4
    have HQ := Aside.mk (show RS w (x1.setCell ⟨w4.heap.size, 4, none⟩ (.int .u64 (m : Int))) w1.heap.size w4.heap.size [] a1 b1 #[.int .i64 e.kind, .int .i64 e.thread, .int .i64 0, .int .i64 0, .int .u64 (m : Int), .int .i64 0, .slice none 0 0] from (HX1.out.put 4 (.int .u64 (m : Int))))
    go_upto_region 20 with (fail)
    clear d0 d1 d2 d3 d4 d5 d6 fe4 HX1
    generalize (x1.setCell ⟨w4.heap.size, 4, none⟩ (.int .u64 (m : Int))) = x9 at HQ ⊢
    obtain ⟨p0, p1, g0, g1⟩ := blk_cell2 HQ.out.ps.bx
    obtain ⟨d0, d1, d2, d3, d4, d5, d6⟩ := blk_cell7 HQ.out.bx
    obtain ⟨r0, r1, r2, r3, r4, r5, r6⟩ := blk_cell7 HQ.out.br
    have fr0 := blk_frozen HQ.out.br 0
    have fr1 := blk_frozen HQ.out.br 1
    have fr2 := blk_frozen HQ.out.br 2
    have fr3 := blk_frozen HQ.out.br 3
    have fr4 := blk_frozen HQ.out.br 4
    have fr5 := blk_frozen HQ.out.br 5
    have fr6 := blk_frozen HQ.out.br 6
    have HF := Aside.mk (fin76 (w0 := w) (R := w.heap.size) (.int .i64 e.kind) (.int .i64 e.thread) (.int .i64 0) (.int .i64 0) (.int .u64 (m : Int)) (.int .i64 0) (.slice none 0 0) HQ.out.b (Nat.le_refl _) HQ.out.br)
    go_wp2
    refine bodyPost_ret (results_ct rfl _ _ w.heap.size 76 #[.int .i64 e.kind, .int .i64 e.thread, .int .i64 0, .int .i64 0, .int .u64 (m : Int), .int .i64 0, .slice none 0 0] (0, 0) _ rfl HF.out.1 Tryd.underlying76 rfl (by kernel_rfl)) rfl ?_
    exact ⟨none, 0, by (rw [HZ.out.1, HZ.out.2.1, HZ.out.2.2.1, HZ.out.2.2.2, HPOS.out]) <;> rfl, by rw [HZ.out.2.2.2]; exact Nat.le_refl _, fun hn => absurd (HZ.out.2.2.2) hn, HF.out.2.1⟩
end Go.Proofs.YtabcdcnnamflfaaDoor.Wd
