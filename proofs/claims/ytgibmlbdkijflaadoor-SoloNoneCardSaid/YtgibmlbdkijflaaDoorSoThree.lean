/- The program's ledger: a producer's call. -/
import Derived.Test.YtgibmlbdkijflaaDoorSoTwo
set_option linter.unusedVariables false
set_option linter.unusedSimpArgs false
set_option maxRecDepth 100000
namespace Go.Proofs.YtgibmlbdkijflaaDoor.So
open Go.RowKit Go.Proofs.YtgibmlbdkijflaaDoorW.PrintWords Go.Proofs.YtgibmlbdkijflaaDoorW.PrintLast Go.Proofs.YtgibmlbdkijflaaDoorW.PrintMore
open Ow
open Mo (Aside Cx U64 I64 ints least run cutW plusW New below_low tn1 meas1 w64 i1 wrapE)
open QGc (checkC)
open Graph (checkG Gv)
open Mo (Ev)
def evV (e : Ev) (A : Option Addr) (C : Nat) : Array Value := #[.int .i64 e.kind, .int .i64 e.thread, .int .i64 e.op, .int .i64 e.n, .int .u64 e.pos, .int .i64 e.code, .slice A e.data.length C]
structure Cur (w0 w W : World) (B : Nat) (k0 k : Lk) (cx : Cx) (lp : Lp) (st0 st : Ls) (i : Nat) : Prop where
  m : Lm w0.heap.size W B k cx lp st i
  t : TK w0 w W (OwnB (rowsL k0 st0) B)
  n : ∀ q, OwnB (rowsL k st) B q → OwnB (rowsL k0 st0) B q ∨ w.heap.size ≤ q
  kp : Kp k0 k
section
variable {w0 w W W1 : World} {B : Nat} {k0 k : Lk} {cx : Cx} {lp : Lp} {st0 st st' : Ls} {i i' : Nat}
theorem Cur.start (h : Lm w0.heap.size w B k cx lp st i) (h0 : Below w0.heap.size w0 w) : Cur w0 w w B k k cx lp st st i := ⟨h, TK.refl h0, fun _ h => .inl h, Kp.refl k⟩
theorem Cur.below (h : Cur w0 w W B k0 k cx lp st0 st i) (b : Below W.heap.size W W1) : Cur w0 w W1 B k0 k cx lp st0 st i := ⟨h.m.below b, h.t.below b, h.n, h.kp⟩
theorem Cur.step (h : Cur w0 w W B k0 k cx lp st0 st i) (p : LPost w0 W B k cx lp st st' i' W1) : ∃ k', Cur w0 w W1 B k0 k' cx lp st0 st' i' ∧ Kp k k' := by
  obtain ⟨k', h1, h2, h3, h4⟩ := p
  exact ⟨k', ⟨h1, h.t.trans h2 h.n, fun q hq => by
    rcases h3 q hq with h5 | h5
    · exact h.n q h5
    · exact .inr (Nat.le_trans h.t.s h5), h.kp.trans h4⟩, h4⟩
theorem Cur.post (h : Cur w0 w W B k0 k cx lp st0 st i) : LPost w0 w B k0 cx lp st0 st i W := ⟨k, h.m, h.t, h.n, h.kp⟩
theorem rows_e (k : Lk) (st : Ls) (tt : Nat) (ht : tt ≠ 4 ∧ tt ≠ 3 ∧ tt ≠ 114) : ∀ (i : Nat) (x : Rw), (rowsL k st)[i]? = some x → x.e ≠ tt := fun i x hi => by
  match i, hi with
  | 0, hi => injection hi with hi; subst hi; exact Ne.symm ht.1
  | 1, hi => injection hi with hi; subst hi; exact Ne.symm ht.2.1
  | 2, hi => injection hi with hi; subst hi; exact Ne.symm ht.2.1
  | 3, hi => injection hi with hi; subst hi; exact Ne.symm ht.2.2
  | 4, hi => injection hi with hi; subst hi; exact Ne.symm ht.2.1
  | 5, hi => injection hi with hi; subst hi; exact Ne.symm ht.2.1
  | n + 6, hi => cases hi
theorem TK.box {q t : Nat} {cs : Array Value} (ht : TK w0 w W (OwnB (rowsL k0 st0) B)) (h : Lm w0.heap.size w B k0 cx lp st0 i) (hb : w.heap[q]? = some (.cells cs t (0, 0))) (h1 : t ≠ 74 ∧ t ≠ 4 ∧ t ≠ 3 ∧ t ≠ 114) : W.heap[q]? = some (.cells cs t (0, 0)) :=
  (ht.p q (blk_lt hb) (h.x.no hb h1.1 (rows_e k0 st0 t h1.2))).trans hb
theorem LPost.set7 (h : LPost w0 w B k cx lp st st' i' W) {g : Nat} {a0 a1 a2 a3 a4 a5 a6 : Value} (hb : W.heap[g]? = some (.cells #[a0, a1, a2, a3, a4, a5, a6] 44 (0, 0))) (hg : w.heap.size ≤ g) (h0 : w0.heap.size ≤ w.heap.size) (hB : B < w.heap.size) (v0 v1 v2 v3 v4 v5 v6 : Value) :
    ∃ W', W' = (((((((W.setCell ⟨g, 0, none⟩ v0).setCell ⟨g, 1, none⟩ v1).setCell ⟨g, 2, none⟩ v2).setCell ⟨g, 3, none⟩ v3).setCell ⟨g, 4, none⟩ v4).setCell ⟨g, 5, none⟩ v5).setCell ⟨g, 6, none⟩ v6) ∧ LPost w0 w B k cx lp st st' i' W' ∧ W'.heap[g]? = some (.cells #[v0, v1, v2, v3, v4, v5, v6] 44 (0, 0)) := by
  have ht : 44 ≠ 74 ∧ 44 ≠ 4 ∧ 44 ≠ 3 ∧ 44 ≠ 114 := by decide
  have k0 := blk_put (cs' := #[v0, a1, a2, a3, a4, a5, a6]) hb 0 v0 rfl
  have k1 := blk_put (cs' := #[v0, v1, a2, a3, a4, a5, a6]) k0 1 v1 rfl
  have k2 := blk_put (cs' := #[v0, v1, v2, a3, a4, a5, a6]) k1 2 v2 rfl
  have k3 := blk_put (cs' := #[v0, v1, v2, v3, a4, a5, a6]) k2 3 v3 rfl
  have k4 := blk_put (cs' := #[v0, v1, v2, v3, v4, a5, a6]) k3 4 v4 rfl
  have k5 := blk_put (cs' := #[v0, v1, v2, v3, v4, v5, a6]) k4 5 v5 rfl
  have k6 := blk_put (cs' := #[v0, v1, v2, v3, v4, v5, v6]) k5 6 v6 rfl
  exact ⟨_, rfl, (((((((h.set hb hg h0 hB ht 0 v0).set k0 hg h0 hB ht 1 v1).set k1 hg h0 hB ht 2 v2).set k2 hg h0 hB ht 3 v3).set k3 hg h0 hB ht 4 v4).set k4 hg h0 hB ht 5 v5).set k5 hg h0 hB ht 6 v6), k6⟩
structure EPost (w0 w : World) (B : Nat) (k : Lk) (cx : Cx) (lp : Lp) (st st' : Ls) (i' : Nat) (e : Ev) (r : Ending) (W : World) : Prop where mk ::
  out : ∃ A C, r = .returned (.agg (evV e A C)) ∧ e.data.length ≤ C ∧ Kd.F (Kd.int .i64) W (fun q => w.heap.size ≤ q) A e.data.length e.data ∧ LPost w0 w B k cx lp st st' i' W
end
set_option maxHeartbeats 8000000 in
theorem l_prod1 {w0 w : World} {B : Nat} {k : Lk} {cx : Cx} {lp : Lp} {st : Ls} {i : Nat} (h : Lm w0.heap.size w B k cx lp st i) (h0 : Below w0.heap.size w0 w) (hi : i < 1000) (t : Nat) (ht : t < cx.prod) (op cn : Int) (cd : List Int) (hop : op = 1) (hc : codeL cx st t ⟨op, cn, cd⟩ = 0) (A : Option Addr) (C : Nat) :
    Calls Tryd.prog 39 #[.pointer (some ⟨B, 0, none⟩), .int .i64 (t : Int), .agg #[.int .i64 op, .int .i64 cn, .slice A cd.length C]] w fun r W => EPost w0 w B k cx lp st (produceL lp st t ⟨op, cn, cd⟩).1 (i + 1) (produceL lp st t ⟨op, cn, cd⟩).2 r W := by
  subst hop
  obtain ⟨n, rfl⟩ : ∃ n : Nat, cn = n := ⟨cn.toNat, by
    rcases code_prod ht hc with ⟨_, h2, _⟩ | ⟨h2, _⟩
    · have : szC ⟨1, cn, cd⟩ = cn := rfl
      omega
    · cases h2⟩
  have hb0 := below_alloc (below_alloc (Below.refl w.heap.size w) (.cells #[.int .i64 1, .int .i64 (n : Int), .slice A cd.length C] 39)) (.cells #[.int .i64 0, .int .i64 0, .int .i64 0, .int .i64 0, .int .u64 0, .int .i64 0, .slice none 0 0] 44)
  have HX := blk_alloc (heap_alloc_new w (.cells #[.int .i64 1, .int .i64 (n : Int), .slice A cd.length C] 39)) (.cells #[.int .i64 0, .int .i64 0, .int .i64 0, .int .i64 0, .int .u64 0, .int .i64 0, .slice none 0 0] 44)
  have HE := heap_alloc_new (w.alloc (.cells #[.int .i64 1, .int .i64 (n : Int), .slice A cd.length C] 39)) (.cells #[.int .i64 0, .int .i64 0, .int .i64 0, .int .i64 0, .int .u64 0, .int .i64 0, .slice none 0 0] 44)
  rw [World.size_alloc] at HE
  have HL := Aside.mk h
  have HB0 := Aside.mk hb0
  have H00 := Aside.mk h0
  have HI := Aside.mk hi
  have HT := Aside.mk ht
  have HN := Aside.mk (show 1 ≤ n ∧ (n : Int) ≤ cx.cap ∧ n ≤ 64 by
    rcases code_prod ht hc with ⟨_, h2, h3, _⟩ | ⟨h2, _⟩
    · have e : szC ⟨1, (n : Int), cd⟩ = n := rfl
      have := h.s.c64
      omega
    · cases h2)
  have HEQ := Aside.mk (show produceL lp st t ⟨1, (n : Int), cd⟩ = ({ claimL st n with held := st.held.set t ⟨st.put.length, n⟩ }, { ev0 with pos := lp.pos st.put.length, n := n }) from rfl)
  clear hc
  have hC2 := Cur.start (h.below hb0) (below_low hb0 h0)
  have HY := Aside.mk HX
  have HEV := Aside.mk HE
  have HM2 := Aside.mk (h.below hb0)
  have g1 : decide ((t : Int) < (cx.prod : Int)) = true := decide_eq_true (by omega)
  have g2 : (t : Int) < (cx.prod : Int) := by omega
  have g3 : decide (t < cx.prod) = true := decide_eq_true ht
  clear hb0 h h0 hi ht HX HE
  go_enter Tryd.func39, Tryd.ntmps39
  go_upto_region 1 with (fail)
  have HSZ := Aside.mk (show w.heap.size + 1 < ((w.alloc (.cells #[.int .i64 1, .int .i64 (n : Int), .slice A cd.length C] 39)).alloc (.cells #[.int .i64 0, .int .i64 0, .int .i64 0, .int .i64 0, .int .u64 0, .int .i64 0, .slice none 0 0] 44)).heap.size from blk_lt HEV.out)
  generalize (w.alloc (.cells #[.int .i64 1, .int .i64 (n : Int), .slice A cd.length C] 39)).alloc (.cells #[.int .i64 0, .int .i64 0, .int .i64 0, .int .i64 0, .int .u64 0, .int .i64 0, .slice none 0 0] 44) = w2 at *
  have HC := Aside.mk hC2
  clear hC2
  obtain ⟨y0, y1, y2⟩ := cell3 HY.out
  obtain ⟨q, eH, _, _, _, _, _⟩ := HC.out.m.held t HT.out
  have HQ := Aside.mk eH
  have d11 := HC.out.m.cells.2.2.2.2.2.2.2.2.2.2.2.1
  rw [eH] at d11
  have HD11 := Aside.mk d11
  clear eH d11
  go_wp2_with fail
  clear y0 y1 y2
  refine start_ (n := 14) (S := fun w' => w'.cell? ⟨B, 11, none⟩ = some (.slice (some ⟨q, 0, none⟩) cx.prod k.hc) ∧ w'.cell? ⟨w.heap.size, 1, none⟩ = some (.int .i64 (n : Int)) ∧ True) (ds := [13]) (bm 14 0) (by kernel_rfl) rfl rfl ⟨((below_drew1 (Below.refl _ _)).cell (World.block_lt_of_cell? _ _ HD11.out)).trans HD11.out, (blk_cell (blk_drew HY.out) 1).trans rfl, trivial⟩ (fun hHeld => ?_)
  have HD3 := Aside.mk (below_drew1 (Below.refl w2.heap.size w2))
  replace HC := Aside.mk (HC.out.below HD3.out)
  generalize w2.drew = w3 at *
  refine pu_ 0 (bm 14 1) ?_
  refine pu_ 1 (bm 14 3) ?_
  refine pu_ 2 (bm 14 7) ?_
  refine ta_ 3 (bm 14 15) hHeld ?_
  refine pu_ 4 (bm 14 31) ?_
  refine pu_ 5 (bm 14 63) ?_
  refine pu_ 6 (bm 14 127) ?_
  refine ta_ 7 (bm 14 255) hHeld ?_
  refine pu_ 9 (bm 14 767) ?_
  refine ta_ 10 (bm 14 1791) hHeld ?_
  refine one_ (i := 8) (N := some 23) (bm 14 2047) rfl rfl (by kernel_rfl) (by decide) (fun K hK => ?_)
  refine goes_ Tryd.func75 (by kernel_rfl) rfl #[.pointer (some ⟨B, 0, none⟩), .int .i64 (n : Int)] (by rfl) rfl rfl (by (try simp only [List.map_toArray, List.map_cons, List.map_nil]); first | done | rfl) ?_
  refine (l_claim HC.out.m HC.out.t.b n HN.out.2.2 HI.out).mono ?_
  rintro q w4 ⟨rfl, hb⟩
  refine ⟨_, rfl, ?_⟩
  obtain ⟨k4, hc4, hk4⟩ := HC.out.step hb
  have HC4 := Aside.mk hc4
  have HK4 := Aside.mk hk4
  have d11 := HC4.out.m.cells.2.2.2.2.2.2.2.2.2.2.2.1
  rw [HK4.out.h.1, HK4.out.h.2, HQ.out] at d11
  have HY4 := Aside.mk (TK.box HC4.out.t HM2.out HY.out (by decide))
  clear hc4 hk4 HC HD11
  clear hb
  refine hK.out _ _ ⟨d11, (blk_cell HY4.out 1).trans rfl, trivial⟩ (fun hHeld => ?_)
  clear hK K
  refine norm_ (a' := ?_) ?_ ?_
  rotate_left
  · show Act.put _ (some 23) _ = _
    simp only [Act.put, List.setIfInBounds_toArray, List.set_cons_zero, List.set_cons_succ, i64_w, i32_w]
    rfl
  clear d11
  obtain ⟨q4, eH4, _, _, a0, a1, hfr⟩ := HC4.out.m.held t HT.out
  obtain rfl : q4 = q := by have h1 := HK4.out.h.1; rw [eH4, HQ.out] at h1; injection h1 with h1; injection h1
  have f0 := hfr (t * 2)
  have f1 := hfr (t * 2 + 1)
  have HQ4 := Aside.mk eH4
  clear eH4 hfr
  generalize heldL (claimL st n) t = hv at *
  refine pu_ 11 (bm 14 4095) ?_
  refine pu_ 12 (bm 14 8191) ?_
  refine last_ (i := 13) (N := none) (bm 14 16383) rfl rfl (by kernel_rfl) (by decide) (fun K hK => ?_)
  refine skip_ (w1 := ?_) (by rfl) rfl ?_ ?_
  rotate_left
  · go_simp
    rfl
  refine hK.out _ _ ?_
  clear hK K
  obtain ⟨w5, hw5, hP5⟩ := HC4.out.m.hold HC4.out.t.b HQ4.out t HT.out ⟨st.put.length, n⟩ (.inr ⟨by show (1 : Int) ≤ n; have := HN.out.1; omega, HN.out.2.1, by show (0 : Int) ≤ (st.put.length : Int); omega, by show (st.put.length : Int) + n ≤ ((claimL st n).put.length : Int); simp [claimL]⟩)
  rw [← hw5]
  obtain ⟨k5, hc5, hk5⟩ := HC4.out.step hP5
  have HC5 := Aside.mk hc5
  have HK5 := Aside.mk hk5
  clear hw5 hP5 hc5 hk5 a0 a1 f0 f1
  refine done_ (by kernel_rfl) ?_
  have d11 := HC5.out.m.cells.2.2.2.2.2.2.2.2.2.2.2.1
  rw [HK5.out.h.1, HK5.out.h.2, HQ4.out, HK4.out.h.2] at d11
  have HY5 := Aside.mk (TK.box HC5.out.t HM2.out HY.out (by decide))
  obtain ⟨q5, eH5, _, _, a0, a1, hfr⟩ := HC5.out.m.held t HT.out
  obtain rfl : q5 = q4 := by have h1 := HK5.out.h.1; rw [eH5, HQ4.out] at h1; injection h1 with h1; injection h1
  have hh : ∀ s : Ls, s.held = st.held.set t ⟨st.put.length, n⟩ → heldL s t = ⟨st.put.length, n⟩ := fun s hs => by
    unfold heldL
    rw [hs, getD_set, if_pos ⟨rfl, by rw [HM2.out.wf.lh]; exact HT.out⟩]
  rw [hh _ rfl] at a0
  have HA0 := Aside.mk (And.intro a0 d11)
  clear a0 a1 hfr hh eH5 d11
  go_wp2_with fail
  refine start_ (n := 14) (S := fun w' => w'.cell? ⟨B, 11, none⟩ = some (.slice (some ⟨q5, 0, none⟩) cx.prod k.hc) ∧ w'.cell? ⟨q5, t * 2, none⟩ = some (.int .i64 (st.put.length : Int)) ∧ w'.cell? ⟨w.heap.size, 1, none⟩ = some (.int .i64 (n : Int)) ∧ True) (ds := [13]) (bm 14 0) (by kernel_rfl) rfl rfl ⟨((below_drew1 (Below.refl _ _)).cell (World.block_lt_of_cell? _ _ HA0.out.2)).trans HA0.out.2, ((below_drew1 (Below.refl _ _)).cell (World.block_lt_of_cell? _ _ HA0.out.1)).trans HA0.out.1, (blk_cell (blk_drew HY5.out) 1).trans rfl, trivial⟩ (fun hHeld => ?_)
  have HD5 := Aside.mk (below_drew1 (Below.refl w5.heap.size w5))
  replace HC5 := Aside.mk (HC5.out.below HD5.out)
  have HA6 := Aside.mk (And.intro ((HD5.out.cell (World.block_lt_of_cell? _ _ HA0.out.1)).trans HA0.out.1) ((HD5.out.cell (World.block_lt_of_cell? _ _ HA0.out.2)).trans HA0.out.2))
  generalize w5.drew = w6 at *
  clear HA0 HD5
  refine pu_ 0 (bm 14 1) ?_
  refine pu_ 1 (bm 14 3) ?_
  refine pu_ 2 (bm 14 7) ?_
  refine pu_ 3 (bm 14 15) ?_
  refine ta_ 4 (bm 14 31) hHeld ?_
  refine pu_ 5 (bm 14 63) ?_
  refine pu_ 6 (bm 14 127) ?_
  refine pu_ 7 (bm 14 255) ?_
  refine ta_ 8 (bm 14 511) hHeld ?_
  refine pu_ 10 (bm 14 1535) ?_
  refine ta_ 11 (bm 14 3583) hHeld ?_
  refine one_ (i := 9) (N := some 37) (bm 14 4095) rfl rfl (by kernel_rfl) (by decide) (fun K hK => ?_)
  refine goes_ Tryd.func76 (by kernel_rfl) rfl #[.pointer (some ⟨B, 0, none⟩), .int .i64 (st.put.length : Int)] (by rfl) rfl rfl (by (try simp only [List.map_toArray, List.map_cons, List.map_nil]); first | done | rfl) ?_
  refine (l_pos HC5.out.m (st.put.length : Int)).mono ?_
  rintro q w7 ⟨rfl, hb⟩
  refine ⟨_, rfl, ?_⟩
  replace HC5 := Aside.mk (HC5.out.below hb)
  have HA7 := Aside.mk (And.intro ((hb.cell (World.block_lt_of_cell? _ _ HA6.out.1)).trans HA6.out.1) ((hb.cell (World.block_lt_of_cell? _ _ HA6.out.2)).trans HA6.out.2))
  have HY7 := Aside.mk (TK.box HC5.out.t HM2.out HY.out (by decide))
  clear hb
  refine hK.out _ _ ⟨HA7.out.2, HA7.out.1, (blk_cell HY7.out 1).trans rfl, trivial⟩ (fun hHeld => ?_)
  clear hK K
  refine norm_ (a' := ?_) ?_ ?_
  rotate_left
  · show Act.put _ (some 37) _ = _
    simp only [Act.put, List.setIfInBounds_toArray, List.set_cons_zero, List.set_cons_succ, i64_w, i32_w]
    rfl
  refine pu_ 12 (bm 14 8191) ?_
  have HE7 := Aside.mk (TK.box HC5.out.t HM2.out HEV.out (by decide))
  obtain ⟨e0, e1, e2, e3, e4, e5, e6⟩ := Mo.cell7 HE7.out
  have fz0 := blk_frozen HE7.out 0
  have fz1 := blk_frozen HE7.out 1
  have fz2 := blk_frozen HE7.out 2
  have fz3 := blk_frozen HE7.out 3
  have fz4 := blk_frozen HE7.out 4
  have fz5 := blk_frozen HE7.out 5
  have fz6 := blk_frozen HE7.out 6
  refine last_ (i := 13) (N := none) (bm 14 16383) rfl rfl (by kernel_rfl) (by decide) (fun K hK => ?_)
  refine skip_ (w1 := ?_) (by rfl) rfl ?_ ?_
  rotate_left
  · go_simp
    rfl
  refine hK.out _ _ ?_
  clear hK K
  obtain ⟨w8, hw8, hP8, hE8⟩ := LPost.set7 (HC5.out.post.up H00.out HB0.out) HE7.out (Nat.le_succ _) H00.out.size (blk_lt HL.out.b) (.int .i64 0) (.int .i64 0) (.int .i64 0) (.int .i64 (n : Int)) (.int .u64 (lp.pos st.put.length)) (.int .i64 0) (.slice none 0 0)
  rw [← hw8]
  have HRE := Aside.mk hE8
  have HRP := Aside.mk hP8
  clear hw8 hP8 hE8 e0 e1 e2 e3 e4 e5 e6 fz0 fz1 fz2 fz3 fz4 fz5 fz6
  refine done_ (by kernel_rfl) ?_
  go_wp2
  refine bodyPost_ret (results_cell_row rfl _ _ (w.heap.size + 1) 44 #[.int .i64 0, .int .i64 0, .int .i64 0, .int .i64 (n : Int), .int .u64 (lp.pos st.put.length), .int .i64 0, .slice none 0 0] (0, 0) _ rfl HRE.out Tryd.underlying44 rfl (by kernel_rfl)) rfl ?_
  exact ⟨none, 0, by rw [HEQ.out] <;> rfl, by rw [HEQ.out]; exact Nat.le_refl _, by rw [HEQ.out]; exact Kd.F_nil _ _ _, by rw [HEQ.out]; exact HRP.out⟩
set_option maxHeartbeats 8000000 in
theorem l_prod2 {w0 w : World} {B : Nat} {k : Lk} {cx : Cx} {lp : Lp} {st : Ls} {i : Nat} (h : Lm w0.heap.size w B k cx lp st i) (h0 : Below w0.heap.size w0 w) (hi : i < 1000) (t : Nat) (ht : t < cx.prod) (op cn : Int) (cd : List Int) (hop : op = 2) (hc : codeL cx st t ⟨op, cn, cd⟩ = 0) (A : Option Addr) (C : Nat) :
    Calls Tryd.prog 39 #[.pointer (some ⟨B, 0, none⟩), .int .i64 (t : Int), .agg #[.int .i64 op, .int .i64 cn, .slice A cd.length C]] w fun r W => EPost w0 w B k cx lp st (produceL lp st t ⟨op, cn, cd⟩).1 (i + 1) (produceL lp st t ⟨op, cn, cd⟩).2 r W := by
  subst hop
  have hne : heldL st t ≠ hl0 := fun e => by
    rcases code_prod ht hc with ⟨h2, _⟩ | ⟨_, h2⟩
    · rcases h2 with h2 | h2 <;> cases h2
    · rw [e] at h2; exact h2 rfl
  have hbd := (h.wf.hw t ht).resolve_left hne
  obtain ⟨F, hF⟩ : ∃ F : Nat, (heldL st t).f = F := ⟨(heldL st t).f.toNat, by omega⟩
  obtain ⟨M, hM⟩ : ∃ M : Nat, (heldL st t).n = M := ⟨(heldL st t).n.toNat, by omega⟩
  have hb0 := below_alloc (below_alloc (Below.refl w.heap.size w) (.cells #[.int .i64 2, .int .i64 cn, .slice A cd.length C] 39)) (.cells #[.int .i64 0, .int .i64 0, .int .i64 0, .int .i64 0, .int .u64 0, .int .i64 0, .slice none 0 0] 44)
  have HX := blk_alloc (heap_alloc_new w (.cells #[.int .i64 2, .int .i64 cn, .slice A cd.length C] 39)) (.cells #[.int .i64 0, .int .i64 0, .int .i64 0, .int .i64 0, .int .u64 0, .int .i64 0, .slice none 0 0] 44)
  have HE := heap_alloc_new (w.alloc (.cells #[.int .i64 2, .int .i64 cn, .slice A cd.length C] 39)) (.cells #[.int .i64 0, .int .i64 0, .int .i64 0, .int .i64 0, .int .u64 0, .int .i64 0, .slice none 0 0] 44)
  rw [World.size_alloc] at HE
  have HL := Aside.mk h
  have HB0 := Aside.mk hb0
  have H00 := Aside.mk h0
  have HI := Aside.mk hi
  have HT := Aside.mk ht
  have HFM := Aside.mk (show F + M ≤ st.put.length by rw [hF, hM] at hbd; omega)
  have HEQ := Aside.mk (show produceL lp st t ⟨2, cn, cd⟩ = ({ pubN lp st F M with held := st.held.set t hl0 }, ev0) from by
    show ({ pubN lp st (heldL st t).f.toNat (heldL st t).n.toNat with held := st.held.set t hl0 }, ev0) = _
    rw [hF, hM, Int.toNat_natCast, Int.toNat_natCast])
  have HHF := Aside.mk (And.intro hF hM)
  clear hc hne hbd hF hM
  have hC2 := Cur.start (h.below hb0) (below_low hb0 h0)
  have HY := Aside.mk HX
  have HEV := Aside.mk HE
  have HM2 := Aside.mk (h.below hb0)
  have g1 : decide ((t : Int) < (cx.prod : Int)) = true := decide_eq_true (by omega)
  have g2 : (t : Int) < (cx.prod : Int) := by omega
  have g3 : decide (t < cx.prod) = true := decide_eq_true ht
  clear hb0 h h0 hi ht HX HE
  go_enter Tryd.func39, Tryd.ntmps39
  go_upto_region 1 with (fail)
  have HSZ := Aside.mk (show w.heap.size + 1 < ((w.alloc (.cells #[.int .i64 2, .int .i64 cn, .slice A cd.length C] 39)).alloc (.cells #[.int .i64 0, .int .i64 0, .int .i64 0, .int .i64 0, .int .u64 0, .int .i64 0, .slice none 0 0] 44)).heap.size from blk_lt HEV.out)
  generalize (w.alloc (.cells #[.int .i64 2, .int .i64 cn, .slice A cd.length C] 39)).alloc (.cells #[.int .i64 0, .int .i64 0, .int .i64 0, .int .i64 0, .int .u64 0, .int .i64 0, .slice none 0 0] 44) = w2 at *
  have HC := Aside.mk hC2
  clear hC2
  obtain ⟨y0, y1, y2⟩ := cell3 HY.out
  obtain ⟨q, eH, _, _, a0, a1, _⟩ := HC.out.m.held t HT.out
  rw [HHF.out.1] at a0
  rw [HHF.out.2] at a1
  have HQ := Aside.mk eH
  have d11 := HC.out.m.cells.2.2.2.2.2.2.2.2.2.2.2.1
  rw [eH] at d11
  have HA := Aside.mk (And.intro a0 (And.intro a1 d11))
  clear eH a0 a1
  go_wp2_with fail
  clear y0 y1 y2 d11
  refine start_ (n := 18) (S := fun w' => w'.cell? ⟨B, 11, none⟩ = some (.slice (some ⟨q, 0, none⟩) cx.prod k.hc) ∧ w'.cell? ⟨q, t * 2, none⟩ = some (.int .i64 (F : Int)) ∧ w'.cell? ⟨q, t * 2 + 1, none⟩ = some (.int .i64 (M : Int)) ∧ True) (ds := []) (bm 18 0) (by kernel_rfl) rfl rfl ⟨((below_drew1 (Below.refl _ _)).cell (World.block_lt_of_cell? _ _ HA.out.2.2)).trans HA.out.2.2, ((below_drew1 (Below.refl _ _)).cell (World.block_lt_of_cell? _ _ HA.out.1)).trans HA.out.1, ((below_drew1 (Below.refl _ _)).cell (World.block_lt_of_cell? _ _ HA.out.2.1)).trans HA.out.2.1, trivial⟩ (fun hHeld => ?_)
  replace HC := Aside.mk (HC.out.below (below_drew1 (Below.refl _ _)))
  clear HA
  generalize w2.drew = w3 at *
  refine pu_ 0 (bm 18 1) ?_
  refine pu_ 1 (bm 18 3) ?_
  refine pu_ 2 (bm 18 7) ?_
  refine pu_ 3 (bm 18 15) ?_
  refine ta_ 4 (bm 18 31) hHeld ?_
  refine pu_ 5 (bm 18 63) ?_
  refine pu_ 6 (bm 18 127) ?_
  refine pu_ 7 (bm 18 255) ?_
  refine ta_ 8 (bm 18 511) hHeld ?_
  refine pu_ 9 (bm 18 1023) ?_
  refine pu_ 10 (bm 18 2047) ?_
  refine pu_ 11 (bm 18 4095) ?_
  refine ta_ 12 (bm 18 8191) hHeld ?_
  refine pu_ 13 (bm 18 16383) ?_
  refine pu_ 14 (bm 18 32767) ?_
  refine pu_ 15 (bm 18 65535) ?_
  refine ta_ 16 (bm 18 131071) hHeld ?_
  refine one_ (i := 17) (N := some 60) (bm 18 262143) rfl rfl (by kernel_rfl) (by decide) (fun K hK => ?_)
  refine goes_ Tryd.func77 (by kernel_rfl) rfl #[.pointer (some ⟨B, 0, none⟩), .int .i64 (F : Int), .int .i64 (M : Int)] (by rfl) rfl rfl (by (try simp only [List.map_toArray, List.map_cons, List.map_nil]); first | done | rfl) ?_
  refine (l_publish HC.out.m HC.out.t.b F M HFM.out).mono ?_
  rintro q w4 ⟨rfl, hb⟩
  refine ⟨_, rfl, ?_⟩
  obtain ⟨k4, hc4, hk4⟩ := HC.out.step hb
  have HC4 := Aside.mk hc4
  have HK4 := Aside.mk hk4
  have d11 := HC4.out.m.cells.2.2.2.2.2.2.2.2.2.2.2.1
  rw [HK4.out.h.1, HK4.out.h.2, HQ.out] at d11
  obtain ⟨q4, eH4, _, _, a0, a1, hfr⟩ := HC4.out.m.held t HT.out
  obtain rfl : q4 = q := by have h1 := HK4.out.h.1; rw [eH4, HQ.out] at h1; injection h1 with h1; injection h1
  rw [show heldL (pubN lp st F M) t = heldL st t from by unfold heldL; rw [(pub_put lp st F M).2.2.2.1]] at a0 a1
  rw [HHF.out.1] at a0
  rw [HHF.out.2] at a1
  have f0 := hfr (t * 2)
  have f1 := hfr (t * 2 + 1)
  have HQ4 := Aside.mk eH4
  clear hc4 hk4 HC eH4 hfr
  clear hb
  refine hK.out _ _ ⟨d11, a0, a1, trivial⟩ (fun hHeld => ?_)
  clear hK K
  refine norm_ (a' := ?_) ?_ ?_
  rotate_left
  · show Act.put _ (some 60) _ = _
    simp only [Act.put, List.setIfInBounds_toArray, List.set_cons_zero, List.set_cons_succ, i64_w, i32_w]
    rfl
  refine done_ (by kernel_rfl) ?_
  clear hHeld
  go_upto_region 8 with (fail)
  obtain ⟨w5, hw5, hP5⟩ := HC4.out.m.hold HC4.out.t.b HQ4.out t HT.out ⟨0, 0⟩ (.inl rfl)
  rw [← hw5]
  obtain ⟨k5, hc5, hk5⟩ := HC4.out.step hP5
  have HC5 := Aside.mk hc5
  clear hw5 hP5 hc5 hk5 a0 a1 f0 f1 d11
  have HE7 := Aside.mk (TK.box HC5.out.t HM2.out HEV.out (by decide))
  obtain ⟨e0, e1, e2, e3, e4, e5, e6⟩ := Mo.cell7 HE7.out
  have fz0 := blk_frozen HE7.out 0
  have fz1 := blk_frozen HE7.out 1
  have fz2 := blk_frozen HE7.out 2
  have fz3 := blk_frozen HE7.out 3
  have fz4 := blk_frozen HE7.out 4
  have fz5 := blk_frozen HE7.out 5
  have fz6 := blk_frozen HE7.out 6
  obtain ⟨w8, hw8, hP8, hE8⟩ := LPost.set7 (HC5.out.post.up H00.out HB0.out) HE7.out (Nat.le_succ _) H00.out.size (blk_lt HL.out.b) (.int .i64 0) (.int .i64 0) (.int .i64 0) (.int .i64 0) (.int .u64 0) (.int .i64 0) (.slice none 0 0)
  have HRE := Aside.mk hE8
  have hst5 : ({ pubN lp st F M with held := (pubN lp st F M).held.set t ⟨0, 0⟩ } : Ls) = { pubN lp st F M with held := st.held.set t hl0 } := by rw [(pub_put lp st F M).2.2.2.1]; rfl
  rw [hst5] at hP8
  obtain ⟨kz, z1, z2, z3, z4⟩ := hP8
  have HRP := Aside.mk (show LPost w0 w B k cx lp st { pubN lp st F M with held := st.held.set t hl0 } (i + 1) w8 from ⟨kz, { z1 with wf := z1.wf.mono (Nat.le_succ _), i := HI.out }, z2, z3, z4⟩)
  clear hE8 z1 z2 z3 z4 hst5
  go_wp2
  rw [← hw8]
  refine bodyPost_ret (results_cell_row rfl _ _ (w.heap.size + 1) 44 #[.int .i64 0, .int .i64 0, .int .i64 0, .int .i64 0, .int .u64 0, .int .i64 0, .slice none 0 0] (0, 0) _ rfl HRE.out Tryd.underlying44 rfl (by kernel_rfl)) rfl ?_
  exact ⟨none, 0, by rw [HEQ.out] <;> rfl, by rw [HEQ.out]; exact Nat.le_refl _, by rw [HEQ.out]; exact Kd.F_nil _ _ _, by rw [HEQ.out]; exact HRP.out⟩
theorem Lm.setSlot {w0 w : World} {B : Nat} {k : Lk} {cx : Cx} {lp : Lp} {st : Ls} {i : Nat} (h : Lm w0.heap.size w B k cx lp st i) (h0 : Below w0.heap.size w0 w) {q : Nat} (eL : k.L = some ⟨q, 0, none⟩) (s : Nat) (v : Int) :
    ∃ W, W = w.setCell ⟨q, s, none⟩ (.int .i64 v) ∧ LPost w0 w B k cx lp st { st with slots := st.slots.set s v } i W := by
  refine ⟨_, rfl, ?_⟩
  have hs := h.x.setInt 2 eL rfl s v
  have hu := (Ws.start h h0).upd (st' := { st with slots := st.slots.set s v }) 2 rfl hs.1 hs.2.1 (by show w.grownBy _ (Value.slice k.L k.ln k.lc).ownBlock; rw [eL]; exact hs.2.2) rfl
  exact hu.done h rfl ⟨rfl, rfl, rfl, rfl, rfl, rfl, rfl, rfl, rfl, rfl, rfl⟩ (Kp.refl k) (h.wf.puts rfl rfl (by simp) rfl rfl rfl (fun _ h => h)) h.i
set_option maxHeartbeats 8000000 in
theorem l_prod5 {w0 w : World} {B : Nat} {k : Lk} {cx : Cx} {lp : Lp} {st : Ls} {i : Nat} (h : Lm w0.heap.size w B k cx lp st i) (h0 : Below w0.heap.size w0 w) (hi : i < 1000) (t : Nat) (ht : t < cx.prod) (op cn : Int) (cd : List Int) (hop : op = 5) (hc : codeL cx st t ⟨op, cn, cd⟩ = 0) (A : Option Addr) (C : Nat) (hdF : Kd.F (Kd.int .i64) w (fun q => ¬ OwnB (rowsL k st) B q) A cd.length cd) (hdl : cd.length ≤ C) :
    Calls Tryd.prog 39 #[.pointer (some ⟨B, 0, none⟩), .int .i64 (t : Int), .agg #[.int .i64 op, .int .i64 cn, .slice A cd.length C]] w fun r W => EPost w0 w B k cx lp st (produceL lp st t ⟨op, cn, cd⟩).1 (i + 1) (produceL lp st t ⟨op, cn, cd⟩).2 r W := by
  subst hop
  have hb0 := below_alloc (below_alloc (Below.refl w.heap.size w) (.cells #[.int .i64 5, .int .i64 cn, .slice A cd.length C] 39)) (.cells #[.int .i64 0, .int .i64 0, .int .i64 0, .int .i64 0, .int .u64 0, .int .i64 0, .slice none 0 0] 44)
  have HX := blk_alloc (heap_alloc_new w (.cells #[.int .i64 5, .int .i64 cn, .slice A cd.length C] 39)) (.cells #[.int .i64 0, .int .i64 0, .int .i64 0, .int .i64 0, .int .u64 0, .int .i64 0, .slice none 0 0] 44)
  have HE := heap_alloc_new (w.alloc (.cells #[.int .i64 5, .int .i64 cn, .slice A cd.length C] 39)) (.cells #[.int .i64 0, .int .i64 0, .int .i64 0, .int .i64 0, .int .u64 0, .int .i64 0, .slice none 0 0] 44)
  rw [World.size_alloc] at HE
  have HL := Aside.mk h
  have HB0 := Aside.mk hb0
  have H00 := Aside.mk h0
  have HI := Aside.mk hi
  have HT := Aside.mk ht
  have HN := Aside.mk (show 1 ≤ cd.length ∧ (cd.length : Int) ≤ cx.cap ∧ cd.length ≤ 64 by
    rcases code_prod ht hc with ⟨_, h2, h3, _⟩ | ⟨h2, _⟩
    · have e : szC ⟨5, cn, cd⟩ = cd.length := rfl
      have := h.s.c64
      omega
    · cases h2)
  have HEQ := Aside.mk (show produceL lp st t ⟨5, cn, cd⟩ = (pubN lp (fillN lp (claimL st cd.length) st.put.length cd cd.length) st.put.length cd.length, ev0) from rfl)
  have HPN := Aside.mk (show st.put.length ≤ 64000 by have := h.wf.tk; have := h.i; omega)
  have HDF := Aside.mk (Kd.F_below hdF hb0)
  clear hc hdF hdl
  have hC2 := Cur.start (h.below hb0) (below_low hb0 h0)
  have HY := Aside.mk HX
  have HEV := Aside.mk HE
  have HM2 := Aside.mk (h.below hb0)
  have g1 : decide ((t : Int) < (cx.prod : Int)) = true := decide_eq_true (by omega)
  have g2 : (t : Int) < (cx.prod : Int) := by omega
  have g3 : decide (t < cx.prod) = true := decide_eq_true ht
  clear hb0 h h0 hi ht HX HE
  go_enter Tryd.func39, Tryd.ntmps39
  go_upto_region 1 with (fail)
  have HSZ := Aside.mk (show w.heap.size + 1 < ((w.alloc (.cells #[.int .i64 5, .int .i64 cn, .slice A cd.length C] 39)).alloc (.cells #[.int .i64 0, .int .i64 0, .int .i64 0, .int .i64 0, .int .u64 0, .int .i64 0, .slice none 0 0] 44)).heap.size from blk_lt HEV.out)
  generalize (w.alloc (.cells #[.int .i64 5, .int .i64 cn, .slice A cd.length C] 39)).alloc (.cells #[.int .i64 0, .int .i64 0, .int .i64 0, .int .i64 0, .int .u64 0, .int .i64 0, .slice none 0 0] 44) = w2 at *
  have HC := Aside.mk hC2
  clear hC2
  obtain ⟨y0, y1, y2⟩ := cell3 HY.out
  have HDAT := Aside.mk (fun (W : World) (c : TK w0 w2 W (OwnB (rowsL k st) B)) => Kd.F_now (Kd.F_step HDF.out (fun q ho hl => c.p q hl ho)))
  clear HDF
  clear g1 g2 g3
  go_wp2_with fail
  refine (l_claim HC.out.m HC.out.t.b cd.length HN.out.2.2 HI.out).mono ?_
  rintro r w3 ⟨rfl, hb⟩
  obtain ⟨k3, hc3, _⟩ := HC.out.step hb
  have HC3 := Aside.mk hc3
  clear hb hc3 HC y0 y1 y2
  have HY3 := Aside.mk (TK.box HC3.out.t HM2.out HY.out (by decide))
  obtain ⟨y0, y1, y2⟩ := cell3 HY3.out
  go_wp2_with fail
  clear y0 y1 y2 HY3
  go_loopw [77] (fun x wr => ∃ j : Nat, x = .int .i64 (j : Int) ∧ j ≤ cd.length ∧ Mo.Aside (∃ kk, Cur w0 w2 wr B k kk cx lp st (fillN lp (claimL st cd.length) st.put.length cd j) (i + 1))) (fun x _ => cd.length - (intOf x).toNat)
  case atStart => exact ⟨0, rfl, Nat.zero_le _, ⟨k3, HC3.out⟩⟩
  case round =>
    clear HC3
    obtain ⟨j, rfl, hj, HR⟩ := hrel
    obtain ⟨kk, hck⟩ := HR.out
    have HCK := Aside.mk hck
    clear hck HR
    by_cases hlt : j < cd.length
    rotate_left
    · obtain rfl : j = cd.length := by omega
      have t1 : decide ((cd.length : Int) < (cd.length : Int)) = false := decide_eq_false (by omega)
      have t2 : decide (cd.length < cd.length) = false := decide_eq_false (by omega)
      clear hj hlt
      have HY4 := Aside.mk (TK.box HCK.out.t HM2.out HY.out (by decide))
      obtain ⟨y0, y1, y2⟩ := cell3 HY4.out
      go_wp2_with fail
      clear t1 t2 y0 y1 y2 HY4
      refine (l_publish HCK.out.m HCK.out.t.b st.put.length cd.length (by rw [(fill_keeps lp (claimL st cd.length) st.put.length cd cd.length).1]; simp [claimL])).mono ?_
      rintro r w5 ⟨rfl, hb⟩
      obtain ⟨k5, hc5, _⟩ := HCK.out.step hb
      have HC5 := Aside.mk hc5
      clear hb hc5 HCK
      have HE7 := Aside.mk (TK.box HC5.out.t HM2.out HEV.out (by decide))
      obtain ⟨e0, e1, e2, e3, e4, e5, e6⟩ := Mo.cell7 HE7.out
      have fz0 := blk_frozen HE7.out 0
      have fz1 := blk_frozen HE7.out 1
      have fz2 := blk_frozen HE7.out 2
      have fz3 := blk_frozen HE7.out 3
      have fz4 := blk_frozen HE7.out 4
      have fz5 := blk_frozen HE7.out 5
      have fz6 := blk_frozen HE7.out 6
      obtain ⟨w8, hw8, hP8, hE8⟩ := LPost.set7 (HC5.out.post.up H00.out HB0.out) HE7.out (Nat.le_succ _) H00.out.size (blk_lt HL.out.b) (.int .i64 0) (.int .i64 0) (.int .i64 0) (.int .i64 0) (.int .u64 0) (.int .i64 0) (.slice none 0 0)
      have HRE := Aside.mk hE8
      have HRP := Aside.mk hP8
      clear hE8 hP8
      go_wp2
      rw [← hw8]
      refine bodyPost_ret (results_cell_row rfl _ _ (w.heap.size + 1) 44 #[.int .i64 0, .int .i64 0, .int .i64 0, .int .i64 0, .int .u64 0, .int .i64 0, .slice none 0 0] (0, 0) _ rfl HRE.out Tryd.underlying44 rfl (by kernel_rfl)) rfl ?_
      exact ⟨none, 0, by rw [HEQ.out] <;> rfl, by rw [HEQ.out]; exact Nat.le_refl _, by rw [HEQ.out]; exact Kd.F_nil _ _ _, by rw [HEQ.out]; exact HRP.out⟩
    have t1 : decide ((j : Int) < (cd.length : Int)) = true := decide_eq_true (by omega)
    have t2 : decide (j < cd.length) = true := decide_eq_true hlt
    have t3 : (j : Int) < (cd.length : Int) := by omega
    have HJ := Aside.mk hlt
    have ej := i1 (show j < 4611686018427387904 by have := HN.out; omega)
    obtain ⟨m, hm⟩ : ∃ m, m = st.put.length + j := ⟨_, rfl⟩
    have ew : IntKind.i64.wrap ((st.put.length : Int) + (j : Int)) = (m : Int) := by rw [wrapE, w64 (by have := HPN.out; have := HN.out; omega)]; omega
    have ew2 : wrap64 ((st.put.length : Int) + (j : Int)) = (m : Int) := by rw [← wrapE]; exact ew
    have HME := Aside.mk hm
    obtain ⟨ad, eA, hx⟩ := Mo.num_at (HDAT.out _ HCK.out.t) j hlt
    subst eA
    have HDJ := Aside.mk (show cd.getD j 0 = cd[j] by rw [List.getD_eq_getElem?_getD, List.getElem?_eq_getElem hlt]; rfl)
    generalize cd[j] = dj at *
    clear hj hlt hm
    go_wp2_with fail
    refine (l_slot HCK.out.m (m : Int)).mono ?_
    rintro r w4 ⟨rfl, hb⟩
    replace HCK := Aside.mk (HCK.out.below hb)
    clear hb t1 t2 t3 hx ew ew2
    have HSL := Aside.mk (show lp.sl (m : Int) < (fillN lp (claimL st cd.length) st.put.length cd j).slots.length by have h1 := HCK.out.m.s.ls (m : Int); have h2 := HCK.out.m.s.lb (m : Int); have h3 := HCK.out.m.wf.ll; rw [HCK.out.m.s.kcp] at h1 h2; omega)
    have HST := Aside.mk (show fillN lp (claimL st cd.length) st.put.length cd (j + 1) = { fillN lp (claimL st cd.length) st.put.length cd j with slots := (fillN lp (claimL st cd.length) st.put.length cd j).slots.set (lp.sl (m : Int)) dj } from by rw [← HDJ.out, HME.out]; rfl)
    generalize lp.sl (m : Int) = s at *
    generalize fillN lp (claimL st cd.length) st.put.length cd j = stj at *
    obtain ⟨ql, eL, _, _, dl, fl⟩ := HCK.out.m.slot s HSL.out
    have d10 := HCK.out.m.cells.2.2.2.2.2.2.2.2.2.2.1
    rw [eL] at d10
    have HEL := Aside.mk eL
    have s1 : decide ((s : Int) < (stj.slots.length : Int)) = true := decide_eq_true (by have := HSL.out; omega)
    have s2 : (s : Int) < (stj.slots.length : Int) := by have := HSL.out; omega
    have s3 : decide (s < stj.slots.length) = true := decide_eq_true HSL.out
    generalize hsv : stj.slots.getD s 0 = sv at dl
    clear eL hsv
    go_upto_region 15 with (fail)
    obtain ⟨w5, hw5, hP5⟩ := HCK.out.m.setSlot HCK.out.t.b HEL.out s dj
    rw [← hw5]
    obtain ⟨k5, hc5, _⟩ := HCK.out.step hP5
    have HC5 := Aside.mk hc5
    clear hw5 hP5 hc5 s1 s2 s3 d10 dl fl HCK
    go_wp2_with fail
    go_roundw
    case rel => exact ⟨j + 1, by first | rfl | simp, HJ.out, ⟨k5, by rw [HST.out]; exact HC5.out⟩⟩
    case measure =>
      simp only [intOf, tn1, Int.toNat_natCast]
      exact meas1 HJ.out
end Go.Proofs.YtgibmlbdkijflaaDoor.So
set_option linter.unusedVariables false
set_option linter.unusedSimpArgs false
set_option maxRecDepth 100000
namespace Go.Proofs.YtgibmlbdkijflaaDoor.So
open Go.RowKit Go.Proofs.YtgibmlbdkijflaaDoorW.PrintWords Go.Proofs.YtgibmlbdkijflaaDoorW.PrintLast Go.Proofs.YtgibmlbdkijflaaDoorW.PrintMore
open Ow
open Mo (Aside Cx U64 I64 ints least run cutW plusW New below_low tn1 meas1 w64 i1 wrapE)
open QGc (checkC)
open Graph (checkG Gv)
open Mo (Ev)
theorem Lm.setGate {w0 w : World} {B : Nat} {k : Lk} {cx : Cx} {lp : Lp} {st : Ls} {i i' : Nat} (h : Lm w0.heap.size w B k cx lp st i) (h0 : Below w0.heap.size w0 w) {q : Nat} (eG : k.G = some ⟨q, 0, none⟩) (s : Nat) (v : Int) (wf : Wf cx { st with gate := st.gate.set s v } i') (hi : i' ≤ 1000) :
    ∃ W, W = w.setCell ⟨q, s, none⟩ (.int .i64 v) ∧ LPost w0 w B k cx lp st { st with gate := st.gate.set s v } i' W := by
  refine ⟨_, rfl, ?_⟩
  have hs := h.x.setInt 4 eG rfl s v
  have hu := (Ws.start h h0).upd (st' := { st with gate := st.gate.set s v }) 4 rfl hs.1 hs.2.1 (by show w.grownBy _ (Value.slice k.G k.gn k.gc).ownBlock; rw [eG]; exact hs.2.2) rfl
  exact hu.done h rfl ⟨rfl, rfl, rfl, rfl, rfl, rfl, rfl, rfl, rfl, rfl, rfl⟩ (Kp.refl k) wf hi
theorem Lm.setSaw {w0 w : World} {B : Nat} {k : Lk} {cx : Cx} {lp : Lp} {st : Ls} {i i' : Nat} (h : Lm w0.heap.size w B k cx lp st i) (h0 : Below w0.heap.size w0 w) {q : Nat} (eS : k.S = some ⟨q, 0, none⟩) (s : Nat) (v : Int) (wf : Wf cx { st with saw := st.saw.set s v } i') (hi : i' ≤ 1000) :
    ∃ W, W = w.setCell ⟨q, s, none⟩ (.int .i64 v) ∧ LPost w0 w B k cx lp st { st with saw := st.saw.set s v } i' W := by
  refine ⟨_, rfl, ?_⟩
  have hs := h.x.setInt 5 eS rfl s v
  have hu := (Ws.start h h0).upd (st' := { st with saw := st.saw.set s v }) 5 rfl hs.1 hs.2.1 (by show w.grownBy _ (Value.slice k.S k.sn k.sc).ownBlock; rw [eS]; exact hs.2.2) rfl
  exact hu.done h rfl ⟨rfl, rfl, rfl, rfl, rfl, rfl, rfl, rfl, rfl, rfl, rfl⟩ (Kp.refl k) wf hi
theorem Wf.seen {cx : Cx} {st : Ls} {i : Nat} (w : Wf cx st i) (k : Nat) : Wf cx { st with saw := st.saw.set k (limitL cx st k) } i := by
  have h := w.see k (st.gate.getD k 0) (limitL cx st k) (Int.le_refl _) (by have := w.gs k; have := w.sl k; omega) (Int.le_refl _)
  rw [set_self] at h
  exact h
theorem slice_run (a : Act) (o : Oper) (x y z : Operand) (A : Option Addr) (n c : Nat) (l h : Int) (ho : o.op = .slice 37 x (some y) (some z) none) (hx : a.eval x = .slice A n c) (hy : a.eval y = .int .i64 l) (hz : a.eval z = .int .i64 h) (h0 : 0 ≤ l) (h1 : l ≤ h) (h2 : h ≤ c) (w : World) :
    (execOp a.eval o).run Tryd.prog w = .ok (.value (.slice (if c = l.toNat then A else A.map (·.add (l.toNat * 1))) (h.toNat - l.toNat) (c - l.toNat))) w := by
  unfold execOp
  rw [ho]
  simp only [Option.map_some, Option.map_none, hx, hy, hz]
  have hu : Tryd.prog.underlying 37 = some (.slice (Tryd.prog.elem 37)) := by kernel_rfl
  have hz1 : (sizeOf (Tryd.prog.elem 37)).run Tryd.prog w = .ok 1 w := by kernel_rfl
  rw [Sem.run_bind, run_sliceAt_slice w 37 _ _ _ _ hu, run_slice_lh w 37 A n c hu .i64 .i64 l h h0 h1 h2, hz1]
  rfl
theorem slice_nat (a : Act) (o : Oper) (x y z : Operand) (A SA : Option Addr) (n c l r : Nat) (ho : o.op = .slice 37 x (some y) (some z) none) (hx : a.eval x = .slice A n c) (hy : a.eval y = .int .i64 (l : Int)) (hz : a.eval z = .int .i64 ((l : Int) + (r : Int))) (h2 : l + r ≤ c) (hS : SA = (if c = l then A else A.map (·.add (l * 1)))) (w : World) :
    (execOp a.eval o).run Tryd.prog w = .ok (.value (.slice SA r (c - l))) w := by
  have h := slice_run a o x y z A n c (l : Int) ((l : Int) + r) ho hx hy hz (by omega) (by omega) (by omega) w
  rw [Int.toNat_natCast, show ((l : Int) + (r : Int)).toNat = l + r by omega, Nat.add_sub_cancel_left, ← hS] at h
  exact h
theorem sl_le {a b c d : Nat} {l : Int} (h : (a : Int) + b ≤ l ∧ l ≤ (c : Int) ∧ c ≤ d) : a + b ≤ c := by omega
theorem app_bd {a b c : Nat} {l : Int} (h : (a : Int) + b ≤ l ∧ l ≤ (c : Int) ∧ c ≤ 64000) : (([] : List Int).length + b) * 8 ≤ 140737488355328 := by
  show (0 + b) * 8 ≤ _
  omega
theorem mid_len (l : List Int) (a b : Nat) (h : a + b ≤ l.length) : ((l.take (a + b)).drop a).length = b := by
  rw [List.length_drop, List.length_take]
  omega
theorem R_empty (w : World) (base : Nat) (hb : base ≤ w.heap.size) : (Kd.int .i64).R 3 (w.alloc (.cells #[] 3)) base (fun _ => True) (.slice (some ⟨w.heap.size, 0, none⟩) 0 0) [] :=
  ⟨fun _ _ => trivial, [], by
    have h2 := World.ownsRow_lit (base := base) (e := 3) (size := 1) w #[] 0 hb (by decide) rfl
    show (w.alloc (.cells #[] 3)).ownsRow base 3 1 (.slice (some ⟨w.heap.size, 0, none⟩) 0 0) 0 []
    simpa using h2, Reps.none _ _⟩
theorem Cur.grown {w0 w W W1 : World} {B : Nat} {k0 k : Lk} {cx : Cx} {lp : Lp} {st0 st : Ls} {i b : Nat} (h : Cur w0 w W B k0 k cx lp st0 st i) (ho : ∀ q, OwnB (rowsL k st) B q → q < b) (hg : W.grownBy W1 (some b)) (hb : w.heap.size ≤ b) (h0 : w0.heap.size ≤ w.heap.size) : Cur w0 w W1 B k0 k cx lp st0 st i :=
  ⟨h.m.move (fun q hq hor => hg.block q hq (fun e => by
    injection e with e
    rcases hor with h1 | h1
    · have := ho q h1; omega
    · have := h.m.lb; have := ho B (.inl rfl); omega)), h.t.grown hg (fun q e => by injection e with e; omega) (fun q e => by injection e with e; exact .inr (by omega)), h.n, h.kp⟩
theorem R_set7 {W : World} {base : Nat} {v : Value} {xs : List Int} (h : (Kd.int .i64).R 3 W base (fun _ => True) v xs) {g : Nat} {a0 a1 a2 a3 a4 a5 a6 : Value} (hb : W.heap[g]? = some (.cells #[a0, a1, a2, a3, a4, a5, a6] 44 (0, 0))) (v0 v1 v2 v3 v4 v5 v6 : Value) :
    (Kd.int .i64).R 3 (((((((W.setCell ⟨g, 0, none⟩ v0).setCell ⟨g, 1, none⟩ v1).setCell ⟨g, 2, none⟩ v2).setCell ⟨g, 3, none⟩ v3).setCell ⟨g, 4, none⟩ v4).setCell ⟨g, 5, none⟩ v5).setCell ⟨g, 6, none⟩ v6) base (fun _ => True) v xs := by
  have k0 := blk_put (cs' := #[v0, a1, a2, a3, a4, a5, a6]) hb 0 v0 rfl
  have k1 := blk_put (cs' := #[v0, v1, a2, a3, a4, a5, a6]) k0 1 v1 rfl
  have k2 := blk_put (cs' := #[v0, v1, v2, a3, a4, a5, a6]) k1 2 v2 rfl
  have k3 := blk_put (cs' := #[v0, v1, v2, v3, a4, a5, a6]) k2 3 v3 rfl
  have k4 := blk_put (cs' := #[v0, v1, v2, v3, v4, a5, a6]) k3 4 v4 rfl
  have k5 := blk_put (cs' := #[v0, v1, v2, v3, v4, v5, a6]) k4 5 v5 rfl
  exact Kd.R_set (Kd.R_set (Kd.R_set (Kd.R_set (Kd.R_set (Kd.R_set (Kd.R_set h hb (by decide) 0 v0) k0 (by decide) 1 v1) k1 (by decide) 2 v2) k2 (by decide) 3 v3) k3 (by decide) 4 v4) k4 (by decide) 5 v5) k5 (by decide) 6 v6
set_option maxHeartbeats 8000000 in
theorem l_cons4 {w0 w : World} {B : Nat} {k : Lk} {cx : Cx} {lp : Lp} {st : Ls} {i : Nat} (h : Lm w0.heap.size w B k cx lp st i) (h0 : Below w0.heap.size w0 w) (hi : i < 1000) (kc : Nat) (hk : kc < cx.up.length) (op cn : Int) (cd : List Int) (hop : op = 4) (hc : codeL cx st (cx.prod + kc) ⟨op, cn, cd⟩ = 0) (A : Option Addr) (C : Nat) :
    Calls Tryd.prog 40 #[.pointer (some ⟨B, 0, none⟩), .int .i64 (kc : Int), .agg #[.int .i64 op, .int .i64 cn, .slice A cd.length C]] w fun r W => EPost w0 w B k cx lp st (consumeL cx lp st kc ⟨op, cn, cd⟩).1 (i + 1) (consumeL cx lp st kc ⟨op, cn, cd⟩).2 r W := by
  subst hop
  have hb0 := below_alloc (below_alloc (Below.refl w.heap.size w) (.cells #[.int .i64 4, .int .i64 cn, .slice A cd.length C] 39)) (.cells #[.int .i64 0, .int .i64 0, .int .i64 0, .int .i64 0, .int .u64 0, .int .i64 0, .slice none 0 0] 44)
  have HX := blk_alloc (heap_alloc_new w (.cells #[.int .i64 4, .int .i64 cn, .slice A cd.length C] 39)) (.cells #[.int .i64 0, .int .i64 0, .int .i64 0, .int .i64 0, .int .u64 0, .int .i64 0, .slice none 0 0] 44)
  have HE := heap_alloc_new (w.alloc (.cells #[.int .i64 4, .int .i64 cn, .slice A cd.length C] 39)) (.cells #[.int .i64 0, .int .i64 0, .int .i64 0, .int .i64 0, .int .u64 0, .int .i64 0, .slice none 0 0] 44)
  rw [World.size_alloc] at HE
  have HL := Aside.mk h
  have HB0 := Aside.mk hb0
  have H00 := Aside.mk h0
  have HI := Aside.mk hi
  have HK := Aside.mk hk
  have HRG := Aside.mk (show 1 ≤ cn ∧ cn ≤ st.saw.getD kc 0 - st.gate.getD kc 0 by
    rcases code_cons (by omega) hc with ⟨_, h2, h3⟩ | ⟨h2, _⟩ | h2
    · rw [show cx.prod + kc - cx.prod = kc by omega] at h3; exact ⟨h2, h3⟩
    · cases h2
    · cases h2)
  have HBD := Aside.mk (And.intro (h.wf.g0 kc) (And.intro (h.wf.gs kc) (And.intro (h.wf.sp kc) (show st.put.length ≤ 64000 by have := h.wf.tk; have := h.i; omega))))
  have HEQ := Aside.mk (show consumeL cx lp st kc ⟨4, cn, cd⟩ = ({ st with gate := st.gate.set kc (st.gate.getD kc 0 + cn) }, ev0) from rfl)
  have HWF := Aside.mk (show Wf cx { st with gate := st.gate.set kc (st.gate.getD kc 0 + cn) } (i + 1) from by
    have h1 := (h.wf.see kc (st.gate.getD kc 0 + cn) (st.saw.getD kc 0) (by have := HRG.out; omega) (by have := HRG.out; omega) (h.wf.sl kc)).mono (Nat.le_succ i)
    rw [set_self] at h1
    exact h1)
  have hC2 := Cur.start (h.below hb0) (below_low hb0 h0)
  have HY := Aside.mk HX
  have HEV := Aside.mk HE
  have HM2 := Aside.mk (h.below hb0)
  have g1 : decide ((kc : Int) < (cx.up.length : Int)) = true := decide_eq_true (by omega)
  have g2 : (kc : Int) < (cx.up.length : Int) := by omega
  have g3 : decide (kc < cx.up.length) = true := decide_eq_true hk
  clear hb0 h h0 hi hk hc HX HE
  go_enter Tryd.func40, Tryd.ntmps40
  go_upto_region 1 with (fail)
  generalize (w.alloc (.cells #[.int .i64 4, .int .i64 cn, .slice A cd.length C] 39)).alloc (.cells #[.int .i64 0, .int .i64 0, .int .i64 0, .int .i64 0, .int .u64 0, .int .i64 0, .slice none 0 0] 44) = w2 at *
  have HC := Aside.mk hC2
  clear hC2
  obtain ⟨y0, y1, y2⟩ := cell3 HY.out
  obtain ⟨q, eG, _, _, a0, f0⟩ := HC.out.m.gate kc HK.out
  have HQ := Aside.mk eG
  have d12 := HC.out.m.cells.2.2.2.2.2.2.2.2.2.2.2.2.1
  rw [eG] at d12
  generalize hg : st.gate.getD kc 0 = g at *
  have ew : IntKind.i64.wrap (g + cn) = g + cn := by rw [wrapE]; exact w64 (by have := HRG.out; have := HBD.out; omega)
  have ew2 : wrap64 (g + cn) = g + cn := by rw [← wrapE]; exact ew
  have HA := Aside.mk (And.intro a0 d12)
  clear eG a0 d12 hg f0
  go_wp2_with fail
  clear y0 y1 y2
  refine start_ (n := 12) (S := fun w' => w'.cell? ⟨B, 12, none⟩ = some (.slice (some ⟨q, 0, none⟩) cx.up.length k.gc) ∧ w'.cell? ⟨q, kc, none⟩ = some (.int .i64 g) ∧ w'.cell? ⟨w.heap.size, 1, none⟩ = some (.int .i64 cn) ∧ True) (ds := [11]) (bm 12 0) (by kernel_rfl) rfl rfl ⟨((below_drew1 (Below.refl _ _)).cell (World.block_lt_of_cell? _ _ HA.out.2)).trans HA.out.2, ((below_drew1 (Below.refl _ _)).cell (World.block_lt_of_cell? _ _ HA.out.1)).trans HA.out.1, (blk_cell (blk_drew HY.out) 1).trans rfl, trivial⟩ (fun hHeld => ?_)
  replace HC := Aside.mk (HC.out.below (below_drew1 (Below.refl _ _)))
  clear HA
  generalize w2.drew = w3 at *
  obtain ⟨q3, eG3, _, _, a0, f0⟩ := HC.out.m.gate kc HK.out
  obtain rfl : q3 = q := by have h1 := HQ.out; rw [eG3] at h1; injection h1 with h1; injection h1
  clear eG3
  generalize hga : st.gate.getD kc 0 = ga at a0
  clear hga
  refine pu_ 0 (bm 12 1) ?_
  refine pu_ 1 (bm 12 3) ?_
  refine pu_ 2 (bm 12 7) ?_
  refine ta_ 3 (bm 12 15) hHeld ?_
  refine pu_ 4 (bm 12 31) ?_
  refine pu_ 5 (bm 12 63) ?_
  refine ta_ 6 (bm 12 127) hHeld ?_
  refine pu_ 7 (bm 12 255) ?_
  refine ta_ 8 (bm 12 511) hHeld ?_
  refine pu_ 9 (bm 12 1023) ?_
  refine pu_ 10 (bm 12 2047) ?_
  refine last_ (i := 11) (N := none) (bm 12 4095) rfl rfl (by kernel_rfl) (by decide) (fun K hK => ?_)
  refine skip_ (w1 := ?_) (by rfl) rfl ?_ ?_
  rotate_left
  · go_simp
    rfl
  refine hK.out _ _ ?_
  clear hK K
  obtain ⟨w5, hw5, hP5⟩ := HC.out.m.setGate HC.out.t.b HQ.out kc (g + cn) HWF.out HI.out
  rw [← hw5]
  obtain ⟨k5, hc5, _⟩ := HC.out.step hP5
  have HC5 := Aside.mk hc5
  clear hw5 hP5 hc5 a0 f0
  refine done_ (by kernel_rfl) ?_
  have HE7 := Aside.mk (TK.box HC5.out.t HM2.out HEV.out (by decide))
  obtain ⟨e0, e1, e2, e3, e4, e5, e6⟩ := Mo.cell7 HE7.out
  have fz0 := blk_frozen HE7.out 0
  have fz1 := blk_frozen HE7.out 1
  have fz2 := blk_frozen HE7.out 2
  have fz3 := blk_frozen HE7.out 3
  have fz4 := blk_frozen HE7.out 4
  have fz5 := blk_frozen HE7.out 5
  have fz6 := blk_frozen HE7.out 6
  obtain ⟨w8, hw8, hP8, hE8⟩ := LPost.set7 (HC5.out.post.up H00.out HB0.out) HE7.out (Nat.le_succ _) H00.out.size (blk_lt HL.out.b) (.int .i64 0) (.int .i64 0) (.int .i64 0) (.int .i64 0) (.int .u64 0) (.int .i64 0) (.slice none 0 0)
  have HRE := Aside.mk hE8
  have HRP := Aside.mk hP8
  clear hE8 hP8
  go_wp2
  rw [← hw8]
  refine bodyPost_ret (results_cell_row rfl _ _ (w.heap.size + 1) 44 #[.int .i64 0, .int .i64 0, .int .i64 0, .int .i64 0, .int .u64 0, .int .i64 0, .slice none 0 0] (0, 0) _ rfl HRE.out Tryd.underlying44 rfl (by kernel_rfl)) rfl ?_
  exact ⟨none, 0, by rw [HEQ.out] <;> rfl, by rw [HEQ.out]; exact Nat.le_refl _, by rw [HEQ.out]; exact Kd.F_nil _ _ _, by rw [HEQ.out]; exact HRP.out⟩
set_option maxHeartbeats 8000000 in
theorem l_cons3 {w0 w : World} {B : Nat} {k : Lk} {cx : Cx} {lp : Lp} {st : Ls} {i : Nat} (h : Lm w0.heap.size w B k cx lp st i) (h0 : Below w0.heap.size w0 w) (hi : i < 1000) (kc : Nat) (hk : kc < cx.up.length) (op cn : Int) (cd : List Int) (hop : op = 3) (hc : codeL cx st (cx.prod + kc) ⟨op, cn, cd⟩ = 0) (A : Option Addr) (C : Nat) :
    Calls Tryd.prog 40 #[.pointer (some ⟨B, 0, none⟩), .int .i64 (kc : Int), .agg #[.int .i64 op, .int .i64 cn, .slice A cd.length C]] w fun r W => EPost w0 w B k cx lp st (consumeL cx lp st kc ⟨op, cn, cd⟩).1 (i + 1) (consumeL cx lp st kc ⟨op, cn, cd⟩).2 r W := by
  subst hop
  have hb0 := below_alloc (below_alloc (Below.refl w.heap.size w) (.cells #[.int .i64 3, .int .i64 cn, .slice A cd.length C] 39)) (.cells #[.int .i64 0, .int .i64 0, .int .i64 0, .int .i64 0, .int .u64 0, .int .i64 0, .slice none 0 0] 44)
  have HX := blk_alloc (heap_alloc_new w (.cells #[.int .i64 3, .int .i64 cn, .slice A cd.length C] 39)) (.cells #[.int .i64 0, .int .i64 0, .int .i64 0, .int .i64 0, .int .u64 0, .int .i64 0, .slice none 0 0] 44)
  have HE := heap_alloc_new (w.alloc (.cells #[.int .i64 3, .int .i64 cn, .slice A cd.length C] 39)) (.cells #[.int .i64 0, .int .i64 0, .int .i64 0, .int .i64 0, .int .u64 0, .int .i64 0, .slice none 0 0] 44)
  rw [World.size_alloc] at HE
  have HL := Aside.mk h
  have HB0 := Aside.mk hb0
  have H00 := Aside.mk h0
  have HI := Aside.mk hi
  have HK := Aside.mk hk
  have HEQ := Aside.mk (show consumeL cx lp st kc ⟨3, cn, cd⟩ = ({ st with saw := st.saw.set kc (limitL cx st kc) }, { ev0 with n := ready cx st kc }) from rfl)
  have HBD := Aside.mk (And.intro (h.wf.g0 kc) (And.intro (h.wf.gs kc) (And.intro (h.wf.sl kc) (And.intro (limit_le h.wf kc) (show st.put.length ≤ 64000 by have := h.wf.tk; have := h.i; omega)))))
  have HLIM := Aside.mk (show ready cx st kc = limitL cx st kc - st.gate.getD kc 0 from rfl)
  have HWF := Aside.mk ((h.wf.seen kc).mono (Nat.le_succ i))
  have hC2 := Cur.start (h.below hb0) (below_low hb0 h0)
  have HY := Aside.mk HX
  have HEV := Aside.mk HE
  have HM2 := Aside.mk (h.below hb0)
  have g1 : decide ((kc : Int) < (cx.up.length : Int)) = true := decide_eq_true (by omega)
  have g2 : (kc : Int) < (cx.up.length : Int) := by omega
  have g3 : decide (kc < cx.up.length) = true := decide_eq_true hk
  clear hb0 h h0 hi hk hc HX HE
  go_enter Tryd.func40, Tryd.ntmps40
  go_upto_region 1 with (fail)
  generalize (w.alloc (.cells #[.int .i64 3, .int .i64 cn, .slice A cd.length C] 39)).alloc (.cells #[.int .i64 0, .int .i64 0, .int .i64 0, .int .i64 0, .int .u64 0, .int .i64 0, .slice none 0 0] 44) = w2 at *
  have HC := Aside.mk hC2
  clear hC2
  obtain ⟨y0, y1, y2⟩ := cell3 HY.out
  obtain ⟨q, eS, _, _, _, _⟩ := HC.out.m.saw kc HK.out
  have HQ := Aside.mk eS
  have d13 := HC.out.m.cells.2.2.2.2.2.2.2.2.2.2.2.2.2
  rw [eS] at d13
  have HA := Aside.mk d13
  clear eS d13
  go_wp2_with fail
  clear y0 y1 y2
  refine start_ (n := 10) (S := fun w' => w'.cell? ⟨B, 13, none⟩ = some (.slice (some ⟨q, 0, none⟩) cx.up.length k.sc) ∧ True) (ds := [9]) (bm 10 0) (by kernel_rfl) rfl rfl ⟨((below_drew1 (Below.refl _ _)).cell (World.block_lt_of_cell? _ _ HA.out)).trans HA.out, trivial⟩ (fun hHeld => ?_)
  have HD3 := Aside.mk (below_drew1 (Below.refl w2.heap.size w2))
  replace HC := Aside.mk (HC.out.below HD3.out)
  replace HA := Aside.mk ((HD3.out.cell (World.block_lt_of_cell? _ _ HA.out)).trans HA.out)
  generalize w2.drew = w3 at *
  clear HD3
  refine pu_ 0 (bm 10 1) ?_
  refine pu_ 1 (bm 10 3) ?_
  refine pu_ 2 (bm 10 7) ?_
  refine ta_ 3 (bm 10 15) hHeld ?_
  refine pu_ 4 (bm 10 31) ?_
  refine pu_ 5 (bm 10 63) ?_
  refine pu_ 6 (bm 10 127) ?_
  refine one_ (i := 7) (N := some 32) (bm 10 255) rfl rfl (by kernel_rfl) (by decide) (fun K hK => ?_)
  refine goes_ Tryd.func79 (by kernel_rfl) rfl #[.pointer (some ⟨B, 0, none⟩), .int .i64 (kc : Int)] (by rfl) rfl rfl (by (try simp only [List.map_toArray, List.map_cons, List.map_nil]); first | done | rfl) ?_
  refine (l_limit HC.out.m kc HK.out).mono ?_
  rintro q w4 ⟨rfl, hb⟩
  refine ⟨_, rfl, ?_⟩
  replace HC := Aside.mk (HC.out.below hb)
  replace HA := Aside.mk ((hb.cell (World.block_lt_of_cell? _ _ HA.out)).trans HA.out)
  clear hb
  refine hK.out _ _ ⟨HA.out, trivial⟩ (fun hHeld => ?_)
  clear hK K
  refine norm_ (a' := ?_) ?_ ?_
  rotate_left
  · show Act.put _ (some 32) _ = _
    simp only [Act.put, List.setIfInBounds_toArray, List.set_cons_zero, List.set_cons_succ, i64_w, i32_w]
    rfl
  refine pu_ 8 (bm 10 511) ?_
  obtain ⟨q4, eS4, _, _, a0, f0⟩ := HC.out.m.saw kc HK.out
  obtain rfl : q4 = q := by have h1 := HQ.out; rw [eS4] at h1; injection h1 with h1; injection h1
  clear eS4
  generalize hsa : st.saw.getD kc 0 = sa at a0
  clear hsa
  refine last_ (i := 9) (N := none) (bm 10 1023) rfl rfl (by kernel_rfl) (by decide) (fun K hK => ?_)
  refine skip_ (w1 := ?_) (by rfl) rfl ?_ ?_
  rotate_left
  · go_simp
    rfl
  refine hK.out _ _ ?_
  clear hK K
  obtain ⟨w5, hw5, hP5⟩ := HC.out.m.setSaw HC.out.t.b HQ.out kc (limitL cx st kc) HWF.out HI.out
  rw [← hw5]
  obtain ⟨k5, hc5, hk5⟩ := HC.out.step hP5
  have HC5 := Aside.mk hc5
  have HK5 := Aside.mk hk5
  clear hw5 hP5 hc5 hk5 a0 f0 HA
  refine done_ (by kernel_rfl) ?_
  obtain ⟨gq, eG, _, _, z1, _⟩ := HC5.out.m.gate kc HK.out
  obtain ⟨sq, eS, _, _, a2, _⟩ := HC5.out.m.saw kc HK.out
  have a1 : w5.cell? ⟨gq, kc, none⟩ = some (.int .i64 (st.gate.getD kc 0)) := z1
  clear z1
  have hs2 : (st.saw.set kc (limitL cx st kc)).getD kc 0 = limitL cx st kc := by rw [getD_set, if_pos ⟨rfl, by rw [HM2.out.wf.ls]; exact HK.out⟩]
  replace a2 : w5.cell? ⟨sq, kc, none⟩ = some (.int .i64 (limitL cx st kc)) := by rw [← hs2]; exact a2
  have d12 := HC5.out.m.cells.2.2.2.2.2.2.2.2.2.2.2.2.1
  have d13 := HC5.out.m.cells.2.2.2.2.2.2.2.2.2.2.2.2.2
  rw [eG] at d12
  rw [eS] at d13
  have HQG := Aside.mk eG
  generalize hg : st.gate.getD kc 0 = g at *
  generalize hl : limitL cx st kc = lm at *
  have ew : IntKind.i64.wrap (lm - g) = lm - g := by rw [wrapE]; exact w64 (by have := HBD.out; omega)
  have ew2 : wrap64 (lm - g) = lm - g := by rw [← wrapE]; exact ew
  have HA := Aside.mk (And.intro d12 (And.intro d13 (And.intro a1 a2)))
  clear eG eS d12 d13 a1 a2 hs2
  have HGL := Aside.mk (And.intro hg hl)
  clear hg hl
  go_wp2_with fail
  refine start_ (n := 16) (S := fun w' => w'.cell? ⟨B, 12, none⟩ = some (.slice (some ⟨gq, 0, none⟩) cx.up.length k5.gc) ∧ w'.cell? ⟨B, 13, none⟩ = some (.slice (some ⟨sq, 0, none⟩) cx.up.length k5.sc) ∧ w'.cell? ⟨gq, kc, none⟩ = some (.int .i64 g) ∧ w'.cell? ⟨sq, kc, none⟩ = some (.int .i64 lm) ∧ True) (ds := []) (bm 16 0) (by kernel_rfl) rfl rfl ⟨((below_drew1 (Below.refl _ _)).cell (World.block_lt_of_cell? _ _ HA.out.1)).trans HA.out.1, ((below_drew1 (Below.refl _ _)).cell (World.block_lt_of_cell? _ _ HA.out.2.1)).trans HA.out.2.1, ((below_drew1 (Below.refl _ _)).cell (World.block_lt_of_cell? _ _ HA.out.2.2.1)).trans HA.out.2.2.1, ((below_drew1 (Below.refl _ _)).cell (World.block_lt_of_cell? _ _ HA.out.2.2.2)).trans HA.out.2.2.2, trivial⟩ (fun hHeld => ?_)
  replace HC5 := Aside.mk (HC5.out.below (below_drew1 (Below.refl _ _)))
  clear HA
  generalize w5.drew = w6 at *
  refine pu_ 0 (bm 16 1) ?_
  refine pu_ 1 (bm 16 3) ?_
  refine pu_ 2 (bm 16 7) ?_
  refine ta_ 3 (bm 16 15) hHeld ?_
  refine pu_ 4 (bm 16 31) ?_
  refine pu_ 5 (bm 16 63) ?_
  refine ta_ 6 (bm 16 127) hHeld ?_
  refine pu_ 7 (bm 16 255) ?_
  refine pu_ 8 (bm 16 511) ?_
  refine pu_ 9 (bm 16 1023) ?_
  refine ta_ 10 (bm 16 2047) hHeld ?_
  refine pu_ 11 (bm 16 4095) ?_
  refine pu_ 12 (bm 16 8191) ?_
  refine ta_ 13 (bm 16 16383) hHeld ?_
  refine pu_ 14 (bm 16 32767) ?_
  refine pu_ 15 (bm 16 65535) ?_
  refine done_ (by kernel_rfl) ?_
  clear hHeld ew ew2
  have HY6 := Aside.mk (TK.box HC5.out.t HM2.out HY.out (by decide))
  obtain ⟨y0, y1, y2⟩ := cell3 HY6.out
  rw [HLIM.out] at HEQ
  have HE7 := Aside.mk (TK.box HC5.out.t HM2.out HEV.out (by decide))
  obtain ⟨e0, e1, e2, e3, e4, e5, e6⟩ := Mo.cell7 HE7.out
  have fz0 := blk_frozen HE7.out 0
  have fz1 := blk_frozen HE7.out 1
  have fz2 := blk_frozen HE7.out 2
  have fz3 := blk_frozen HE7.out 3
  have fz4 := blk_frozen HE7.out 4
  have fz5 := blk_frozen HE7.out 5
  have fz6 := blk_frozen HE7.out 6
  obtain ⟨w8, hw8, hP8, hE8⟩ := LPost.set7 (HC5.out.post.up H00.out HB0.out) HE7.out (Nat.le_succ _) H00.out.size (blk_lt HL.out.b) (.int .i64 0) (.int .i64 0) (.int .i64 0) (.int .i64 (lm - g)) (.int .u64 0) (.int .i64 0) (.slice none 0 0)
  have HRE := Aside.mk hE8
  have HRP := Aside.mk hP8
  clear hE8 hP8
  go_wp2
  rw [← hw8]
  refine bodyPost_ret (results_cell_row rfl _ _ (w.heap.size + 1) 44 #[.int .i64 0, .int .i64 0, .int .i64 0, .int .i64 (lm - g), .int .u64 0, .int .i64 0, .slice none 0 0] (0, 0) _ rfl HRE.out Tryd.underlying44 rfl (by kernel_rfl)) rfl ?_
  exact ⟨none, 0, by rw [HEQ.out] <;> rfl, by rw [HEQ.out]; exact Nat.le_refl _, by rw [HEQ.out]; exact Kd.F_nil _ _ _, by rw [HEQ.out]; exact HRP.out⟩
set_option maxHeartbeats 8000000 in
theorem l_cons6 {w0 w : World} {B : Nat} {k : Lk} {cx : Cx} {lp : Lp} {st : Ls} {i : Nat} (h : Lm w0.heap.size w B k cx lp st i) (h0 : Below w0.heap.size w0 w) (hi : i < 1000) (kc : Nat) (hk : kc < cx.up.length) (op cn : Int) (cd : List Int) (hop : op = 6) (hc : codeL cx st (cx.prod + kc) ⟨op, cn, cd⟩ = 0) (A : Option Addr) (C : Nat) :
    Calls Tryd.prog 40 #[.pointer (some ⟨B, 0, none⟩), .int .i64 (kc : Int), .agg #[.int .i64 op, .int .i64 cn, .slice A cd.length C]] w fun r W => EPost w0 w B k cx lp st (consumeL cx lp st kc ⟨op, cn, cd⟩).1 (i + 1) (consumeL cx lp st kc ⟨op, cn, cd⟩).2 r W := by
  subst hop
  have hb0 := below_alloc (below_alloc (Below.refl w.heap.size w) (.cells #[.int .i64 6, .int .i64 cn, .slice A cd.length C] 39)) (.cells #[.int .i64 0, .int .i64 0, .int .i64 0, .int .i64 0, .int .u64 0, .int .i64 0, .slice none 0 0] 44)
  have HX := blk_alloc (heap_alloc_new w (.cells #[.int .i64 6, .int .i64 cn, .slice A cd.length C] 39)) (.cells #[.int .i64 0, .int .i64 0, .int .i64 0, .int .i64 0, .int .u64 0, .int .i64 0, .slice none 0 0] 44)
  have HE := heap_alloc_new (w.alloc (.cells #[.int .i64 6, .int .i64 cn, .slice A cd.length C] 39)) (.cells #[.int .i64 0, .int .i64 0, .int .i64 0, .int .i64 0, .int .u64 0, .int .i64 0, .slice none 0 0] 44)
  rw [World.size_alloc] at HE
  have HL := Aside.mk h
  have HB0 := Aside.mk hb0
  have H00 := Aside.mk h0
  have HI := Aside.mk hi
  have HK := Aside.mk hk
  have HRG := Aside.mk (show 1 ≤ cn ∧ cn ≤ 64 by
    rcases code_cons (by omega) hc with ⟨h2, _⟩ | ⟨_, h2, h3⟩ | h2
    · cases h2
    · have := h.s.c64; exact ⟨h2, Int.le_trans h3 this.2⟩
    · cases h2)
  have HEQ := Aside.mk (show consumeL cx lp st kc ⟨6, cn, cd⟩ = if min cn (ready cx st kc) = 0 then ({ st with saw := st.saw.set kc (limitL cx st kc) }, ev0) else ({ st with saw := st.saw.set kc (limitL cx st kc), gate := st.gate.set kc (st.gate.getD kc 0 + min cn (ready cx st kc)) }, { ev0 with pos := lp.pos (st.gate.getD kc 0), n := min cn (ready cx st kc), data := (st.data.drop (st.gate.getD kc 0).toNat).take (min cn (ready cx st kc)).toNat }) from rfl)
  have HW6 := Aside.mk (fun (r : Int) (h1 : 0 ≤ r) (h2 : r ≤ ready cx st kc) => (show Wf cx { st with saw := st.saw.set kc (limitL cx st kc), gate := st.gate.set kc (st.gate.getD kc 0 + r) } (i + 1) from (h.wf.see kc (st.gate.getD kc 0 + r) (limitL cx st kc) (by omega) (by unfold ready at h2; omega) (Int.le_refl _)).mono (Nat.le_succ i)))
  have HBD := Aside.mk (And.intro (h.wf.g0 kc) (And.intro (h.wf.gs kc) (And.intro (h.wf.sl kc) (And.intro (limit_le h.wf kc) (show st.put.length ≤ 64000 by have := h.wf.tk; have := h.i; omega)))))
  have HLIM := Aside.mk (show ready cx st kc = limitL cx st kc - st.gate.getD kc 0 from rfl)
  have HWF := Aside.mk ((h.wf.seen kc).mono (Nat.le_succ i))
  have hC2 := Cur.start (h.below hb0) (below_low hb0 h0)
  have HY := Aside.mk HX
  have HEV := Aside.mk HE
  have HM2 := Aside.mk (h.below hb0)
  have g1 : decide ((kc : Int) < (cx.up.length : Int)) = true := decide_eq_true (by omega)
  have g2 : (kc : Int) < (cx.up.length : Int) := by omega
  have g3 : decide (kc < cx.up.length) = true := decide_eq_true hk
  clear hb0 h h0 hi hk hc HX HE
  go_enter Tryd.func40, Tryd.ntmps40
  go_upto_region 1 with (fail)
  generalize (w.alloc (.cells #[.int .i64 6, .int .i64 cn, .slice A cd.length C] 39)).alloc (.cells #[.int .i64 0, .int .i64 0, .int .i64 0, .int .i64 0, .int .u64 0, .int .i64 0, .slice none 0 0] 44) = w2 at *
  have HC := Aside.mk hC2
  clear hC2
  obtain ⟨y0, y1, y2⟩ := cell3 HY.out
  obtain ⟨q, eS, _, _, _, _⟩ := HC.out.m.saw kc HK.out
  have HQ := Aside.mk eS
  have d13 := HC.out.m.cells.2.2.2.2.2.2.2.2.2.2.2.2.2
  rw [eS] at d13
  have HA := Aside.mk d13
  clear eS d13
  go_wp2_with fail
  clear y0 y1 y2
  refine start_ (n := 10) (S := fun w' => w'.cell? ⟨B, 13, none⟩ = some (.slice (some ⟨q, 0, none⟩) cx.up.length k.sc) ∧ True) (ds := [9]) (bm 10 0) (by kernel_rfl) rfl rfl ⟨((below_drew1 (Below.refl _ _)).cell (World.block_lt_of_cell? _ _ HA.out)).trans HA.out, trivial⟩ (fun hHeld => ?_)
  have HD3 := Aside.mk (below_drew1 (Below.refl w2.heap.size w2))
  replace HC := Aside.mk (HC.out.below HD3.out)
  replace HA := Aside.mk ((HD3.out.cell (World.block_lt_of_cell? _ _ HA.out)).trans HA.out)
  generalize w2.drew = w3 at *
  clear HD3
  refine pu_ 0 (bm 10 1) ?_
  refine pu_ 1 (bm 10 3) ?_
  refine pu_ 2 (bm 10 7) ?_
  refine ta_ 3 (bm 10 15) hHeld ?_
  refine pu_ 4 (bm 10 31) ?_
  refine pu_ 5 (bm 10 63) ?_
  refine pu_ 6 (bm 10 127) ?_
  refine one_ (i := 7) (N := some 32) (bm 10 255) rfl rfl (by kernel_rfl) (by decide) (fun K hK => ?_)
  refine goes_ Tryd.func79 (by kernel_rfl) rfl #[.pointer (some ⟨B, 0, none⟩), .int .i64 (kc : Int)] (by rfl) rfl rfl (by (try simp only [List.map_toArray, List.map_cons, List.map_nil]); first | done | rfl) ?_
  refine (l_limit HC.out.m kc HK.out).mono ?_
  rintro q w4 ⟨rfl, hb⟩
  refine ⟨_, rfl, ?_⟩
  replace HC := Aside.mk (HC.out.below hb)
  replace HA := Aside.mk ((hb.cell (World.block_lt_of_cell? _ _ HA.out)).trans HA.out)
  clear hb
  refine hK.out _ _ ⟨HA.out, trivial⟩ (fun hHeld => ?_)
  clear hK K
  refine norm_ (a' := ?_) ?_ ?_
  rotate_left
  · show Act.put _ (some 32) _ = _
    simp only [Act.put, List.setIfInBounds_toArray, List.set_cons_zero, List.set_cons_succ, i64_w, i32_w]
    rfl
  refine pu_ 8 (bm 10 511) ?_
  obtain ⟨q4, eS4, _, _, a0, f0⟩ := HC.out.m.saw kc HK.out
  obtain rfl : q4 = q := by have h1 := HQ.out; rw [eS4] at h1; injection h1 with h1; injection h1
  clear eS4
  generalize hsa : st.saw.getD kc 0 = sa at a0
  clear hsa
  refine last_ (i := 9) (N := none) (bm 10 1023) rfl rfl (by kernel_rfl) (by decide) (fun K hK => ?_)
  refine skip_ (w1 := ?_) (by rfl) rfl ?_ ?_
  rotate_left
  · go_simp
    rfl
  refine hK.out _ _ ?_
  clear hK K
  obtain ⟨w5, hw5, hP5⟩ := HC.out.m.setSaw HC.out.t.b HQ.out kc (limitL cx st kc) HWF.out HI.out
  rw [← hw5]
  obtain ⟨k5, hc5, hk5⟩ := HC.out.step hP5
  have HC5 := Aside.mk hc5
  have HK5 := Aside.mk hk5
  clear hw5 hP5 hc5 hk5 a0 f0 HA
  refine done_ (by kernel_rfl) ?_
  obtain ⟨gq, eG, _, _, z1, _⟩ := HC5.out.m.gate kc HK.out
  obtain ⟨sq, eS, _, _, a2, _⟩ := HC5.out.m.saw kc HK.out
  have a1 : w5.cell? ⟨gq, kc, none⟩ = some (.int .i64 (st.gate.getD kc 0)) := z1
  clear z1
  have hs2 : (st.saw.set kc (limitL cx st kc)).getD kc 0 = limitL cx st kc := by rw [getD_set, if_pos ⟨rfl, by rw [HM2.out.wf.ls]; exact HK.out⟩]
  replace a2 : w5.cell? ⟨sq, kc, none⟩ = some (.int .i64 (limitL cx st kc)) := by rw [← hs2]; exact a2
  have d12 := HC5.out.m.cells.2.2.2.2.2.2.2.2.2.2.2.2.1
  have d13 := HC5.out.m.cells.2.2.2.2.2.2.2.2.2.2.2.2.2
  rw [eG] at d12
  rw [eS] at d13
  have HQG := Aside.mk eG
  generalize hg : st.gate.getD kc 0 = g at *
  generalize hl : limitL cx st kc = lm at *
  have ew : IntKind.i64.wrap (lm - g) = lm - g := by rw [wrapE]; exact w64 (by have := HBD.out; omega)
  have ew2 : wrap64 (lm - g) = lm - g := by rw [← wrapE]; exact ew
  have HA := Aside.mk (And.intro d12 (And.intro d13 (And.intro a1 a2)))
  clear eG eS d12 d13 a1 a2 hs2
  have HGL := Aside.mk (And.intro hg hl)
  clear hg hl
  go_wp2_with fail
  refine start_ (n := 16) (S := fun w' => w'.cell? ⟨B, 12, none⟩ = some (.slice (some ⟨gq, 0, none⟩) cx.up.length k5.gc) ∧ w'.cell? ⟨B, 13, none⟩ = some (.slice (some ⟨sq, 0, none⟩) cx.up.length k5.sc) ∧ w'.cell? ⟨gq, kc, none⟩ = some (.int .i64 g) ∧ w'.cell? ⟨sq, kc, none⟩ = some (.int .i64 lm) ∧ True) (ds := []) (bm 16 0) (by kernel_rfl) rfl rfl ⟨((below_drew1 (Below.refl _ _)).cell (World.block_lt_of_cell? _ _ HA.out.1)).trans HA.out.1, ((below_drew1 (Below.refl _ _)).cell (World.block_lt_of_cell? _ _ HA.out.2.1)).trans HA.out.2.1, ((below_drew1 (Below.refl _ _)).cell (World.block_lt_of_cell? _ _ HA.out.2.2.1)).trans HA.out.2.2.1, ((below_drew1 (Below.refl _ _)).cell (World.block_lt_of_cell? _ _ HA.out.2.2.2)).trans HA.out.2.2.2, trivial⟩ (fun hHeld => ?_)
  replace HC5 := Aside.mk (HC5.out.below (below_drew1 (Below.refl _ _)))
  clear HA
  generalize w5.drew = w6 at *
  refine pu_ 0 (bm 16 1) ?_
  refine pu_ 1 (bm 16 3) ?_
  refine pu_ 2 (bm 16 7) ?_
  refine ta_ 3 (bm 16 15) hHeld ?_
  refine pu_ 4 (bm 16 31) ?_
  refine pu_ 5 (bm 16 63) ?_
  refine ta_ 6 (bm 16 127) hHeld ?_
  refine pu_ 7 (bm 16 255) ?_
  refine pu_ 8 (bm 16 511) ?_
  refine pu_ 9 (bm 16 1023) ?_
  refine ta_ 10 (bm 16 2047) hHeld ?_
  refine pu_ 11 (bm 16 4095) ?_
  refine pu_ 12 (bm 16 8191) ?_
  refine ta_ 13 (bm 16 16383) hHeld ?_
  refine pu_ 14 (bm 16 32767) ?_
  refine pu_ 15 (bm 16 65535) ?_
  refine done_ (by kernel_rfl) ?_
  clear hHeld ew ew2
  have HY6 := Aside.mk (TK.box HC5.out.t HM2.out HY.out (by decide))
  obtain ⟨y0, y1, y2⟩ := cell3 HY6.out
  go_upto_region 9 with (fail)
  clear y0 y1 y2 HY6
  obtain ⟨gn, hgn⟩ : ∃ gn : Nat, g = gn := ⟨g.toNat, by have := HBD.out; omega⟩
  obtain ⟨rn, hrn⟩ : ∃ rn : Nat, min cn (lm - g) = rn := ⟨(min cn (lm - g)).toNat, by have := HBD.out; have := HRG.out; omega⟩
  rw [HLIM.out, hrn] at HEQ
  rw [show (if lm - g < cn then lm - g else cn) = (rn : Int) from by rw [← hrn]; split <;> omega]
  have HRN := Aside.mk (show (gn : Int) + rn ≤ lm ∧ lm ≤ st.put.length ∧ st.put.length ≤ 64000 from by have := HBD.out; omega)
  have HWR := Aside.mk (HW6.out (rn : Int) (by omega) (by rw [HLIM.out]; have := HRN.out; omega))
  subst hgn
  have HGN := Aside.mk (show st.gate.getD kc 0 = (gn : Int) from HGL.out.1)
  by_cases h0 : rn = 0
  · have t1 : ((rn : Int) == 0) = true := by rw [h0]; rfl
    rw [if_pos (by omega)] at HEQ
    clear h0 hrn
    have HE7 := Aside.mk (TK.box HC5.out.t HM2.out HEV.out (by decide))
    obtain ⟨e0, e1, e2, e3, e4, e5, e6⟩ := Mo.cell7 HE7.out
    have fz0 := blk_frozen HE7.out 0
    have fz1 := blk_frozen HE7.out 1
    have fz2 := blk_frozen HE7.out 2
    have fz3 := blk_frozen HE7.out 3
    have fz4 := blk_frozen HE7.out 4
    have fz5 := blk_frozen HE7.out 5
    have fz6 := blk_frozen HE7.out 6
    obtain ⟨w8, hw8, hP8, hE8⟩ := LPost.set7 (HC5.out.post.up H00.out HB0.out) HE7.out (Nat.le_succ _) H00.out.size (blk_lt HL.out.b) (.int .i64 0) (.int .i64 0) (.int .i64 0) (.int .i64 0) (.int .u64 0) (.int .i64 0) (.slice none 0 0)
    have HRE := Aside.mk hE8
    have HRP := Aside.mk hP8
    clear hE8 hP8
    go_wp2
    rw [← hw8]
    refine bodyPost_ret (results_cell_row rfl _ _ (w.heap.size + 1) 44 #[.int .i64 0, .int .i64 0, .int .i64 0, .int .i64 0, .int .u64 0, .int .i64 0, .slice none 0 0] (0, 0) _ rfl HRE.out Tryd.underlying44 rfl (by kernel_rfl)) rfl ?_
    exact ⟨none, 0, by rw [HEQ.out] <;> rfl, by rw [HEQ.out]; exact Nat.le_refl _, by rw [HEQ.out]; exact Kd.F_nil _ _ _, by rw [HEQ.out]; exact HRP.out⟩
  have t1 : ((rn : Int) == 0) = false := by simpa using h0
  rw [if_neg (by omega)] at HEQ
  clear hrn h0
  obtain ⟨gq6, eG6, _, _, b1, f1⟩ := HC5.out.m.gate kc HK.out
  obtain rfl : gq6 = gq := by have h1 := HQG.out; rw [eG6] at h1; injection h1 with h1; injection h1
  have a1 : w6.cell? ⟨gq6, kc, none⟩ = some (.int .i64 (gn : Int)) := by rw [← HGN.out]; exact b1
  clear b1
  have d12 := HC5.out.m.cells.2.2.2.2.2.2.2.2.2.2.2.2.1
  rw [eG6] at d12
  have ew : IntKind.i64.wrap ((gn : Int) + (rn : Int)) = (gn : Int) + rn := by rw [wrapE]; exact w64 (by have := HRN.out; omega)
  have ew2 : wrap64 ((gn : Int) + (rn : Int)) = (gn : Int) + rn := by rw [← wrapE]; exact ew
  have HY6 := Aside.mk (TK.box HC5.out.t HM2.out HY.out (by decide))
  obtain ⟨y0, y1, y2⟩ := cell3 HY6.out
  go_upto_region 13 with (fail)
  obtain ⟨w7, hw7, hP7⟩ := HC5.out.m.setGate (i' := i + 1) HC5.out.t.b eG6 kc ((gn : Int) + rn) HWR.out HI.out
  rw [← hw7]
  obtain ⟨k7, hc7, hk7⟩ := HC5.out.step hP7
  obtain ⟨st7, hst7⟩ : ∃ s : Ls, s = { st with saw := st.saw.set kc lm, gate := st.gate.set kc ((gn : Int) + rn) } := ⟨_, rfl⟩
  have HC7 := Aside.mk (show Cur w0 w2 w7 B k k7 cx lp st st7 (i + 1) from by rw [hst7]; exact hc7)
  have HS7 := Aside.mk (And.intro (show st7.data = st.data by rw [hst7]) (And.intro (show st7.put.length = st.put.length by rw [hst7]) hst7))
  clear hst7
  have HP7S := Aside.mk (show w6.heap.size ≤ w7.heap.size from by obtain ⟨_, _, h, _⟩ := hP7; exact h.s)
  have HB00 := Aside.mk (show w0.heap.size ≤ w2.heap.size from Nat.le_trans H00.out.size HB0.out.size)
  clear hw7 hP7 hc7 hk7 a1 f1 d12 y0 y1 y2 HY6 eG6 t1
  have d9 := HC7.out.m.cells.2.2.2.2.2.2.2.2.2.1
  rw [HS7.out.2.1] at d9
  refine start_ (n := 17) (S := fun w' => w'.cell? ⟨B, 9, none⟩ = some (.slice k7.D st.put.length k7.dc) ∧ True) (ds := [16]) (bm 17 0) (by kernel_rfl) rfl rfl ⟨((below_drew1 (Below.refl _ _)).cell (World.block_lt_of_cell? _ _ d9)).trans d9, trivial⟩ (fun hHeld => ?_)
  replace HC7 := Aside.mk (HC7.out.below (below_drew1 (Below.refl _ _)))
  clear d9
  have HSZ9 := Aside.mk (show w6.heap.size ≤ w7.drew.heap.size from Nat.le_trans HP7S.out (below_drew1 (Below.refl w7.heap.size w7)).size)
  generalize w7.drew = w9 at *
  have hdc : st.put.length ≤ k7.dc := by have h1 := (Kd.R_reads' (HC7.out.m.x.r 1 _ rfl)).2.1; have h2 : k7.dn = st7.put.length := HC7.out.m.ns.2.1; rw [HS7.out.2.1] at h2; exact Nat.le_trans (Nat.le_of_eq h2.symm) h1
  have HSL := Aside.mk (show gn + rn ≤ st.put.length ∧ st.put.length ≤ k7.dc from ⟨sl_le HRN.out, hdc⟩)
  clear hdc
  refine pu_ 0 (bm 17 1) ?_
  refine pu_ 1 (bm 17 3) ?_
  refine pu_ 3 (bm 17 11) ?_
  refine pu_ 5 (bm 17 43) ?_
  refine pu_ 6 (bm 17 107) ?_
  refine pu_ 7 (bm 17 235) ?_
  refine ta_ 8 (bm 17 491) hHeld ?_
  refine pu_ 9 (bm 17 1003) ?_
  refine pu_ 10 (bm 17 2027) ?_
  refine pu_ 11 (bm 17 4075) ?_
  refine pu_ 12 (bm 17 8171) ?_
  obtain ⟨SA, hSA⟩ : ∃ SA, SA = (if k7.dc = gn then k7.D else k7.D.map (·.add (gn * 1))) := ⟨_, rfl⟩
  have HSA := Aside.mk hSA
  clear hSA
  refine pure_ (i := 13) (N := some 91) (v := .slice SA rn (k7.dc - gn)) (a' := ?_) (bm 17 16363) rfl rfl (by kernel_rfl) (fun _ _ _ h => h) (Or.inl ⟨by rfl, fun w' => ?_⟩) ?_ ?_
  · refine slice_nat _ _ (.tmp 86) (.tmp 87) (.tmp 90) k7.D SA st.put.length k7.dc gn rn rfl rfl rfl rfl (Nat.le_trans HSL.out.1 HSL.out.2) HSA.out w'
  rotate_left
  · go_simp; (try simp only [i64_w, i32_w]); rfl
  refine join_ (σ := Nat) 3 (bm 17 16383) (fun b => [(80, .int .u64 (lp.pos (gn : Int))), (82, .slice (some ⟨b, 0, none⟩) 0 0)]) (fun b wb => Cur w0 w2 wb B k k7 cx lp st st7 (i + 1) ∧ (Kd.int .i64).R 3 wb w9.heap.size (fun _ => True) (.slice (some ⟨b, 0, none⟩) 0 0) [] ∧ Below w9.heap.size w9 wb ∧ w9.heap.size ≤ b) (fun b wb hF => ?cont) (fun J => ?orders)
  case orders =>
    refine two_ (i := 2) (j := 4) (Ni := some 80) (Nj := some 82) (bm 17 16367) (bm 17 16379) rfl rfl rfl rfl (by kernel_rfl) (by decide) (by decide) (fun K hK => ?_) (fun K hK => ?_)
    ·
      refine goes_ Tryd.func76 (by kernel_rfl) rfl #[.pointer (some ⟨B, 0, none⟩), .int .i64 (gn : Int)] (by rfl) rfl rfl (by (try simp only [List.map_toArray, List.map_cons, List.map_nil]); first | done | rfl) ?_
      refine (l_pos HC7.out.m (gn : Int)).mono ?_
      rintro q wn ⟨rfl, hb⟩
      refine ⟨_, rfl, ?_⟩
      have hcn := Aside.mk (Cur.below HC7.out hb)
      refine hK.out _ _ ⟨(show _ from by have h := hcn.out.m.cells.2.2.2.2.2.2.2.2.2.1; rw [HS7.out.2.1] at h; exact h), trivial⟩ (fun hHeld => ?_)
      clear hK K
      refine norm_ (a' := ?_) ?_ ?_
      rotate_left
      · show Act.put _ (some 80) _ = _
        simp only [Act.put, List.setIfInBounds_toArray, List.set_cons_zero, List.set_cons_succ, i64_w, i32_w]
        rfl
      refine one_ (i := 4) (N := some 82) (bm 17 16383) rfl rfl (by kernel_rfl) (by decide) (fun K hK => ?_)
      refine value_ (v := .slice (some ⟨wn.heap.size, 0, none⟩) 0 0) (w1 := wn.alloc (.cells #[] 3)) (by rfl) rfl ?_ ?_
      · go_simp
      have hb2 := below_alloc (Below.refl wn.heap.size wn) (.cells #[] 3)
      have hc2 := Aside.mk (Cur.below hcn.out hb2)
      refine hK.out _ _ ⟨(show _ from by have h := hc2.out.m.cells.2.2.2.2.2.2.2.2.2.1; rw [HS7.out.2.1] at h; exact h), trivial⟩ (fun hHeld => ?_)
      exact J wn.heap.size _ ⟨hc2.out, R_empty wn _ hb.size, hb.trans (hb2.mono hb.size), hb.size⟩
    ·
      refine value_ (v := .slice (some ⟨w9.heap.size, 0, none⟩) 0 0) (w1 := w9.alloc (.cells #[] 3)) (by rfl) rfl ?_ ?_
      · go_simp
      have hb2 := below_alloc (Below.refl w9.heap.size w9) (.cells #[] 3)
      have hc2 := Aside.mk (Cur.below HC7.out hb2)
      refine hK.out _ _ ⟨(show _ from by have h := hc2.out.m.cells.2.2.2.2.2.2.2.2.2.1; rw [HS7.out.2.1] at h; exact h), trivial⟩ (fun hHeld => ?_)
      have hre := R_empty w9 w9.heap.size (Nat.le_refl _)
      generalize w9.alloc (.cells #[] 3) = wq at *
      clear hK K
      refine norm_ (a' := ?_) ?_ ?_
      rotate_left
      · show Act.put _ (some 82) _ = _
        simp only [Act.put, List.setIfInBounds_toArray, List.set_cons_zero, List.set_cons_succ, i64_w, i32_w]
        rfl
      refine one_ (i := 2) (N := some 80) (bm 17 16383) rfl rfl (by kernel_rfl) (by decide) (fun K hK => ?_)
      refine goes_ Tryd.func76 (by kernel_rfl) rfl #[.pointer (some ⟨B, 0, none⟩), .int .i64 (gn : Int)] (by rfl) rfl rfl (by (try simp only [List.map_toArray, List.map_cons, List.map_nil]); first | done | rfl) ?_
      refine (l_pos hc2.out.m (gn : Int)).mono ?_
      rintro q wn ⟨rfl, hb⟩
      refine ⟨_, rfl, ?_⟩
      have hcn := Aside.mk (Cur.below hc2.out hb)
      refine hK.out _ _ ⟨(show _ from by have h := hcn.out.m.cells.2.2.2.2.2.2.2.2.2.1; rw [HS7.out.2.1] at h; exact h), trivial⟩ (fun hHeld => ?_)
      exact J w9.heap.size _ ⟨hcn.out, Kd.R_below hre hb, hb2.trans (hb.mono hb2.size), Nat.le_refl _⟩
  case cont =>
    obtain ⟨hF1, hF2, hF3, hF4⟩ := hF
    have HF1 := Aside.mk hF1
    have HOL := Aside.mk (fun (q : Nat) (hq : OwnB (rowsL k7 st7) B q) => Nat.lt_of_lt_of_le (HC7.out.m.x.lt hq) hF4)
    clear HC7
    have hC := (Kd.R_reads' (HF1.out.m.x.r 1 _ rfl)).2.2
    have hlen : st7.data.length = st.put.length := by rw [HF1.out.m.wf.ld]; exact HS7.out.2.1
    have hmid := Kd.C_mid (k := Kd.int .i64) (lo := gn) (hi := gn + rn) (c := k7.dc) (xs := st7.data) hC (Nat.le_add_right _ _) (Nat.le_trans HSL.out.1 (Nat.le_of_eq hlen.symm)) (Nat.le_trans (Nat.le_of_eq hlen) HSL.out.2)
    rw [show (Kd.int .i64).sz = 1 from rfl, ← HSA.out] at hmid
    have hys : ((st7.data.take (gn + rn)).drop gn).length = rn := mid_len _ _ _ (Nat.le_trans HSL.out.1 (Nat.le_of_eq hlen.symm))
    have hyd : (st7.data.take (gn + rn)).drop gn = (st.data.drop gn).take rn := by rw [HS7.out.1, List.drop_take, Nat.add_sub_cancel_left]
    rw [hyd] at hys hmid
    rw [hys] at hmid
    generalize hyy : (st.data.drop gn).take rn = ys at *
    refine norm_ (a' := ?_) ?_ ?_
    rotate_left
    · simp only [putAll, Act.put, List.setIfInBounds_toArray, List.set_cons_zero, List.set_cons_succ, i64_w, i32_w]
      rfl
    refine one_ (i := 14) (N := some 92) (bm 17 32767) rfl rfl (by kernel_rfl) (by decide) (fun K hK => ?_)
    refine Kd.R_append_rows_step (Kd.int .i64) (Rr := (Kd.int .i64).K wb) (w0 := w9) w9.heap.size (by rfl) (.tmp 82) (.tmp 91) 37 3 (.int .i64 0) 8 rfl und_is inf_i rfl (by decide) (by decide) (.slice (some ⟨b, 0, none⟩) 0 0) [] ys SA rn (k7.dc - gn) (fun _ => True) (fun _ => False) rfl rfl hF2 hmid (fun _ _ h => h) (fun _ h => h.elim) (fun _ _ => trivial) hF3 hF3.size (app_bd HRN.out) ?_
    intro v1 w10 hr hz1 hg hz2
    clear hz1 hz2
    obtain ⟨A1, C1, ev⟩ := Kd.R_slice hr
    subst ev
    rw [List.nil_append] at hr
    have hc10 := HF1.out.grown HOL.out hg (Nat.le_trans (Nat.le_trans HC5.out.t.s HSZ9.out) hF4) (HB00.out)
    have HC10 := Aside.mk hc10
    have HR10 := Aside.mk hr
    try rw [List.nil_append]
    rw [hys] at HR10
    try rw [hys]
    refine hK.out _ _ ⟨(show _ from by have h := HC10.out.m.cells.2.2.2.2.2.2.2.2.2.1; rw [HS7.out.2.1] at h; exact h), trivial⟩ (fun hHeld => ?_)
    clear hK K
    refine norm_ (a' := ?_) ?_ ?_
    rotate_left
    · show Act.put _ (some 92) _ = _
      simp only [Act.put, List.setIfInBounds_toArray, List.set_cons_zero, List.set_cons_succ, i64_w, i32_w]
      rfl
    refine pu_ 15 (bm 17 65535) ?_
    have HE7 := Aside.mk (TK.box HC10.out.t HM2.out HEV.out (by decide))
    obtain ⟨e0, e1, e2, e3, e4, e5, e6⟩ := Mo.cell7 HE7.out
    have fz0 := blk_frozen HE7.out 0
    have fz1 := blk_frozen HE7.out 1
    have fz2 := blk_frozen HE7.out 2
    have fz3 := blk_frozen HE7.out 3
    have fz4 := blk_frozen HE7.out 4
    have fz5 := blk_frozen HE7.out 5
    have fz6 := blk_frozen HE7.out 6
    refine last_ (i := 16) (N := none) (bm 17 131071) rfl rfl (by kernel_rfl) (by decide) (fun K hK => ?_)
    refine skip_ (w1 := ?_) (by rfl) rfl ?_ ?_
    rotate_left
    · go_simp
      rfl
    refine hK.out _ _ ?_
    clear hK K
    obtain ⟨w11, hw11, hP11, hE11⟩ := LPost.set7 (HC10.out.post.up H00.out HB0.out) HE7.out (Nat.le_succ _) H00.out.size (blk_lt HL.out.b) (.int .i64 0) (.int .i64 0) (.int .i64 0) (.int .i64 (rn : Int)) (.int .u64 (lp.pos (gn : Int))) (.int .i64 0) (.slice A1 rn C1)
    have hR11 := R_set7 HR10.out HE7.out (.int .i64 0) (.int .i64 0) (.int .i64 0) (.int .i64 (rn : Int)) (.int .u64 (lp.pos (gn : Int))) (.int .i64 0) (.slice A1 rn C1)
    rw [← hw11] at hR11
    rw [← hw11]
    clear hw11 e0 e1 e2 e3 e4 e5 e6 fz0 fz1 fz2 fz3 fz4 fz5 fz6
    refine done_ (by kernel_rfl) ?_
    go_wp2
    refine bodyPost_ret (results_cell_row rfl _ _ (w.heap.size + 1) 44 #[.int .i64 0, .int .i64 0, .int .i64 0, .int .i64 (rn : Int), .int .u64 (lp.pos (gn : Int)), .int .i64 0, .slice A1 rn C1] (0, 0) _ rfl hE11 Tryd.underlying44 rfl (by kernel_rfl)) rfl ?_
    have hFD : Kd.F (Kd.int .i64) w11 (fun q => w.heap.size ≤ q) A1 rn ys := Kd.F_mono (Kd.R_F (Kd.R_tight rfl hR11)) (fun q hq => Nat.le_trans (Nat.le_trans HB0.out.size (Nat.le_trans HC5.out.t.s HSZ9.out)) (Kd.R_base hR11 q hq.symm))
    have hE : (consumeL cx lp st kc ⟨6, cn, cd⟩) = (st7, { ev0 with pos := lp.pos (gn : Int), n := (rn : Int), data := ys }) := by rw [HEQ.out, HS7.out.2.2, Int.toNat_natCast, Int.toNat_natCast, hyy]
    exact ⟨A1, C1, by rw [hE]; show _ = Ending.returned (.agg #[.int .i64 0, .int .i64 0, .int .i64 0, .int .i64 (rn : Int), .int .u64 (lp.pos (gn : Int)), .int .i64 0, .slice A1 ys.length C1]); rw [hys], by rw [hE]; show ys.length ≤ C1; rw [hys]; exact (Kd.R_reads' hR11).2.1, by rw [hE]; show Kd.F (Kd.int .i64) w11 (fun q => w.heap.size ≤ q) A1 ys.length ys; rw [hys]; exact hFD, by rw [hE]; exact hP11⟩
end Go.Proofs.YtgibmlbdkijflaaDoor.So
set_option linter.unusedVariables false
set_option linter.unusedSimpArgs false
set_option maxRecDepth 100000
namespace Go.Proofs.YtgibmlbdkijflaaDoor.So
open Go.RowKit Go.Proofs.YtgibmlbdkijflaaDoorW.PrintWords Go.Proofs.YtgibmlbdkijflaaDoorW.PrintLast Go.Proofs.YtgibmlbdkijflaaDoorW.PrintMore
open Ow
open Mo (Aside Cx U64 I64 ints least run cutW plusW New below_low tn1 meas1 w64 i1 wrapE)
open QGc (checkC)
open Graph (checkG Gv)
open Mo (Ev)
section
variable {w0 w W W1 : World} {B : Nat} {k0 k : Lk} {cx : Cx} {lp : Lp} {st0 st st' : Ls} {i i' : Nat}
theorem set7_far {W : World} {g : Nat} (v0 v1 v2 v3 v4 v5 v6 : Value) {q : Nat} (hq : q ≠ g) : (((((((W.setCell ⟨g, 0, none⟩ v0).setCell ⟨g, 1, none⟩ v1).setCell ⟨g, 2, none⟩ v2).setCell ⟨g, 3, none⟩ v3).setCell ⟨g, 4, none⟩ v4).setCell ⟨g, 5, none⟩ v5).setCell ⟨g, 6, none⟩ v6).heap[q]? = W.heap[q]? := by
  rw [Below.heap_setCell _ _ _ _ hq, Below.heap_setCell _ _ _ _ hq, Below.heap_setCell _ _ _ _ hq, Below.heap_setCell _ _ _ _ hq, Below.heap_setCell _ _ _ _ hq, Below.heap_setCell _ _ _ _ hq, Below.heap_setCell _ _ _ _ hq]
end
theorem l_prod {w0 w : World} {B : Nat} {k : Lk} {cx : Cx} {lp : Lp} {st : Ls} {i : Nat} (h : Lm w0.heap.size w B k cx lp st i) (h0 : Below w0.heap.size w0 w) (hi : i < 1000) (t : Nat) (ht : t < cx.prod) (c : Cl) (hc : codeL cx st t c = 0) (A : Option Addr) (C : Nat) (hdF : Kd.F (Kd.int .i64) w (fun q => ¬ OwnB (rowsL k st) B q) A c.data.length c.data) (hdl : c.data.length ≤ C) :
    Calls Tryd.prog 39 #[.pointer (some ⟨B, 0, none⟩), .int .i64 (t : Int), .agg #[.int .i64 c.op, .int .i64 c.n, .slice A c.data.length C]] w fun r W => EPost w0 w B k cx lp st (doL cx lp st t c) (i + 1) (callL cx lp st t c).2 r W := by
  obtain ⟨op, cn, cd⟩ := c
  have e : callL cx lp st t ⟨op, cn, cd⟩ = produceL lp st t ⟨op, cn, cd⟩ := by
    unfold callL
    rw [if_neg (fun h => h hc), if_pos ht]
  unfold doL
  rw [e]
  rcases code_prod ht hc with ⟨h1 | h1, _⟩ | ⟨h1, _⟩
  · exact l_prod1 h h0 hi t ht op cn cd h1 hc A C
  · exact l_prod5 h h0 hi t ht op cn cd h1 hc A C hdF hdl
  · exact l_prod2 h h0 hi t ht op cn cd h1 hc A C
theorem l_cons {w0 w : World} {B : Nat} {k : Lk} {cx : Cx} {lp : Lp} {st : Ls} {i : Nat} (h : Lm w0.heap.size w B k cx lp st i) (h0 : Below w0.heap.size w0 w) (hi : i < 1000) (kc : Nat) (hk : kc < cx.up.length) (t : Nat) (ht : t = cx.prod + kc) (c : Cl) (hc : codeL cx st t c = 0) (A : Option Addr) (C : Nat) :
    Calls Tryd.prog 40 #[.pointer (some ⟨B, 0, none⟩), .int .i64 (kc : Int), .agg #[.int .i64 c.op, .int .i64 c.n, .slice A c.data.length C]] w fun r W => EPost w0 w B k cx lp st (doL cx lp st t c) (i + 1) (callL cx lp st t c).2 r W := by
  subst ht
  obtain ⟨op, cn, cd⟩ := c
  have e : callL cx lp st (cx.prod + kc) ⟨op, cn, cd⟩ = consumeL cx lp st kc ⟨op, cn, cd⟩ := by
    unfold callL
    rw [if_neg (fun h => h hc), if_neg (by omega), Nat.add_sub_cancel_left]
  unfold doL
  rw [e]
  rcases code_cons (by omega) hc with ⟨h1, _⟩ | ⟨h1, _⟩ | h1
  · exact l_cons4 h h0 hi kc hk op cn cd h1 hc A C
  · exact l_cons6 h h0 hi kc hk op cn cd h1 hc A C
  · exact l_cons3 h h0 hi kc hk op cn cd h1 hc A C
structure DPost (w0 w : World) (B : Nat) (k : Lk) (cx : Cx) (lp : Lp) (st st' : Ls) (i' : Nat) (e : Ev) (r : Ending) (W : World) : Prop where mk ::
  out : ∃ A C, r = .returned (.tuple #[.agg (evV e A C), .int .i64 0]) ∧ e.data.length ≤ C ∧ Kd.F (Kd.int .i64) W (fun q => w.heap.size ≤ q) A e.data.length e.data ∧ LPost w0 w B k cx lp st st' i' W
theorem set7e {w0 w : World} {R : Nat} {t : TypeId} {a0 a1 a2 a3 a4 a5 a6 : Value} (v0 v1 v2 v3 v4 v5 v6 : Value) (b : Below w0.heap.size w0 w) (hR : w0.heap.size ≤ R) (h : w.heap[R]? = some (.cells #[a0, a1, a2, a3, a4, a5, a6] t (0, 0))) :
    (((((((w.setCell ⟨R, 0, none⟩ v0).setCell ⟨R, 1, none⟩ v1).setCell ⟨R, 2, none⟩ v2).setCell ⟨R, 3, none⟩ v3).setCell ⟨R, 4, none⟩ v4).setCell ⟨R, 5, none⟩ v5).setCell ⟨R, 6, none⟩ v6).heap[R]? = some (.cells #[v0, v1, v2, v3, v4, v5, v6] t (0, 0)) ∧ Below w0.heap.size w0 (((((((w.setCell ⟨R, 0, none⟩ v0).setCell ⟨R, 1, none⟩ v1).setCell ⟨R, 2, none⟩ v2).setCell ⟨R, 3, none⟩ v3).setCell ⟨R, 4, none⟩ v4).setCell ⟨R, 5, none⟩ v5).setCell ⟨R, 6, none⟩ v6) := by
  have k0 := blk_put (cs' := #[v0, a1, a2, a3, a4, a5, a6]) h 0 v0 rfl
  have k1 := blk_put (cs' := #[v0, v1, a2, a3, a4, a5, a6]) k0 1 v1 rfl
  have k2 := blk_put (cs' := #[v0, v1, v2, a3, a4, a5, a6]) k1 2 v2 rfl
  have k3 := blk_put (cs' := #[v0, v1, v2, v3, a4, a5, a6]) k2 3 v3 rfl
  have k4 := blk_put (cs' := #[v0, v1, v2, v3, v4, a5, a6]) k3 4 v4 rfl
  have k5 := blk_put (cs' := #[v0, v1, v2, v3, v4, v5, a6]) k4 5 v5 rfl
  have k6 := blk_put (cs' := #[v0, v1, v2, v3, v4, v5, v6]) k5 6 v6 rfl
  exact ⟨k6, (((((((b.setCell hR _).setCell hR _).setCell hR _).setCell hR _).setCell hR _).setCell hR _).setCell hR _)⟩
structure TP (w0 w : World) (B : Nat) (k : Lk) (cx : Cx) (lp : Lp) (st st' : Ls) (i' g : Nat) (yc : Array Value) (A : Option Addr) (d : List Int) (cs : Array Value) (W : World) : Prop where
  p : LPost w0 w B k cx lp st st' i' W
  b : W.heap[g]? = some (.cells cs 44 (0, 0))
  y : W.heap[w.heap.size]? = some (.cells yc 39 (0, 0))
  e : W.heap[w.heap.size + 1]? = some (.cells #[.int .i64 0, .int .i64 0, .int .i64 0, .int .i64 0, .int .u64 0, .int .i64 0, .slice none 0 0] 44 (0, 0))
  f : Kd.F (Kd.int .i64) W (fun q => w.heap.size + 2 ≤ q ∧ q ≠ g) A d.length d
section
variable {w0 w W W1 : World} {B g : Nat} {k : Lk} {cx : Cx} {lp : Lp} {st st' : Ls} {i' : Nat} {yc cs : Array Value} {A : Option Addr} {d : List Int}
theorem TP.below (h : TP w0 w B k cx lp st st' i' g yc A d cs W) (b : Below W.heap.size W W1) : TP w0 w B k cx lp st st' i' g yc A d cs W1 :=
  ⟨h.p.below b, blk_below h.b b, blk_below h.y b, blk_below h.e b, Kd.F_below h.f b⟩
theorem TP.set (h : TP w0 w B k cx lp st st' i' g yc A d cs W) (hg : w.heap.size + 2 ≤ g) (h0 : w0.heap.size ≤ w.heap.size) (hB : B < w.heap.size) (j : Nat) (v : Value) (cs' : Array Value) (hc : cs.setIfInBounds j v = cs') : TP w0 w B k cx lp st st' i' g yc A d cs' (W.setCell ⟨g, j, none⟩ v) :=
  ⟨h.p.set h.b (by omega) h0 hB (by decide) j v, blk_put h.b j v hc, blk_far h.y (p := ⟨g, j, none⟩) (by show w.heap.size ≠ g; omega) v, blk_far h.e (p := ⟨g, j, none⟩) (by show w.heap.size + 1 ≠ g; omega) v, Kd.F_step h.f (fun q hq _ => Below.heap_setCell _ _ _ _ hq.2)⟩
end
set_option maxHeartbeats 8000000 in
theorem l_do_nil (c : Cl) (A : Option Addr) (C : Nat) (t : Int) (w : World) :
    Calls Tryd.prog 13 #[.pointer none, .int .i64 t, .agg #[.int .i64 c.op, .int .i64 c.n, .slice A c.data.length C]] w fun r W => r = .returned (.tuple #[.agg #[.int .i64 0, .int .i64 0, .int .i64 0, .int .i64 0, .int .u64 0, .int .i64 0, .slice none 0 0], .int .i64 22]) ∧ Below w.heap.size w W := by
  have hb0 := below_alloc (below_alloc (Below.refl w.heap.size w) (.cells #[.int .i64 c.op, .int .i64 c.n, .slice A c.data.length C] 39)) (.cells #[.int .i64 0, .int .i64 0, .int .i64 0, .int .i64 0, .int .u64 0, .int .i64 0, .slice none 0 0] 44)
  have HY := Aside.mk (blk_alloc (heap_alloc_new w (.cells #[.int .i64 c.op, .int .i64 c.n, .slice A c.data.length C] 39)) (.cells #[.int .i64 0, .int .i64 0, .int .i64 0, .int .i64 0, .int .u64 0, .int .i64 0, .slice none 0 0] 44))
  have HE := heap_alloc_new (w.alloc (.cells #[.int .i64 c.op, .int .i64 c.n, .slice A c.data.length C] 39)) (.cells #[.int .i64 0, .int .i64 0, .int .i64 0, .int .i64 0, .int .u64 0, .int .i64 0, .slice none 0 0] 44)
  rw [World.size_alloc] at HE
  have HEV := Aside.mk HE
  have HW := Aside.mk hb0
  clear HE

  go_enter Tryd.func13, Tryd.ntmps13
  go_upto_region 1 with (fail)
  generalize (w.alloc (.cells #[.int .i64 c.op, .int .i64 c.n, .slice A c.data.length C] 39)).alloc (.cells #[.int .i64 0, .int .i64 0, .int .i64 0, .int .i64 0, .int .u64 0, .int .i64 0, .slice none 0 0] 44) = w2 at *

  obtain ⟨e0, e1, e2, e3, e4, e5, e6⟩ := Mo.cell7 HEV.out
  have fz0 := blk_frozen HEV.out 0
  have fz1 := blk_frozen HEV.out 1
  have fz2 := blk_frozen HEV.out 2
  have fz3 := blk_frozen HEV.out 3
  have fz4 := blk_frozen HEV.out 4
  have fz5 := blk_frozen HEV.out 5
  have fz6 := blk_frozen HEV.out 6
  have HF := Aside.mk (set7e (.int .i64 0) (.int .i64 0) (.int .i64 0) (.int .i64 0) (.int .u64 0) (.int .i64 0) (.slice none 0 0) HW.out (Nat.le_succ _) HEV.out)
  go_wp2
  refine bodyPost_ret (results_ct rfl _ _ (w.heap.size + 1) 44 #[.int .i64 0, .int .i64 0, .int .i64 0, .int .i64 0, .int .u64 0, .int .i64 0, .slice none 0 0] (0, 0) _ rfl HF.out.1 Tryd.underlying44 rfl (by kernel_rfl)) rfl ?_
  exact ⟨rfl, HF.out.2⟩
set_option maxHeartbeats 8000000 in
theorem l_do_no {base : Nat} {w : World} {B : Nat} {k : Lk} {cx : Cx} {lp : Lp} {st : Ls} {i : Nat} (h : Lm base w B k cx lp st i) (t : Int) (ht : ¬ (0 ≤ t ∧ t < ((cx.prod + cx.up.length : Nat) : Int))) (c : Cl) (A : Option Addr) (C : Nat) :
    Calls Tryd.prog 13 #[.pointer (some ⟨B, 0, none⟩), .int .i64 t, .agg #[.int .i64 c.op, .int .i64 c.n, .slice A c.data.length C]] w fun r W => r = .returned (.tuple #[.agg #[.int .i64 0, .int .i64 0, .int .i64 0, .int .i64 0, .int .u64 0, .int .i64 0, .slice none 0 0], .int .i64 11]) ∧ Below w.heap.size w W := by
  have hb0 := below_alloc (below_alloc (Below.refl w.heap.size w) (.cells #[.int .i64 c.op, .int .i64 c.n, .slice A c.data.length C] 39)) (.cells #[.int .i64 0, .int .i64 0, .int .i64 0, .int .i64 0, .int .u64 0, .int .i64 0, .slice none 0 0] 44)
  have HY := Aside.mk (blk_alloc (heap_alloc_new w (.cells #[.int .i64 c.op, .int .i64 c.n, .slice A c.data.length C] 39)) (.cells #[.int .i64 0, .int .i64 0, .int .i64 0, .int .i64 0, .int .u64 0, .int .i64 0, .slice none 0 0] 44))
  have HE := heap_alloc_new (w.alloc (.cells #[.int .i64 c.op, .int .i64 c.n, .slice A c.data.length C] 39)) (.cells #[.int .i64 0, .int .i64 0, .int .i64 0, .int .i64 0, .int .u64 0, .int .i64 0, .slice none 0 0] 44)
  rw [World.size_alloc] at HE
  have HEV := Aside.mk HE
  have HW := Aside.mk hb0
  clear HE
  have TH := Aside.mk (show (decide (0 ≤ t) && decide (t < ((cx.prod + cx.up.length : Nat) : Int))) = false by
    by_cases h0 : 0 ≤ t
    · rw [decide_eq_true h0, decide_eq_false (fun h => ht ⟨h0, h⟩)]; rfl
    · rw [decide_eq_false h0]; rfl)
  have HM := Aside.mk (h.below hb0)
  clear hb0 h ht
  go_enter Tryd.func13, Tryd.ntmps13
  go_upto_region 1 with (fail)
  generalize (w.alloc (.cells #[.int .i64 c.op, .int .i64 c.n, .slice A c.data.length C] 39)).alloc (.cells #[.int .i64 0, .int .i64 0, .int .i64 0, .int .i64 0, .int .u64 0, .int .i64 0, .slice none 0 0] 44) = w2 at *
  go_wp2_with fail
  refine (l_there HM.out t).mono ?_
  rintro r w3 ⟨rfl, hb⟩
  rw [TH.out]
  replace HM := Aside.mk (HM.out.below hb)
  replace HW := Aside.mk (HW.out.trans (hb.mono HW.out.size))
  replace HY := Aside.mk (blk_below HY.out hb)
  replace HEV := Aside.mk (blk_below HEV.out hb)
  clear hb

  obtain ⟨e0, e1, e2, e3, e4, e5, e6⟩ := Mo.cell7 HEV.out
  have fz0 := blk_frozen HEV.out 0
  have fz1 := blk_frozen HEV.out 1
  have fz2 := blk_frozen HEV.out 2
  have fz3 := blk_frozen HEV.out 3
  have fz4 := blk_frozen HEV.out 4
  have fz5 := blk_frozen HEV.out 5
  have fz6 := blk_frozen HEV.out 6
  have HF := Aside.mk (set7e (.int .i64 0) (.int .i64 0) (.int .i64 0) (.int .i64 0) (.int .u64 0) (.int .i64 0) (.slice none 0 0) HW.out (Nat.le_succ _) HEV.out)
  go_wp2
  refine bodyPost_ret (results_ct rfl _ _ (w.heap.size + 1) 44 #[.int .i64 0, .int .i64 0, .int .i64 0, .int .i64 0, .int .u64 0, .int .i64 0, .slice none 0 0] (0, 0) _ rfl HF.out.1 Tryd.underlying44 rfl (by kernel_rfl)) rfl ?_
  exact ⟨rfl, HF.out.2⟩
set_option maxHeartbeats 8000000 in
theorem l_do_waits {base : Nat} {w : World} {B : Nat} {k : Lk} {cx : Cx} {lp : Lp} {st : Ls} {i : Nat} (h : Lm base w B k cx lp st i) (t : Nat) (ht : t < cx.prod + cx.up.length) (c : Cl) (hw : waitsL cx st t c) (A : Option Addr) (C : Nat) :
    Calls Tryd.prog 13 #[.pointer (some ⟨B, 0, none⟩), .int .i64 (t : Int), .agg #[.int .i64 c.op, .int .i64 c.n, .slice A c.data.length C]] w fun r W => r = .returned (.tuple #[.agg #[.int .i64 0, .int .i64 0, .int .i64 0, .int .i64 0, .int .u64 0, .int .i64 0, .slice none 0 0], .int .i64 17]) ∧ Below w.heap.size w W := by
  have hb0 := below_alloc (below_alloc (Below.refl w.heap.size w) (.cells #[.int .i64 c.op, .int .i64 c.n, .slice A c.data.length C] 39)) (.cells #[.int .i64 0, .int .i64 0, .int .i64 0, .int .i64 0, .int .u64 0, .int .i64 0, .slice none 0 0] 44)
  have HY := Aside.mk (blk_alloc (heap_alloc_new w (.cells #[.int .i64 c.op, .int .i64 c.n, .slice A c.data.length C] 39)) (.cells #[.int .i64 0, .int .i64 0, .int .i64 0, .int .i64 0, .int .u64 0, .int .i64 0, .slice none 0 0] 44))
  have HE := heap_alloc_new (w.alloc (.cells #[.int .i64 c.op, .int .i64 c.n, .slice A c.data.length C] 39)) (.cells #[.int .i64 0, .int .i64 0, .int .i64 0, .int .i64 0, .int .u64 0, .int .i64 0, .slice none 0 0] 44)
  rw [World.size_alloc] at HE
  have HEV := Aside.mk HE
  have HW := Aside.mk hb0
  clear HE
  have TH := Aside.mk (show (decide (0 ≤ (t : Int)) && decide ((t : Int) < ((cx.prod + cx.up.length : Nat) : Int))) = true by rw [decide_eq_true (by omega), decide_eq_true (by omega)]; rfl)
  have HM := Aside.mk (h.below hb0)
  have HT := Aside.mk ht
  have HNW := Aside.mk (decide_eq_true hw)
  clear hb0 h ht hw
  go_enter Tryd.func13, Tryd.ntmps13
  go_upto_region 1 with (fail)
  generalize (w.alloc (.cells #[.int .i64 c.op, .int .i64 c.n, .slice A c.data.length C] 39)).alloc (.cells #[.int .i64 0, .int .i64 0, .int .i64 0, .int .i64 0, .int .u64 0, .int .i64 0, .slice none 0 0] 44) = w2 at *
  go_wp2_with fail
  refine (l_there HM.out (t : Int)).mono ?_
  rintro r w3 ⟨rfl, hb⟩
  rw [TH.out]
  replace HM := Aside.mk (HM.out.below hb)
  replace HW := Aside.mk (HW.out.trans (hb.mono HW.out.size))
  replace HY := Aside.mk (blk_below HY.out hb)
  replace HEV := Aside.mk (blk_below HEV.out hb)
  clear hb
  obtain ⟨y0, y1, y2⟩ := cell3 HY.out
  go_wp2_with fail
  refine (l_waits HM.out t HT.out c A C).mono ?_
  rintro r w4 ⟨rfl, hb⟩
  rw [HNW.out]
  clear y0 y1 y2
  replace HM := Aside.mk (HM.out.below hb)
  replace HW := Aside.mk (HW.out.trans (hb.mono HW.out.size))
  replace HY := Aside.mk (blk_below HY.out hb)
  replace HEV := Aside.mk (blk_below HEV.out hb)
  clear hb

  obtain ⟨e0, e1, e2, e3, e4, e5, e6⟩ := Mo.cell7 HEV.out
  have fz0 := blk_frozen HEV.out 0
  have fz1 := blk_frozen HEV.out 1
  have fz2 := blk_frozen HEV.out 2
  have fz3 := blk_frozen HEV.out 3
  have fz4 := blk_frozen HEV.out 4
  have fz5 := blk_frozen HEV.out 5
  have fz6 := blk_frozen HEV.out 6
  have HF := Aside.mk (set7e (.int .i64 0) (.int .i64 0) (.int .i64 0) (.int .i64 0) (.int .u64 0) (.int .i64 0) (.slice none 0 0) HW.out (Nat.le_succ _) HEV.out)
  go_wp2
  refine bodyPost_ret (results_ct rfl _ _ (w.heap.size + 1) 44 #[.int .i64 0, .int .i64 0, .int .i64 0, .int .i64 0, .int .u64 0, .int .i64 0, .slice none 0 0] (0, 0) _ rfl HF.out.1 Tryd.underlying44 rfl (by kernel_rfl)) rfl ?_
  exact ⟨rfl, HF.out.2⟩
set_option maxHeartbeats 16000000 in
theorem l_do {w0 w : World} {B : Nat} {k : Lk} {cx : Cx} {lp : Lp} {st : Ls} {i : Nat} (h : Lm w0.heap.size w B k cx lp st i) (h0 : Below w0.heap.size w0 w) (hi : i < 1000) (t : Nat) (ht : t < cx.prod + cx.up.length) (c : Cl) (hw : ¬ waitsL cx st t c) (A : Option Addr) (C : Nat) (hdF : Kd.F (Kd.int .i64) w (fun q => ¬ OwnB (rowsL k st) B q) A c.data.length c.data) (hdl : c.data.length ≤ C) :
    Calls Tryd.prog 13 #[.pointer (some ⟨B, 0, none⟩), .int .i64 (t : Int), .agg #[.int .i64 c.op, .int .i64 c.n, .slice A c.data.length C]] w fun r W => DPost w0 w B k cx lp st (doL cx lp st t c) (i + 1) (evL cx lp st t c) r W := by
  have hb0 := below_alloc (below_alloc (Below.refl w.heap.size w) (.cells #[.int .i64 c.op, .int .i64 c.n, .slice A c.data.length C] 39)) (.cells #[.int .i64 0, .int .i64 0, .int .i64 0, .int .i64 0, .int .u64 0, .int .i64 0, .slice none 0 0] 44)
  have HY := Aside.mk (blk_alloc (heap_alloc_new w (.cells #[.int .i64 c.op, .int .i64 c.n, .slice A c.data.length C] 39)) (.cells #[.int .i64 0, .int .i64 0, .int .i64 0, .int .i64 0, .int .u64 0, .int .i64 0, .slice none 0 0] 44))
  have HE := heap_alloc_new (w.alloc (.cells #[.int .i64 c.op, .int .i64 c.n, .slice A c.data.length C] 39)) (.cells #[.int .i64 0, .int .i64 0, .int .i64 0, .int .i64 0, .int .u64 0, .int .i64 0, .slice none 0 0] 44)
  rw [World.size_alloc] at HE
  have HEV := Aside.mk HE
  have HW := Aside.mk hb0
  have HL := Aside.mk h
  have H00 := Aside.mk h0
  have HI := Aside.mk hi
  have HDF := Aside.mk hdF
  have HDL := Aside.mk hdl
  have TH := Aside.mk (show (decide (0 ≤ (t : Int)) && decide ((t : Int) < ((cx.prod + cx.up.length : Nat) : Int))) = true by rw [decide_eq_true (by omega), decide_eq_true (by omega)]; rfl)
  have HM := Aside.mk (h.below hb0)
  have HT := Aside.mk ht
  have HNW := Aside.mk (decide_eq_false hw)
  clear hb0 h h0 hi ht hw hdF hdl HE
  go_enter Tryd.func13, Tryd.ntmps13
  go_upto_region 1 with (fail)
  generalize (w.alloc (.cells #[.int .i64 c.op, .int .i64 c.n, .slice A c.data.length C] 39)).alloc (.cells #[.int .i64 0, .int .i64 0, .int .i64 0, .int .i64 0, .int .u64 0, .int .i64 0, .slice none 0 0] 44) = w2 at *
  go_wp2_with fail
  refine (l_there HM.out (t : Int)).mono ?_
  rintro r w3 ⟨rfl, hb⟩
  rw [TH.out]
  replace HM := Aside.mk (HM.out.below hb)
  replace HW := Aside.mk (HW.out.trans (hb.mono HW.out.size))
  replace HY := Aside.mk (blk_below HY.out hb)
  replace HEV := Aside.mk (blk_below HEV.out hb)
  clear hb
  obtain ⟨y0, y1, y2⟩ := cell3 HY.out
  go_wp2_with fail
  refine (l_waits HM.out t HT.out c A C).mono ?_
  rintro r w4 ⟨rfl, hb⟩
  rw [HNW.out]
  clear y0 y1 y2 TH HNW
  replace HM := Aside.mk (HM.out.below hb)
  replace HW := Aside.mk (HW.out.trans (hb.mono HW.out.size))
  replace HY := Aside.mk (blk_below HY.out hb)
  replace HEV := Aside.mk (blk_below HEV.out hb)
  clear hb
  go_upto_region 8 with (fail)
  have hb := below_alloc (Below.refl w4.heap.size w4) (.cells #[.int .i64 0, .int .i64 0, .int .i64 0, .int .i64 0, .int .u64 0, .int .i64 0, .slice none 0 0] 44)
  have HBX := Aside.mk (heap_alloc_new w4 (.cells #[.int .i64 0, .int .i64 0, .int .i64 0, .int .i64 0, .int .u64 0, .int .i64 0, .slice none 0 0] 44))
  have HSZ4 := Aside.mk (show w.heap.size + 2 ≤ w4.heap.size from blk_lt HEV.out)
  have HG4 := Aside.mk (blk_lt HBX.out)
  replace HM := Aside.mk (HM.out.below hb)
  replace HW := Aside.mk (HW.out.trans (hb.mono HW.out.size))
  replace HY := Aside.mk (blk_below HY.out hb)
  replace HEV := Aside.mk (blk_below HEV.out hb)
  clear hb
  generalize hg : w4.heap.size = g at *
  generalize w4.alloc (.cells #[.int .i64 0, .int .i64 0, .int .i64 0, .int .i64 0, .int .u64 0, .int .i64 0, .slice none 0 0] 44) = w5 at *
  clear hg
  have HNE := Aside.mk (show w.heap.size + 1 ≠ g by have := HSZ4.out; omega)
  have HSZ := Aside.mk (show w.heap.size ≤ g by have := HSZ4.out; omega)
  have HG2 := Aside.mk HSZ4.out
  obtain ⟨y0, y1, y2⟩ := cell3 HY.out
  go_wp2_with fail
  refine (l_code HM.out t HT.out c A C).mono ?_
  rintro r W6 ⟨rfl, hb⟩
  replace HBX := Aside.mk (blk_below HBX.out hb)
  replace HG4 := Aside.mk (Nat.lt_of_lt_of_le HG4.out hb.size)
  clear y0 y1 y2
  replace HM := Aside.mk (HM.out.below hb)
  replace HW := Aside.mk (HW.out.trans (hb.mono HW.out.size))
  replace HY := Aside.mk (blk_below HY.out hb)
  replace HEV := Aside.mk (blk_below HEV.out hb)
  clear hb
  by_cases hc : codeL cx st t c = 0
  rotate_left
  · have t1 : (codeL cx st t c != 0) = true := by simpa using hc
    have HEQ := Aside.mk (show callL cx lp st t c = (st, ev0) from by unfold callL; rw [if_pos hc])
    clear hc
    have HP := Aside.mk (show LPost w0 w B k cx lp st st (i + 1) W6 from ⟨k, { HM.out with wf := HM.out.wf.mono (Nat.le_succ _), i := HI.out }, (TK.refl H00.out).below HW.out, fun _ h => .inl h, Kp.refl k⟩)
    replace HP := Aside.mk (TP.mk (A := none) (d := []) HP.out HBX.out HY.out HEV.out (Kd.F_nil _ _ _))
    clear HEV HY HBX
    generalize hcod : codeL cx st t c = cod at *
    go_upto_region 13 with (fail)
    refine start_ (n := 12) (S := fun w' => w'.cell? ⟨w.heap.size, 0, none⟩ = some (.int .i64 c.op) ∧ True) (ds := []) (bm 12 0) (by kernel_rfl) rfl rfl ⟨(blk_cell (blk_drew HP.out.y) 0).trans rfl, trivial⟩ (fun hHeld => ?_)
    replace HP := Aside.mk (HP.out.below (below_drew1 (Below.refl _ _)))
    generalize W6.drew = W7 at *
    refine pu_ 0 (bm 12 1) ?_
    refine pu_ 1 (bm 12 3) ?_
    refine ta_ 2 (bm 12 7) hHeld ?_
    refine pu_ 3 (bm 12 15) ?_
    refine pu_ 4 (bm 12 31) ?_
    have fz := blk_frozen HP.out.b 0
    have ce := (blk_cell HP.out.b 0).trans rfl
    refine one_ (i := 5) (N := none) (bm 12 63) rfl rfl (by kernel_rfl) (by decide) (fun K hK => ?_)
    refine skip_ (w1 := ?_) (by rfl) rfl ?_ ?_
    rotate_left
    · go_simp
      rfl
    replace HP := Aside.mk (HP.out.set HG2.out H00.out.size (blk_lt HL.out.b) 0 (.int .i64 2) #[.int .i64 2, .int .i64 0, .int .i64 0, .int .i64 0, .int .u64 0, .int .i64 0, .slice none 0 0] rfl)
    clear fz ce
    refine hK.out _ _ ⟨(blk_cell HP.out.y 0).trans rfl, trivial⟩ (fun hHeld => ?_)
    clear hK K
    generalize W7.setCell ⟨g, 0, none⟩ (.int .i64 2) = W15 at *
    refine pu_ 6 (bm 12 127) ?_
    have fz := blk_frozen HP.out.b 1
    have ce := (blk_cell HP.out.b 1).trans rfl
    refine one_ (i := 7) (N := none) (bm 12 255) rfl rfl (by kernel_rfl) (by decide) (fun K hK => ?_)
    refine skip_ (w1 := ?_) (by rfl) rfl ?_ ?_
    rotate_left
    · go_simp
      rfl
    replace HP := Aside.mk (HP.out.set HG2.out H00.out.size (blk_lt HL.out.b) 1 (.int .i64 (t : Int)) #[.int .i64 2, .int .i64 (t : Int), .int .i64 0, .int .i64 0, .int .u64 0, .int .i64 0, .slice none 0 0] rfl)
    clear fz ce
    refine hK.out _ _ ⟨(blk_cell HP.out.y 0).trans rfl, trivial⟩ (fun hHeld => ?_)
    clear hK K
    generalize W15.setCell ⟨g, 1, none⟩ (.int .i64 (t : Int)) = W17 at *
    refine pu_ 8 (bm 12 511) ?_
    have fz := blk_frozen HP.out.b 2
    have ce := (blk_cell HP.out.b 2).trans rfl
    refine one_ (i := 9) (N := none) (bm 12 1023) rfl rfl (by kernel_rfl) (by decide) (fun K hK => ?_)
    refine skip_ (w1 := ?_) (by rfl) rfl ?_ ?_
    rotate_left
    · go_simp
      rfl
    replace HP := Aside.mk (HP.out.set HG2.out H00.out.size (blk_lt HL.out.b) 2 (.int .i64 c.op) #[.int .i64 2, .int .i64 (t : Int), .int .i64 c.op, .int .i64 0, .int .u64 0, .int .i64 0, .slice none 0 0] rfl)
    clear fz ce
    refine hK.out _ _ ⟨(blk_cell HP.out.y 0).trans rfl, trivial⟩ (fun hHeld => ?_)
    clear hK K
    generalize W17.setCell ⟨g, 2, none⟩ (.int .i64 c.op) = W19 at *
    refine pu_ 10 (bm 12 2047) ?_
    have fz := blk_frozen HP.out.b 5
    have ce := (blk_cell HP.out.b 5).trans rfl
    refine one_ (i := 11) (N := none) (bm 12 4095) rfl rfl (by kernel_rfl) (by decide) (fun K hK => ?_)
    refine skip_ (w1 := ?_) (by rfl) rfl ?_ ?_
    rotate_left
    · go_simp
      rfl
    replace HP := Aside.mk (HP.out.set HG2.out H00.out.size (blk_lt HL.out.b) 5 (.int .i64 cod) #[.int .i64 2, .int .i64 (t : Int), .int .i64 c.op, .int .i64 0, .int .u64 0, .int .i64 cod, .slice none 0 0] rfl)
    clear fz ce
    refine hK.out _ _ ⟨(blk_cell HP.out.y 0).trans rfl, trivial⟩ (fun hHeld => ?_)
    clear hK K
    generalize W19.setCell ⟨g, 5, none⟩ (.int .i64 cod) = W21 at *
    refine done_ (by kernel_rfl) ?_
    clear hHeld
    obtain ⟨e0, e1, e2, e3, e4, e5, e6⟩ := Mo.cell7 HP.out.b
    obtain ⟨d0, d1, d2, d3, d4, d5, d6⟩ := Mo.cell7 HP.out.e
    have fz0 := blk_frozen HP.out.e 0
    have fz1 := blk_frozen HP.out.e 1
    have fz2 := blk_frozen HP.out.e 2
    have fz3 := blk_frozen HP.out.e 3
    have fz4 := blk_frozen HP.out.e 4
    have fz5 := blk_frozen HP.out.e 5
    have fz6 := blk_frozen HP.out.e 6
    obtain ⟨wy, hwy, hPy, hBy⟩ := LPost.set7 HP.out.p HP.out.e (Nat.le_succ _) H00.out.size (blk_lt HL.out.b) (.int .i64 2) (.int .i64 (t : Int)) (.int .i64 c.op) (.int .i64 0) (.int .u64 0) (.int .i64 cod) (.slice none 0 0)
    have HPY := Aside.mk hPy
    have HBY := Aside.mk hBy
    have HFY := Aside.mk (Kd.F_step HP.out.f (W1 := wy) (fun q hq _ => by rw [hwy, set7_far _ _ _ _ _ _ _ (show q ≠ w.heap.size + 1 by omega)]))
    clear hPy hBy
    go_wp2
    rw [← hwy]
    refine bodyPost_ret (results_ct rfl _ _ (w.heap.size + 1) 44 #[.int .i64 2, .int .i64 (t : Int), .int .i64 c.op, .int .i64 0, .int .u64 0, .int .i64 cod, .slice none 0 0] (0, 0) _ rfl HBY.out Tryd.underlying44 rfl (by kernel_rfl)) rfl ?_
    have hE : doL cx lp st t c = st ∧ evL cx lp st t c = { ev0 with kind := 2, thread := t, op := c.op, code := cod } := by unfold doL evL; rw [HEQ.out, hcod]; exact ⟨rfl, rfl⟩
    rw [hE.1, hE.2]
    exact ⟨⟨none, 0, rfl, Nat.le_refl _, Kd.F_nil _ _ _, HPY.out⟩⟩
  have t1 : (codeL cx st t c != 0) = false := by rw [hc]; rfl
  have HC0 := Aside.mk hc
  clear hc
  by_cases hp : t < cx.prod
  · have t2 : decide ((t : Int) < (cx.prod : Int)) = true := decide_eq_true (by omega)
    have t3 : decide (t < cx.prod) = true := decide_eq_true hp
    have t4 : (t : Int) < (cx.prod : Int) := by omega
    have HP0 := Aside.mk hp
    clear hp
    obtain ⟨c0, c1, c2, c3, c4, c5, c6, c7, c8, c9, c10, c11, c12, c13⟩ := HM.out.cells
    obtain ⟨y0, y1, y2⟩ := cell3 HY.out
    go_wp2_with fail
    clear y0 y1 y2 c0 c1 c2 c3 c4 c5 c6 c7 c8 c9 c10 c11 c12 c13 t1 t2 t3 t4
    refine (l_prod HM.out (below_low HW.out H00.out) HI.out t HP0.out c HC0.out A C (Kd.F_below HDF.out HW.out) HDL.out).mono ?_
    rintro r W6b ⟨⟨A1, C1, rfl, hlen, hfd, hpost⟩⟩
    have HPC := Aside.mk hpost
    have HFD := Aside.mk hfd
    have HLN := Aside.mk hlen
    have HBX2 := Aside.mk (show W6b.heap[g]? = some (.cells #[.int .i64 0, .int .i64 0, .int .i64 0, .int .i64 0, .int .u64 0, .int .i64 0, .slice none 0 0] 44 (0, 0)) from by obtain ⟨k', _, hT, _⟩ := hpost; exact (TK.box hT HM.out HBX.out (by decide)))
    have HEV2 := Aside.mk (show W6b.heap[w.heap.size + 1]? = some (.cells #[.int .i64 0, .int .i64 0, .int .i64 0, .int .i64 0, .int .u64 0, .int .i64 0, .slice none 0 0] 44 (0, 0)) from by obtain ⟨k', _, hT, _⟩ := hpost; exact (TK.box hT HM.out HEV.out (by decide)))
    have HY2 := Aside.mk (show W6b.heap[w.heap.size]? = some (.cells #[.int .i64 c.op, .int .i64 c.n, .slice A c.data.length C] 39 (0, 0)) from by obtain ⟨k', _, hT, _⟩ := hpost; exact (TK.box hT HM.out HY.out (by decide)))
    have HPP := Aside.mk (hpost.up H00.out HW.out)
    clear hfd hlen hpost HEV HY
    generalize heq : (callL cx lp st t c).2 = ev at *
    unfold evV
    obtain ⟨e0, e1, e2, e3, e4, e5, e6⟩ := Mo.cell7 HBX2.out
    have fz0 := blk_frozen HBX2.out 0
    have fz1 := blk_frozen HBX2.out 1
    have fz2 := blk_frozen HBX2.out 2
    have fz3 := blk_frozen HBX2.out 3
    have fz4 := blk_frozen HBX2.out 4
    have fz5 := blk_frozen HBX2.out 5
    have fz6 := blk_frozen HBX2.out 6
    obtain ⟨W7, hw7, hP7, hE7⟩ := LPost.set7 HPP.out HBX2.out HSZ.out H00.out.size (blk_lt HL.out.b) (.int .i64 ev.kind) (.int .i64 ev.thread) (.int .i64 ev.op) (.int .i64 ev.n) (.int .u64 ev.pos) (.int .i64 ev.code) (.slice A1 ev.data.length C1)
    have HFW := Aside.mk (show ∀ q, q ≠ g → W7.heap[q]? = W6b.heap[q]? from fun q hq => by rw [hw7, set7_far _ _ _ _ _ _ _ hq])
    go_upto_region 13 with (fail)
    rw [← hw7]
    have HP := Aside.mk (TP.mk (A := A1) (d := ev.data) hP7 hE7 ((HFW.out w.heap.size (by have := HSZ4.out; omega)).trans HY2.out) ((HFW.out _ HNE.out).trans HEV2.out) (Kd.F_step (Kd.F_mono HFD.out (fun q hq => ⟨by have := HG4.out; have := HSZ4.out; omega, by have := HG4.out; omega⟩)) (fun q hq _ => HFW.out q hq.2)))
    clear HPC hw7 hP7 hE7 HEV2 HY2 HPP HFW e0 e1 e2 e3 e4 e5 e6 fz0 fz1 fz2 fz3 fz4 fz5 fz6
    generalize hcod : codeL cx st t c = cod at *
    generalize W7 = W6 at *
    refine start_ (n := 12) (S := fun w' => w'.cell? ⟨w.heap.size, 0, none⟩ = some (.int .i64 c.op) ∧ True) (ds := []) (bm 12 0) (by kernel_rfl) rfl rfl ⟨(blk_cell (blk_drew HP.out.y) 0).trans rfl, trivial⟩ (fun hHeld => ?_)
    replace HP := Aside.mk (HP.out.below (below_drew1 (Below.refl _ _)))
    generalize W6.drew = W7 at *
    refine pu_ 0 (bm 12 1) ?_
    refine pu_ 1 (bm 12 3) ?_
    refine ta_ 2 (bm 12 7) hHeld ?_
    refine pu_ 3 (bm 12 15) ?_
    refine pu_ 4 (bm 12 31) ?_
    have fz := blk_frozen HP.out.b 0
    have ce := (blk_cell HP.out.b 0).trans rfl
    refine one_ (i := 5) (N := none) (bm 12 63) rfl rfl (by kernel_rfl) (by decide) (fun K hK => ?_)
    refine skip_ (w1 := ?_) (by rfl) rfl ?_ ?_
    rotate_left
    · go_simp
      rfl
    replace HP := Aside.mk (HP.out.set HG2.out H00.out.size (blk_lt HL.out.b) 0 (.int .i64 2) #[.int .i64 2, .int .i64 ev.thread, .int .i64 ev.op, .int .i64 ev.n, .int .u64 ev.pos, .int .i64 ev.code, .slice A1 ev.data.length C1] rfl)
    clear fz ce
    refine hK.out _ _ ⟨(blk_cell HP.out.y 0).trans rfl, trivial⟩ (fun hHeld => ?_)
    clear hK K
    generalize W7.setCell ⟨g, 0, none⟩ (.int .i64 2) = W15 at *
    refine pu_ 6 (bm 12 127) ?_
    have fz := blk_frozen HP.out.b 1
    have ce := (blk_cell HP.out.b 1).trans rfl
    refine one_ (i := 7) (N := none) (bm 12 255) rfl rfl (by kernel_rfl) (by decide) (fun K hK => ?_)
    refine skip_ (w1 := ?_) (by rfl) rfl ?_ ?_
    rotate_left
    · go_simp
      rfl
    replace HP := Aside.mk (HP.out.set HG2.out H00.out.size (blk_lt HL.out.b) 1 (.int .i64 (t : Int)) #[.int .i64 2, .int .i64 (t : Int), .int .i64 ev.op, .int .i64 ev.n, .int .u64 ev.pos, .int .i64 ev.code, .slice A1 ev.data.length C1] rfl)
    clear fz ce
    refine hK.out _ _ ⟨(blk_cell HP.out.y 0).trans rfl, trivial⟩ (fun hHeld => ?_)
    clear hK K
    generalize W15.setCell ⟨g, 1, none⟩ (.int .i64 (t : Int)) = W17 at *
    refine pu_ 8 (bm 12 511) ?_
    have fz := blk_frozen HP.out.b 2
    have ce := (blk_cell HP.out.b 2).trans rfl
    refine one_ (i := 9) (N := none) (bm 12 1023) rfl rfl (by kernel_rfl) (by decide) (fun K hK => ?_)
    refine skip_ (w1 := ?_) (by rfl) rfl ?_ ?_
    rotate_left
    · go_simp
      rfl
    replace HP := Aside.mk (HP.out.set HG2.out H00.out.size (blk_lt HL.out.b) 2 (.int .i64 c.op) #[.int .i64 2, .int .i64 (t : Int), .int .i64 c.op, .int .i64 ev.n, .int .u64 ev.pos, .int .i64 ev.code, .slice A1 ev.data.length C1] rfl)
    clear fz ce
    refine hK.out _ _ ⟨(blk_cell HP.out.y 0).trans rfl, trivial⟩ (fun hHeld => ?_)
    clear hK K
    generalize W17.setCell ⟨g, 2, none⟩ (.int .i64 c.op) = W19 at *
    refine pu_ 10 (bm 12 2047) ?_
    have fz := blk_frozen HP.out.b 5
    have ce := (blk_cell HP.out.b 5).trans rfl
    refine one_ (i := 11) (N := none) (bm 12 4095) rfl rfl (by kernel_rfl) (by decide) (fun K hK => ?_)
    refine skip_ (w1 := ?_) (by rfl) rfl ?_ ?_
    rotate_left
    · go_simp
      rfl
    replace HP := Aside.mk (HP.out.set HG2.out H00.out.size (blk_lt HL.out.b) 5 (.int .i64 cod) #[.int .i64 2, .int .i64 (t : Int), .int .i64 c.op, .int .i64 ev.n, .int .u64 ev.pos, .int .i64 cod, .slice A1 ev.data.length C1] rfl)
    clear fz ce
    refine hK.out _ _ ⟨(blk_cell HP.out.y 0).trans rfl, trivial⟩ (fun hHeld => ?_)
    clear hK K
    generalize W19.setCell ⟨g, 5, none⟩ (.int .i64 cod) = W21 at *
    refine done_ (by kernel_rfl) ?_
    clear hHeld
    obtain ⟨e0, e1, e2, e3, e4, e5, e6⟩ := Mo.cell7 HP.out.b
    obtain ⟨d0, d1, d2, d3, d4, d5, d6⟩ := Mo.cell7 HP.out.e
    have fz0 := blk_frozen HP.out.e 0
    have fz1 := blk_frozen HP.out.e 1
    have fz2 := blk_frozen HP.out.e 2
    have fz3 := blk_frozen HP.out.e 3
    have fz4 := blk_frozen HP.out.e 4
    have fz5 := blk_frozen HP.out.e 5
    have fz6 := blk_frozen HP.out.e 6
    obtain ⟨wy, hwy, hPy, hBy⟩ := LPost.set7 HP.out.p HP.out.e (Nat.le_succ _) H00.out.size (blk_lt HL.out.b) (.int .i64 2) (.int .i64 (t : Int)) (.int .i64 c.op) (.int .i64 ev.n) (.int .u64 ev.pos) (.int .i64 cod) (.slice A1 ev.data.length C1)
    have HPY := Aside.mk hPy
    have HBY := Aside.mk hBy
    have HFY := Aside.mk (Kd.F_step HP.out.f (W1 := wy) (fun q hq _ => by rw [hwy, set7_far _ _ _ _ _ _ _ (show q ≠ w.heap.size + 1 by omega)]))
    clear hPy hBy
    go_wp2
    rw [← hwy]
    refine bodyPost_ret (results_ct rfl _ _ (w.heap.size + 1) 44 #[.int .i64 2, .int .i64 (t : Int), .int .i64 c.op, .int .i64 ev.n, .int .u64 ev.pos, .int .i64 cod, .slice A1 ev.data.length C1] (0, 0) _ rfl HBY.out Tryd.underlying44 rfl (by kernel_rfl)) rfl ?_
    have hE : evL cx lp st t c = { ev with kind := 2, thread := (t : Nat), op := c.op, code := cod } := by unfold evL; rw [heq, hcod]
    rw [hE]
    exact ⟨⟨A1, C1, rfl, HLN.out, Kd.F_mono HFY.out (fun q hq => by omega), HPY.out⟩⟩
  · obtain ⟨kc, hkc⟩ : ∃ kc, t = cx.prod + kc := ⟨t - cx.prod, by omega⟩
    have t2 : decide ((t : Int) < (cx.prod : Int)) = false := decide_eq_false (by omega)
    have t3 : decide (t < cx.prod) = false := decide_eq_false hp
    have t4 : ¬ ((t : Int) < (cx.prod : Int)) := by omega
    have HK := Aside.mk (show kc < cx.up.length by have := HT.out; omega)
    have HKC := Aside.mk hkc
    have ew2 : wrap64 ((t : Int) - (cx.prod : Int)) = (kc : Int) := by rw [w64 (by have := HM.out.s.p4; have := HM.out.s.u6; have := HK.out; omega)]; omega
    have ew : IntKind.i64.wrap ((t : Int) - (cx.prod : Int)) = (kc : Int) := by rw [wrapE]; exact ew2
    clear hkc
    have HP0 := Aside.mk hp
    clear hp
    obtain ⟨c0, c1, c2, c3, c4, c5, c6, c7, c8, c9, c10, c11, c12, c13⟩ := HM.out.cells
    obtain ⟨y0, y1, y2⟩ := cell3 HY.out
    go_wp2_with fail
    refine start_ (n := 11) (S := fun w' => w'.cell? ⟨w.heap.size, 0, none⟩ = some (.int .i64 c.op) ∧ w'.cell? ⟨w.heap.size, 1, none⟩ = some (.int .i64 c.n) ∧ w'.cell? ⟨w.heap.size, 2, none⟩ = some (.slice A c.data.length C) ∧ w'.cell? ⟨B, 3, none⟩ = some (.int .i64 (cx.prod : Int)) ∧ True) (ds := [10]) (bm 11 0) (by kernel_rfl) rfl rfl ⟨(blk_cell (blk_drew HY.out) 0).trans rfl, (blk_cell (blk_drew HY.out) 1).trans rfl, (blk_cell (blk_drew HY.out) 2).trans rfl, (HM.out.below (below_drew1 (Below.refl _ _))).cells.2.2.2.1, trivial⟩ (fun hHeld => ?_)
    have hb := below_drew1 (Below.refl W6.heap.size W6)
    replace HM := Aside.mk (HM.out.below hb)
    replace HW := Aside.mk (HW.out.trans (hb.mono HW.out.size))
    replace HY := Aside.mk (blk_below HY.out hb)
    replace HEV := Aside.mk (blk_below HEV.out hb)
    replace HBX := Aside.mk (blk_below HBX.out hb)
    replace HG4 := Aside.mk (Nat.lt_of_lt_of_le HG4.out hb.size)
    clear hb
    generalize W6.drew = W6 at *
    refine pu_ 0 (bm 11 1) ?_
    refine pu_ 1 (bm 11 3) ?_
    refine pu_ 2 (bm 11 7) ?_
    refine pu_ 3 (bm 11 15) ?_
    refine pu_ 4 (bm 11 31) ?_
    refine pu_ 5 (bm 11 63) ?_
    refine ta_ 6 (bm 11 127) hHeld ?_
    refine pu_ 7 (bm 11 255) ?_
    refine ta_ 8 (bm 11 511) hHeld ?_
    refine one_ (i := 9) (N := some 39) (bm 11 1023) rfl rfl (by kernel_rfl) (by decide) (fun K hK => ?_)
    refine goes_ Tryd.func40 (by kernel_rfl) rfl #[.pointer (some ⟨B, 0, none⟩), .int .i64 (kc : Int), .agg #[.int .i64 c.op, .int .i64 c.n, .slice A c.data.length C]] (by rfl) rfl rfl (by (try simp only [List.map_toArray, List.map_cons, List.map_nil]); first | done | rfl) ?_
    refine (l_cons HM.out (below_low HW.out H00.out) HI.out kc HK.out t HKC.out c HC0.out A C).mono ?_
    rintro q W6b ⟨⟨A1, C1, rfl, hlen, hfd, hpost⟩⟩
    refine ⟨_, rfl, ?_⟩
    clear y0 y1 y2 c0 c1 c2 c3 c4 c5 c6 c7 c8 c9 c10 c11 c12 c13 t1 t2 t3 t4 ew ew2 hHeld
    have HPC := Aside.mk hpost
    have HFD := Aside.mk hfd
    have HLN := Aside.mk hlen
    have HBX2 := Aside.mk (show W6b.heap[g]? = some (.cells #[.int .i64 0, .int .i64 0, .int .i64 0, .int .i64 0, .int .u64 0, .int .i64 0, .slice none 0 0] 44 (0, 0)) from by obtain ⟨k', _, hT, _⟩ := hpost; exact (TK.box hT HM.out HBX.out (by decide)))
    have HEV2 := Aside.mk (show W6b.heap[w.heap.size + 1]? = some (.cells #[.int .i64 0, .int .i64 0, .int .i64 0, .int .i64 0, .int .u64 0, .int .i64 0, .slice none 0 0] 44 (0, 0)) from by obtain ⟨k', _, hT, _⟩ := hpost; exact (TK.box hT HM.out HEV.out (by decide)))
    have HY2 := Aside.mk (show W6b.heap[w.heap.size]? = some (.cells #[.int .i64 c.op, .int .i64 c.n, .slice A c.data.length C] 39 (0, 0)) from by obtain ⟨k', _, hT, _⟩ := hpost; exact (TK.box hT HM.out HY.out (by decide)))
    have HPP := Aside.mk (hpost.up H00.out HW.out)
    clear hfd hlen hpost HEV HY
    generalize heq : (callL cx lp st t c).2 = ev at *
    unfold evV
    obtain ⟨e0, e1, e2, e3, e4, e5, e6⟩ := Mo.cell7 HBX2.out
    have fz0 := blk_frozen HBX2.out 0
    have fz1 := blk_frozen HBX2.out 1
    have fz2 := blk_frozen HBX2.out 2
    have fz3 := blk_frozen HBX2.out 3
    have fz4 := blk_frozen HBX2.out 4
    have fz5 := blk_frozen HBX2.out 5
    have fz6 := blk_frozen HBX2.out 6
    obtain ⟨W7, hw7, hP7, hE7⟩ := LPost.set7 HPP.out HBX2.out HSZ.out H00.out.size (blk_lt HL.out.b) (.int .i64 ev.kind) (.int .i64 ev.thread) (.int .i64 ev.op) (.int .i64 ev.n) (.int .u64 ev.pos) (.int .i64 ev.code) (.slice A1 ev.data.length C1)
    have HFW := Aside.mk (show ∀ q, q ≠ g → W7.heap[q]? = W6b.heap[q]? from fun q hq => by rw [hw7, set7_far _ _ _ _ _ _ _ hq])
    refine hK.out _ _ (show _ from by obtain ⟨k', hm', hT, _⟩ := HPC.out; exact ⟨(blk_cell HY2.out 0).trans rfl, (blk_cell HY2.out 1).trans rfl, (blk_cell HY2.out 2).trans rfl, hm'.cells.2.2.2.1, trivial⟩) (fun hHeld => ?_)
    clear hK K
    refine norm_ (a' := ?_) ?_ ?_
    rotate_left
    · show Act.put _ (some 39) _ = _
      simp only [Act.put, List.setIfInBounds_toArray, List.set_cons_zero, List.set_cons_succ, i64_w, i32_w]
      rfl
    refine last_ (i := 10) (N := none) (bm 11 2047) rfl rfl (by kernel_rfl) (by decide) (fun K hK => ?_)
    refine skip_ (w1 := ?_) (by rfl) rfl ?_ ?_
    rotate_left
    · go_simp
      rfl
    refine hK.out _ _ ?_
    clear hK K
    refine done_ (by kernel_rfl) ?_
    clear hHeld
    rw [← hw7]
    go_upto_region 13 with (fail)
    have HP := Aside.mk (TP.mk (A := A1) (d := ev.data) hP7 hE7 ((HFW.out w.heap.size (by have := HSZ4.out; omega)).trans HY2.out) ((HFW.out _ HNE.out).trans HEV2.out) (Kd.F_step (Kd.F_mono HFD.out (fun q hq => ⟨by have := HG4.out; have := HSZ4.out; omega, by have := HG4.out; omega⟩)) (fun q hq _ => HFW.out q hq.2)))
    clear HPC hw7 hP7 hE7 HEV2 HY2 HPP HFW e0 e1 e2 e3 e4 e5 e6 fz0 fz1 fz2 fz3 fz4 fz5 fz6
    generalize hcod : codeL cx st t c = cod at *
    generalize W7 = W6 at *
    refine start_ (n := 12) (S := fun w' => w'.cell? ⟨w.heap.size, 0, none⟩ = some (.int .i64 c.op) ∧ True) (ds := []) (bm 12 0) (by kernel_rfl) rfl rfl ⟨(blk_cell (blk_drew HP.out.y) 0).trans rfl, trivial⟩ (fun hHeld => ?_)
    replace HP := Aside.mk (HP.out.below (below_drew1 (Below.refl _ _)))
    generalize W6.drew = W7 at *
    refine pu_ 0 (bm 12 1) ?_
    refine pu_ 1 (bm 12 3) ?_
    refine ta_ 2 (bm 12 7) hHeld ?_
    refine pu_ 3 (bm 12 15) ?_
    refine pu_ 4 (bm 12 31) ?_
    have fz := blk_frozen HP.out.b 0
    have ce := (blk_cell HP.out.b 0).trans rfl
    refine one_ (i := 5) (N := none) (bm 12 63) rfl rfl (by kernel_rfl) (by decide) (fun K hK => ?_)
    refine skip_ (w1 := ?_) (by rfl) rfl ?_ ?_
    rotate_left
    · go_simp
      rfl
    replace HP := Aside.mk (HP.out.set HG2.out H00.out.size (blk_lt HL.out.b) 0 (.int .i64 2) #[.int .i64 2, .int .i64 ev.thread, .int .i64 ev.op, .int .i64 ev.n, .int .u64 ev.pos, .int .i64 ev.code, .slice A1 ev.data.length C1] rfl)
    clear fz ce
    refine hK.out _ _ ⟨(blk_cell HP.out.y 0).trans rfl, trivial⟩ (fun hHeld => ?_)
    clear hK K
    generalize W7.setCell ⟨g, 0, none⟩ (.int .i64 2) = W15 at *
    refine pu_ 6 (bm 12 127) ?_
    have fz := blk_frozen HP.out.b 1
    have ce := (blk_cell HP.out.b 1).trans rfl
    refine one_ (i := 7) (N := none) (bm 12 255) rfl rfl (by kernel_rfl) (by decide) (fun K hK => ?_)
    refine skip_ (w1 := ?_) (by rfl) rfl ?_ ?_
    rotate_left
    · go_simp
      rfl
    replace HP := Aside.mk (HP.out.set HG2.out H00.out.size (blk_lt HL.out.b) 1 (.int .i64 (t : Int)) #[.int .i64 2, .int .i64 (t : Int), .int .i64 ev.op, .int .i64 ev.n, .int .u64 ev.pos, .int .i64 ev.code, .slice A1 ev.data.length C1] rfl)
    clear fz ce
    refine hK.out _ _ ⟨(blk_cell HP.out.y 0).trans rfl, trivial⟩ (fun hHeld => ?_)
    clear hK K
    generalize W15.setCell ⟨g, 1, none⟩ (.int .i64 (t : Int)) = W17 at *
    refine pu_ 8 (bm 12 511) ?_
    have fz := blk_frozen HP.out.b 2
    have ce := (blk_cell HP.out.b 2).trans rfl
    refine one_ (i := 9) (N := none) (bm 12 1023) rfl rfl (by kernel_rfl) (by decide) (fun K hK => ?_)
    refine skip_ (w1 := ?_) (by rfl) rfl ?_ ?_
    rotate_left
    · go_simp
      rfl
    replace HP := Aside.mk (HP.out.set HG2.out H00.out.size (blk_lt HL.out.b) 2 (.int .i64 c.op) #[.int .i64 2, .int .i64 (t : Int), .int .i64 c.op, .int .i64 ev.n, .int .u64 ev.pos, .int .i64 ev.code, .slice A1 ev.data.length C1] rfl)
    clear fz ce
    refine hK.out _ _ ⟨(blk_cell HP.out.y 0).trans rfl, trivial⟩ (fun hHeld => ?_)
    clear hK K
    generalize W17.setCell ⟨g, 2, none⟩ (.int .i64 c.op) = W19 at *
    refine pu_ 10 (bm 12 2047) ?_
    have fz := blk_frozen HP.out.b 5
    have ce := (blk_cell HP.out.b 5).trans rfl
    refine one_ (i := 11) (N := none) (bm 12 4095) rfl rfl (by kernel_rfl) (by decide) (fun K hK => ?_)
    refine skip_ (w1 := ?_) (by rfl) rfl ?_ ?_
    rotate_left
    · go_simp
      rfl
    replace HP := Aside.mk (HP.out.set HG2.out H00.out.size (blk_lt HL.out.b) 5 (.int .i64 cod) #[.int .i64 2, .int .i64 (t : Int), .int .i64 c.op, .int .i64 ev.n, .int .u64 ev.pos, .int .i64 cod, .slice A1 ev.data.length C1] rfl)
    clear fz ce
    refine hK.out _ _ ⟨(blk_cell HP.out.y 0).trans rfl, trivial⟩ (fun hHeld => ?_)
    clear hK K
    generalize W19.setCell ⟨g, 5, none⟩ (.int .i64 cod) = W21 at *
    refine done_ (by kernel_rfl) ?_
    clear hHeld
    obtain ⟨e0, e1, e2, e3, e4, e5, e6⟩ := Mo.cell7 HP.out.b
    obtain ⟨d0, d1, d2, d3, d4, d5, d6⟩ := Mo.cell7 HP.out.e
    have fz0 := blk_frozen HP.out.e 0
    have fz1 := blk_frozen HP.out.e 1
    have fz2 := blk_frozen HP.out.e 2
    have fz3 := blk_frozen HP.out.e 3
    have fz4 := blk_frozen HP.out.e 4
    have fz5 := blk_frozen HP.out.e 5
    have fz6 := blk_frozen HP.out.e 6
    obtain ⟨wy, hwy, hPy, hBy⟩ := LPost.set7 HP.out.p HP.out.e (Nat.le_succ _) H00.out.size (blk_lt HL.out.b) (.int .i64 2) (.int .i64 (t : Int)) (.int .i64 c.op) (.int .i64 ev.n) (.int .u64 ev.pos) (.int .i64 cod) (.slice A1 ev.data.length C1)
    have HPY := Aside.mk hPy
    have HBY := Aside.mk hBy
    have HFY := Aside.mk (Kd.F_step HP.out.f (W1 := wy) (fun q hq _ => by rw [hwy, set7_far _ _ _ _ _ _ _ (show q ≠ w.heap.size + 1 by omega)]))
    clear hPy hBy
    go_wp2
    rw [← hwy]
    refine bodyPost_ret (results_ct rfl _ _ (w.heap.size + 1) 44 #[.int .i64 2, .int .i64 (t : Int), .int .i64 c.op, .int .i64 ev.n, .int .u64 ev.pos, .int .i64 cod, .slice A1 ev.data.length C1] (0, 0) _ rfl HBY.out Tryd.underlying44 rfl (by kernel_rfl)) rfl ?_
    have hE : evL cx lp st t c = { ev with kind := 2, thread := (t : Nat), op := c.op, code := cod } := by unfold evL; rw [heq, hcod]
    rw [hE]
    exact ⟨⟨A1, C1, rfl, HLN.out, Kd.F_mono HFY.out (fun q hq => by omega), HPY.out⟩⟩
end Go.Proofs.YtgibmlbdkijflaaDoor.So
